/-
  slices.Grow at nil, slices.Concat, at bytes. No statement is proved here; no condition.
-/
import Derived.Test.YtnchclleiccofaaDiskB
import Derived.Lib.AppendZeros
namespace Go.Proofs.Ytnchclleiccofaa
open Go.RowKit Go.Maps

set_option maxRecDepth 100000 in
set_option maxHeartbeats 400000 in
theorem grow_nil (n : Nat) (w : World) (hn : n ≤ 140737488355328) :
    Calls Try.prog 55 #[.slice none 0 0, .int .i64 (n : Int)] w fun e w' => ∃ v, e = .returned v ∧ w'.ownsRow w.heap.size 5 1 v 0 [] ∧ Mod No w w' := by
  obtain ⟨i0, hi, hz0, hz1, hz2⟩ := info_parts info_u8
  refine calls_hide fun R hR => ?_
  by_cases h0 : n = 0
  · subst h0
    go_enter Try.func55, Try.ntmps55
    go_wp2
    exact fin hR ⟨.slice none 0 0, rfl, World.ownsRow_nil _ _ _ _, Mod.refl _ _⟩
  · have hpos : 0 < n := by omega
    have hneg : ¬ ((n : Int) < 0) := by omega
    have hn0 : (0 : Int) < (n : Int) := by omega
    have hap := fun ty => Lib.run_append_nil_zeros (P := Try.prog) w 33 3 ty 5 i0 (.int .u8 0) .i64 .i64 Try.underlying33 Try.underlying3 hi hz0 n hpos (by omega) (by omega) (by rw [hz2]; omega)
    have HAP := Lib.hid hap
    clear hap h0
    have hcap := grownCap_ge w n 0 5
    have hmax := grownCap_le_maxLen w n 0 5 (by unfold maxLen; omega)
    generalize grownCap w n 0 5 = C at *
    go_enter Try.func55, Try.ntmps55
    go_wp2_with (at_builtin; refine Lib.wpList_append_run _ rfl _ _ _ _ rfl _ _ rfl rfl _ _ (HAP.out _) ?_)
    refine fin hR ⟨.slice (some ⟨w.heap.size, 0, none⟩) 0 C, rfl, ?_, ((Mod.refl No w).drew.alloc _)⟩
    refine ⟨rfl, .inr ⟨w.heap.size, C, _, rfl, Nat.le_refl _, heap_at_new _ _ rfl, Nat.zero_le _, hmax, ?_, by simp⟩⟩
    simp [size_zeroCells]
    omega

theorem flat_take_succ (ls : List (List UInt8)) (k : Nat) (l : List UInt8) (h : ls[k]? = some l) : (ls.take (k + 1)).flatten = (ls.take k).flatten ++ l := by
  rw [List.take_add_one, h]; simp
theorem flat_take_le (ls : List (List UInt8)) (k : Nat) : (ls.take k).flatten.length ≤ ls.flatten.length := by
  have h : ls.flatten = (ls.take k).flatten ++ (ls.drop k).flatten := by rw [← List.flatten_append, List.take_append_drop]
  rw [h, List.length_append]; omega

set_option maxRecDepth 100000 in
set_option maxHeartbeats 1000000 in
theorem concat_any (X Y : Nat → Prop) (v : Value) (vals : List Value) (ls : List (List UInt8)) (w : World) (hv : Sl w X 33 v vals.length vals) (hn : vals.length = ls.length)
    (hl : ∀ (j : Nat) (l : List UInt8), ls[j]? = some l → ∃ u, vals[j]? = some u ∧ Sl w Y 5 u l.length (bv l)) (hlen : ls.flatten.length ≤ 70368744177664) (hcnt : ls.length ≤ 70368744177664) :
    Calls Try.prog 44 #[v] w fun e w' => ∃ v', e = .returned v' ∧ w'.ownsRow w.heap.size 5 1 v' ls.flatten.length (bv ls.flatten) ∧ Mod No w w' := by
  obtain ⟨i0, hi, hz0, hz1, hz2⟩ := info_parts info_u8
  obtain ⟨a, c, rfl⟩ := hv.len
  rw [hn] at hv
  have HV := Lib.hid hv
  have HL := Lib.hid hl
  have HN := Lib.hid hn
  clear hv hl hn
  obtain ⟨T, hT⟩ : ∃ T : Nat → Nat, ∀ k, T k = (ls.take k).flatten.length := ⟨_, fun _ => rfl⟩
  have HTle : ∀ k, (T k : Int) ≤ 70368744177664 := fun k => by have := flat_take_le ls k; rw [hT]; omega
  have hT0 : T 0 = 0 := by rw [hT]; rfl
  have hTS : ∀ k l, ls[k]? = some l → T (k + 1) = T k + l.length := fun k l h => by rw [hT, hT, flat_take_succ ls k l h, List.length_append]
  have HT2 := Lib.hid HTle
  have HT := Lib.hid hT
  have HTS := Lib.hid hTS
  clear HTle hT hTS
  refine calls_hide fun R hR => ?_
  rw [HN.out]
  go_enter Try.func44, Try.ntmps44
  go_wp2_with fail
  go_loop [3, 11] (fun s i => ∃ k : Nat, k ≤ ls.length ∧ i = .int .i64 k ∧ s = .int .i64 (T k)) (fun _ i => ls.length - (intOf i).toNat)
  case atStart => exact ⟨0, Nat.zero_le _, rfl, by rw [hT0]; rfl⟩
  case round =>
    clear hT0
    obtain ⟨k, hk, rfl, rfl⟩ := hrel
    by_cases hlt : k < ls.length
    · obtain ⟨l, hlk⟩ : ∃ l, ls[k]? = some l := ⟨ls[k], by simp [hlt]⟩
      obtain ⟨u, hu, hsl⟩ := HL.out k l hlk
      obtain ⟨ua, uc, rfl⟩ := hsl.len
      obtain ⟨blk, o, c', hva, _⟩ := HV.out.shape (by omega)
      cases hva
      have hcell := HV.out.cell (i := k) (by rw [HN.out]; exact hlt)
      rw [hu] at hcell
      have b1 := HT2.out k
      have b2 := HT2.out (k + 1)
      have e1 := HTS.out k l hlk
      rw [e1] at b2
      have E1 := Lib.hid e1
      clear e1 hu hlk hsl
      go_wp2_with fail
      go_round
      case rel => exact ⟨k + 1, by omega, by go_num, by rw [E1.out]; go_num⟩
      case measure => simp [intOf]; omega
    · have hk2 : k = ls.length := by omega
      subst hk2
      have HG := Lib.hid (fun w => grow_nil (T ls.length) w (by have := HT2.out ls.length; omega))
      have hb := HT2.out ls.length
      clear hk
      go_wp2_with (go_at_call 55; refine (HG.out _).mono ?_; rintro e w1 ⟨v1, rfl, ho1, hm1⟩; have HO1 := Lib.hid ho1; have HM1 := Lib.hid hm1; clear ho1 hm1)
      go_loopw [6, 27] (fun s i wr => ∃ k : Nat, k ≤ ls.length ∧ i = .int .i64 k ∧ wr.ownsRow w.heap.size 5 1 s (T k) (bv (ls.take k).flatten) ∧ Mod No w wr) (fun _ i _ => ls.length - (intOf i).toNat)
      case atStart => exact ⟨0, Nat.zero_le _, rfl, by rw [show T 0 = 0 from by rw [HT.out]; rfl]; exact HO1.out, HM1.out⟩
      case round =>
        obtain ⟨k, hk, rfl, hown, hmod⟩ := hrel
        by_cases hlt2 : k < ls.length
        · obtain ⟨l, hlk⟩ : ∃ l, ls[k]? = some l := ⟨ls[k], by simp [hlt2]⟩
          obtain ⟨u, hu, hsl⟩ := HL.out k l hlk
          obtain ⟨blk, o, c', hva, _⟩ := HV.out.shape (by omega)
          cases hva
          have hcell := HV.out.cell (i := k) (by rw [HN.out]; exact hlt2)
          rw [hu] at hcell
          have hcell := hmod.cell hcell (fun f => f)
          have HS := Lib.hid (hsl.keep hmod (fun _ _ _ f => f.elim))
          have b2 := HT2.out (k + 1)
          have e1 := HTS.out k l hlk
          have hbase : w.heap.size ≤ wr.heap.size := hmod.size
          rw [e1] at b2
          have E1 := Lib.hid e1
          have EF := Lib.hid (flat_take_succ ls k l hlk)
          have HO := Lib.hid hown
          have HM := Lib.hid hmod
          clear e1 hu hlk hsl hown hmod
          rename_i sv _
          go_wp2_with (at_builtin; refine app_sl _ rfl _ _ 33 rfl w.heap.size 5 i0 (.int .u8 0) 1 1 Try.underlying33 hi hz0 hz1 hz2 rfl (by decide) _ _ _ rfl HO.out Y 5 _ _ _ rfl HS.out ?_ (bv_one l) ?_ ?_ hbase ?_)
          · unfold maxLen; omega
          · omega
          intro v' w2 hown2 hg2 _
          have HO2 := Lib.hid hown2
          have HM2 := Lib.hid (Mod.of_grown (S := fun q => w.heap.size ≤ q) hg2 (fun q e _ => (HO.out.lt _ e).1))
          clear hown2 hg2
          go_wp2
          refine ⟨⟨k + 1, by omega, by go_num, ?_, ?_⟩, by simp [intOf]; omega⟩
          · rw [E1.out, EF.out]
            have := HO2.out
            simpa [bv] using this
          · exact HM.out.then HM2.out (fun i hi hq => by omega)
        · have hk3 : k = ls.length := by omega
          subst hk3
          have HO := Lib.hid hown
          have HM := Lib.hid hmod
          clear hown hmod hk
          go_wp2
          refine fin hR ⟨_, rfl, ?_, HM.out⟩
          have := HO.out
          rw [HT.out, List.take_length] at this
          exact this

end Go.Proofs.Ytnchclleiccofaa
