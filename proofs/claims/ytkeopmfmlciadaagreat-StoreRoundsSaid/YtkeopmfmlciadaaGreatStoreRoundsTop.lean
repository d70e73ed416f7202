/-
  StoreRounds: for every input the law returns true, and its arguments read as they did. No conditions beyond the given statement's own.
-/
import Derived.Test.YtkeopmfmlciadaaGreatJLawFive
import Derived.ProofKit
import Derived.OpenShut
import Derived.ShutString
import Derived.ChangeOld
namespace Go.Proofs.YtkeopmfmlciadaaGreat
open Go.RowKit Go.Maps

set_option maxRecDepth 100000 in
set_option maxHeartbeats 4000000 in
theorem rounds5_walk (a0 : Int) (h0 : (Lit.int .u16 a0).wf = true) (aa : Option Addr) (la ca : Nat) (zs : List Int) {w : World} (hin : InRow .u8 w aa la ca zs) :
    Calls Tryz.prog 5 #[.int .u16 a0, .slice aa la ca] w fun e w' => e = .returned (.bool true) ∧ Mod No w w' := by
  refine calls_hide fun R hR => ?_
  have hmm := @run_makeMap Tryz.prog
  obtain ⟨n0, rfl, hn0⟩ : ∃ n : Nat, a0 = (n : Int) ∧ n < 65536 := by
    have h2 := bounds_u16 h0
    exact ⟨a0.toNat, by omega, by omega⟩
  obtain ⟨bs, hbl, hbs⟩ := in_bytes hin
  have HB := Lib.hid hbs
  have HBL := Lib.hid hbl
  clear hin h0 hbl hbs
  go_enter Tryz.func5, Tryz.ntmps5
  go_wp2_with fail
  with_reducible refine (known5_any w).mono ?_
  rintro e w1 ⟨rfl, hm1⟩
  have HM1 := Lib.hid hm1
  clear hm1
  by_cases h00 : la = 0
  · subst h00
    go_wp2_with fail
    exact fin hR ⟨rfl, HM1.out⟩
  by_cases h10 : 10 < la
  · have q : (10 : Int) < (la : Int) := by omega
    have q0 : ¬ (la : Int) = 0 := by omega
    go_wp2_with fail
    exact fin hR ⟨rfl, HM1.out⟩
  have q : (la : Int) ≤ 10 := by omega
  have q0 : ((la : Int) == 0) = false := by simpa using h00
  go_wp2_with fail
  with_reducible refine (disk_new No 200 256 w1 (no_lt5 w1)).mono ?_
  rintro e w3 ⟨b, sb, mb, rfl, hb1, hb2, hb3, hd3, hm3⟩
  have HD3 := Lib.hid (show DkAt w3 No b sb mb (Dk.new 200 256) ∧ (w.heap.size ≤ b ∧ w.heap.size ≤ sb ∧ w.heap.size ≤ mb) ∧ Mod No w w3 from ⟨hd3, by have := HM1.out.size; omega, HM1.out.trans hm3⟩)
  clear hb1 hb2 hb3 hd3 hm3
  go_wp2_with fail
  with_reducible refine (Sto.first (w0 := w) (n := 200) (z := 256) (N := 200) (sz := 256) (by decide) (by decide) (by decide) (by decide) HD3.out.1 HD3.out.2.1 HD3.out.2.2).mono ?_
  rintro e w4 ⟨s, O, rfl, hs4, -, -⟩
  obtain ⟨x, hx⟩ : ∃ x, x = w4.heap.size := ⟨_, rfl⟩
  obtain ⟨w5, hw5⟩ : ∃ w5, w5 = w4.alloc (.map #[] 0) := ⟨_, rfl⟩
  have HV5 := Lib.hid (show Lv w w5 200 256 b s x (fun _ => none) 7 0 by rw [hw5, hx]; exact Lv.first hs4)
  have HQ := Lib.hid hx
  have HW5 := Lib.hid hw5
  clear hx hw5 hs4 HD3 HM1
  go_upto_region 10 with fail
  rw [← HQ.out, ← HW5.out]
  go_wp2_with fail
  go_loopw [9] (fun q wr => ∃ (i : Nat) (M : Mt), i ≤ 300 ∧ q = .int .i64 i ∧ Lv w wr 200 256 b s x M (7 + i) i) (fun q _ => 301 - (intOf q).toNat)
  case atStart => exact ⟨0, _, by omega, rfl, HV5.out⟩
  case round =>
    obtain ⟨i, M, hi, rfl, hv⟩ := hrel
    have hi0 : (0 : Int) ≤ (i : Int) := Int.natCast_nonneg _
    have HV0 := Lib.hid hv
    clear hv
    by_cases hlt : i < n0 % 300
    · have hi1 : (i : Int) < (n0 : Int) % 300 := by omega
      obtain ⟨t, ht⟩ : ∃ t, t = i % 3 := ⟨_, rfl⟩
      obtain ⟨r, hr⟩ : ∃ r, r = i % la := ⟨_, rfl⟩
      have ht3 : t < 3 := by rw [ht]; exact Nat.mod_lt _ (by omega)
      have hil : r < la := by rw [hr]; exact Nat.mod_lt _ (by omega)
      have hil1 : (r : Int) < (la : Int) := by omega
      have hil0 : (0 : Int) ≤ (r : Int) := Int.natCast_nonneg _
      have E1 := Lib.hid (show (i : Int).tmod 3 = (t : Int) by rw [Int.tmod_eq_emod_of_nonneg hi0, ht]; omega)
      have E2 := Lib.hid (show IntKind.u8.wrap (t : Int) = (t : Int) by rw [IntKind.wrap_u8]; omega)
      have E9 := Lib.hid (show (i : Int).tmod (la : Int) = (r : Int) by rw [Int.tmod_eq_emod_of_nonneg hi0, hr, Int.natCast_emod])
      clear ht hr
      obtain ⟨ab, ao, rfl, hcl⟩ := HB.out.cell r hil
      obtain ⟨y, hy⟩ : ∃ y, bs[r]? = some y := ⟨bs[r]'(by rw [HBL.out]; exact hil), List.getElem?_eq_getElem _⟩
      have hyl := UInt8.toNat_lt y
      rw [bv_get?, hy] at hcl
      have hcl : w.cell? ⟨ab, ao + r, none⟩ = some (.int .u8 ((y.toNat : Nat) : Int)) := hcl
      have CL := Lib.hid (HV0.out.mod.cell hcl (fun f => f))
      generalize y.toNat = yn at *
      have E12 := Lib.hid (show IntKind.i64.wrap (yn : Int) = (yn : Int) by rw [IntKind.wrap_i64]; omega)
      have HK := Lib.hid (fun W => key5_any t (by omega) W)
      have HV := Lib.hid (fun W => value5_any i yn (by omega) (by omega) W)
      have hkin := key_seven t
      have hvl : (valT i yn).length ≤ 300 := by rw [valT_len]; omega
      have HKV := Lib.hid (And.intro hkin hvl)
      clear hcl hy hkin hvl
      go_upto_region 13 with fail
      obtain ⟨wA, hwA⟩ : ∃ wA, wA = wr := ⟨_, rfl⟩
      rw [← hwA] at CL HV0 ⊢
      have hS0 : Mod No wA wA.drew := (Mod.refl No wA).drew
      refine wp_region_T (fun w' => Mod No wA w') 99 (by kernel_rfl) ?_
      obtain ⟨wB, hwB⟩ : ∃ wB, wB = wA.drew := ⟨_, rfl⟩
      rw [← hwB]
      rw [← hwB] at hS0
      clear hwB
      refine wpAnyT_takeV 0 (some 40) ?_ rfl rfl (by kernel_rfl) (fun _ _ _ h => h) hS0 (Or.inl ⟨by rfl, ?_⟩) ?_
      rotate_left
      · (intro w' hSw; (try dsimp only at hSw); go_simp; try with_reducible rfl)
      simp only [Act.put, List.setIfInBounds_toArray, List.set_cons_zero, List.set_cons_succ]
      refine wpAnyT_takeV 1 (some 41) (.int .i64 (t : Int)) rfl rfl (by kernel_rfl) (fun _ _ _ h => h) hS0 (Or.inl ⟨by rfl, ?_⟩) ?_
      · (intro w' hSw; (try dsimp only at hSw); go_simp; exact E1.out)
      simp only [Act.put, List.setIfInBounds_toArray, List.set_cons_zero, List.set_cons_succ]
      refine wpAnyT_takeV 2 (some 42) (.int .u8 (t : Int)) rfl rfl (by kernel_rfl) (fun _ _ _ h => h) hS0 (Or.inl ⟨by rfl, ?_⟩) ?_
      · (intro w' hSw; (try dsimp only at hSw); go_simp; exact E2.out)
      simp only [Act.put, List.setIfInBounds_toArray, List.set_cons_zero, List.set_cons_succ]
      refine wpAnyT_takeV 4 (some 44) ?_ rfl rfl (by kernel_rfl) (fun _ _ _ h => h) hS0 (Or.inl ⟨by rfl, ?_⟩) ?_
      rotate_left
      · (intro w' hSw; (try dsimp only at hSw); go_simp; try with_reducible rfl)
      simp only [Act.put, List.setIfInBounds_toArray, List.set_cons_zero, List.set_cons_succ]
      refine wpAnyT_takeV 5 (some 45) ?_ rfl rfl (by kernel_rfl) (fun _ _ _ h => h) hS0 (Or.inl ⟨by rfl, ?_⟩) ?_
      rotate_left
      · (intro w' hSw; (try dsimp only at hSw); go_simp; try with_reducible rfl)
      simp only [Act.put, List.setIfInBounds_toArray, List.set_cons_zero, List.set_cons_succ]
      refine wpAnyT_takeV 6 (some 46) ?_ rfl rfl (by kernel_rfl) (fun _ _ _ h => h) hS0 (Or.inl ⟨by rfl, ?_⟩) ?_
      rotate_left
      · (intro w' hSw; (try dsimp only at hSw); go_simp; try with_reducible rfl)
      simp only [Act.put, List.setIfInBounds_toArray, List.set_cons_zero, List.set_cons_succ]
      refine wpAnyT_takeV 7 (some 47) ?_ rfl rfl (by kernel_rfl) (fun _ _ _ h => h) hS0 (Or.inl ⟨by rfl, ?_⟩) ?_
      rotate_left
      · (intro w' hSw; (try dsimp only at hSw); go_simp; try with_reducible rfl)
      simp only [Act.put, List.setIfInBounds_toArray, List.set_cons_zero, List.set_cons_succ]
      refine wpAnyT_takeV 8 (some 48) ?_ rfl rfl (by kernel_rfl) (fun _ _ _ h => h) hS0 (Or.inl ⟨by rfl, ?_⟩) ?_
      rotate_left
      · (intro w' hSw; (try dsimp only at hSw); go_simp; try with_reducible rfl)
      simp only [Act.put, List.setIfInBounds_toArray, List.set_cons_zero, List.set_cons_succ]
      refine wpAnyT_takeV 9 (some 49) (.int .i64 (r : Int)) rfl rfl (by kernel_rfl) (fun _ _ _ h => h) hS0 (Or.inl ⟨by rfl, ?_⟩) ?_
      · (intro w' hSw; (try dsimp only at hSw); go_simp; exact E9.out)
      simp only [Act.put, List.setIfInBounds_toArray, List.set_cons_zero, List.set_cons_succ]
      refine wpAnyT_takeV 10 (some 50) ?_ rfl rfl (by kernel_rfl) (fun _ _ _ h => h) hS0 (Or.inl ⟨by rfl, ?_⟩) ?_
      rotate_left
      · (intro w' hSw; (try dsimp only at hSw); go_simp; try with_reducible rfl)
      simp only [Act.put, List.setIfInBounds_toArray, List.set_cons_zero, List.set_cons_succ]
      refine wpAnyT_takeV 11 (some 51) ?_ rfl rfl (by kernel_rfl) (fun _ _ _ h => h) hS0 (Or.inl ⟨by rfl, ?_⟩) ?_
      rotate_left
      · (intro w' hSw; (try dsimp only at hSw); have cc := hSw.cell CL.out (fun f => f); go_simp; try with_reducible rfl)
      simp only [Act.put, List.setIfInBounds_toArray, List.set_cons_zero, List.set_cons_succ]
      refine wpAnyT_takeV 12 (some 52) ?_ rfl rfl (by kernel_rfl) (fun _ _ _ h => h) hS0 (Or.inl ⟨by rfl, ?_⟩) ?_
      rotate_left
      · (intro w' hSw; (try dsimp only at hSw); go_simp; try with_reducible rfl)
      simp only [Act.put, List.setIfInBounds_toArray, List.set_cons_zero, List.set_cons_succ]
      refine wpAnyT_one 3 rfl (by kernel_rfl) rfl ?_
      intro K hK
      go_simp
      go_at_call 20
      with_reducible refine (HK.out _).mono ?_
      rintro e x_3 ⟨rfl, hmx_3⟩
      show K _ _
      have hS1 := Mod.trans hS0 hmx_3
      refine hK.out _ _ (fun _ => hS1) ?_
      clear hK K
      refine wpAnyT_one 13 rfl (by kernel_rfl) rfl ?_
      intro K hK
      go_simp
      rw [E12.out]
      go_at_call 21
      with_reducible refine (HV.out _).mono ?_
      rintro e x_3_13 ⟨rfl, hmx_3_13⟩
      show K _ _
      have hS2 := Mod.trans hS1 hmx_3_13
      refine hK.out _ _ (fun _ => hS2) ?_
      clear hK K
      refine wpAnyT_takeV 14 (some 10) ?_ rfl rfl (by kernel_rfl) (fun _ _ _ h => h) hS2 (Or.inl ⟨by rfl, ?_⟩) ?_
      rotate_left
      · (intro w' hSw; (try dsimp only at hSw); go_simp; try with_reducible rfl)
      simp only [Act.put, List.setIfInBounds_toArray, List.set_cons_zero, List.set_cons_succ]
      refine wpAnyT_takeV 15 (some 11) ?_ rfl rfl (by kernel_rfl) (fun _ _ _ h => h) hS2 (Or.inl ⟨by rfl, ?_⟩) ?_
      rotate_left
      · (intro w' hSw; (try dsimp only at hSw); go_simp; try with_reducible rfl)
      simp only [Act.put, List.setIfInBounds_toArray, List.set_cons_zero, List.set_cons_succ]
      refine wpAnyT_done (by kernel_rfl) ?_ _
      have HM := Lib.hid hS2
      clear hS0 hS1 hS2 hmx_3 hmx_3_13

      generalize hkey : keyOfN t = key at *
      generalize hval : valT i yn = val at *
      have HV2 := Lib.hid (HV0.out.stay HM.out)
      obtain ⟨w7, hw7⟩ : ∃ w7, w7 = x_3_13.alloc (.cells #[.string ⟨key.toArray⟩, .string ⟨val.toArray⟩, .bool false] 32) := ⟨_, rfl⟩
      obtain ⟨g, hg⟩ : ∃ g, g = x_3_13.heap.size := ⟨_, rfl⟩
      have h7 : w7.heap[g]? = some (.cells #[.string ⟨key.toArray⟩, .string ⟨val.toArray⟩, .bool false] 32 (0, 0)) := by rw [hw7, hg]; exact heap_alloc_new _ _
      have HON := Lib.hid ((HV2.out.stay (show Mod No x_3_13 w7 by rw [hw7]; exact (Mod.refl No _).alloc _)).one (by decide) (by decide) (by omega) HKV.out.1 HKV.out.2 (by omega) h7)
      have HG := Lib.hid hg
      have HW7 := Lib.hid hw7
      generalize (⟨key.toArray⟩ : ByteArray) = KK at *
      generalize (⟨val.toArray⟩ : ByteArray) = VV at *
      clear h7 hg hw7 hkey hval HK HV HKV CL HM HV2 HV0
      go_wp2_with (rw [← HW7.out, ← HG.out])
      with_reducible refine HON.out.mono ?_
      rintro e w8 ⟨rfl, W, hst, h8⟩
      have HV8 := Lib.hid h8
      clear h8 HON HW7 HG
      go_wp2_with fail
      exact ⟨⟨i + 1, _, by omega, by go_num, HV8.out⟩, by go_light; simp only [intOf]; omega⟩
    · have hi1 : (n0 : Int) % 300 ≤ (i : Int) := by omega
      go_wp2_with fail
      with_reducible refine (HV0.out.alike (by omega)).mono ?_
      rintro e w8 ⟨rfl, h8, -⟩
      have HV7 := Lib.hid h8
      clear h8 HV0
      go_wp2_with fail
      with_reducible refine (HV7.out.reopen (by omega)).mono ?_
      rintro e w9 ⟨s', rfl, h9⟩
      have HV8 := Lib.hid h9
      clear h9 HV7
      go_wp2_with fail
      with_reducible refine (HV8.out.alike (by omega)).mono ?_
      rintro e w10 ⟨rfl, h10, -⟩
      have HM10 := Lib.hid h10.mod
      clear h10 HV8
      go_wp2_with fail
      exact fin hR ⟨rfl, HM10.out⟩

end Go.Proofs.YtkeopmfmlciadaaGreat
namespace Go.Proofs.YtkeopmfmlciadaaGreat.lawStoreRounds
open Go.ChangeShapes Go.WideShapes Go.ChangeAt Go.RowKit
open Go.ChangeMaps (open_string shut_string)

theorem own : ownKnob Tryz.prog.godebug = none := by kernel_rfl
theorem laidOut : laidOutB Tryz.prog = true := by kernel_rfl

set_option maxRecDepth 100000 in
theorem lifted (os : Os) (started : os.Started) (H : Type) (enc : TypeId × Value → H) :
    ReturnsInHanded {} Tryz.checked os 5 .any (Rows.storeRoundsSpec.pre6 enc Tryz.prog Tryz.f5 Rows.storeRoundsRow.domain false) (Rows.storeRoundsSpec.post enc Tryz.prog Tryz.f5 false true false false) := by
  refine returnsInHanded_of_change (C := Tryz.checked) own started (by kernel_rfl) Tryz.func5
    (ChangeSpec.witness6 (enc := enc) (C := Tryz.checked) false ⟨#[], #[.int .u16 0, .slice none 0 0], []⟩ 8 (by kernel_rfl) (by kernel_rfl) (by kernel_rfl) (by kernel_rfl)) ?_
  intro W base args ds gs before hval0 hW _ _
  have hval : ∀ (j : Nat) t v, Tryz.f5.params[j]? = some t → args[j]? = some v → Value.okWide Tryz.prog W .any base t v := hval0
  have hW' := hW
  obtain ⟨p, q, hA0, hV, rfl, hfz, hnd⟩ := hW
  have hA : DataW.TrodAll enc Tryz.prog W 0 (fun _ => true) true Tryz.f5.params.toList args.toList ds p := hA0
  rw [Tryz.params5] at hA hval
  obtain ⟨v0, vs0, d0, ds0, p0, q0, hargs, rfl, rfl, h0, r0⟩ := trodAll_cons hA
  obtain ⟨v1, vs1, d1, ds1, p1, q1, rfl, rfl, rfl, h1, r1⟩ := trodAll_cons r0
  obtain ⟨rfl, rfl, rfl⟩ := trodAll_nil r1
  obtain rfl : args = #[v0, v1] := by cases args; simp_all
  obtain ⟨rfl, rfl⟩ := trodVars_none hV
  obtain ⟨a0, rfl, rfl, rfl, w0⟩ := open_int Tryz.underlying44 (hval 0 44 v0 rfl rfl) h0
  obtain ⟨a1, len1, cap1, rfl⟩ := okWide_slice Tryz.underlying45 (hval 1 45 v1 rfl rfl)
  have k1 := h1
  have lt1 : ∀ x ∈ p1, x.block < W.heap.size := by obtain ⟨m, hm⟩ := k1; exact DataW.trod_lt m _ _ _ hm
  obtain ⟨z1, w1⟩ : ∃ zs, InRow .u8 W a1 len1 cap1 zs := by
    obtain ⟨fuel, hf⟩ := h1
    rcases open_ints Tryz.underlying45 Tryz.underlying5 (by kernel_rfl) hf with ⟨hcs, _⟩ | ⟨x, l, c, zs, hcs, _, hl, hm, hz, _, hcell, hwz⟩
    · simp [Value.cells] at hcs
      obtain ⟨rfl, rfl, rfl⟩ := hcs
      exact ⟨[], .inl ⟨rfl, rfl, rfl, rfl⟩⟩
    · simp [Value.cells] at hcs
      obtain ⟨rfl, rfl, rfl⟩ := hcs
      exact ⟨zs, .inr ⟨_, rfl, hl, hm, by simpa using hz, hcell, hwz⟩⟩
  clear hA0 hval0
  refine (rounds5_walk a0 w0 a1 len1 cap1 z1 w1).mono fun e W' ⟨he, hm⟩ => ?_
  have bel := hm.below
  subst he
  exact ⟨_, rfl, _, _, _, [], _, [], hW', trodAll_mk1 (shut_bool Tryz.underlying4 _), (trodAll_cons_mk (shut_int Tryz.underlying44 w0) (trodAll_cons_mk (Below.trod laidOut (by kernel_rfl) (of_decide_eq_true (by kernel_rfl)) k1 bel lt1) trodAll_mk0)), rfl, bel.frame _, fun h => by cases h⟩

/-- The statement. -/
theorem proved : Rows.StoreRoundsSaid :=
  OpenClaim.holds_of_wide 5 Tryz.f5 rfl rfl rfl rfl rfl rfl rfl ⟨rfl, rfl, rfl, rfl, rfl⟩ rfl rfl rfl rfl rfl (by kernel_rfl) Tryz.func5 (by kernel_rfl)
    (of_decide_eq_true (by kernel_rfl)) (by unfold Func.isWrapper; first | (rw [if_pos (by decide +kernel)]; kernel_rfl) | (rw [if_neg (by decide +kernel)]; exact ⟨rfl, rfl⟩))
    (fun os started H enc _ => lifted os started H enc)

end Go.Proofs.YtkeopmfmlciadaaGreat.lawStoreRounds
