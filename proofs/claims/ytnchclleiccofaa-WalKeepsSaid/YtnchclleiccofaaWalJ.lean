/-
  Layer 4, the log: begin. No statement is proved here; no condition.
-/
import Derived.Test.YtnchclleiccofaaWalI
namespace Go.Proofs.Ytnchclleiccofaa
open Go.RowKit

/-- What begin knows behind k sides. -/
def bgK (S : Nat → List UInt8) (h size : Nat) : Nat → Bool × Nat
  | 0 => (false, 0)
  | k + 1 => bgStep S h size (bgK S h size k) k

theorem firstT_lt {S : Nat → List UInt8} {h size side t : Nat} (hs : 0 < size) (e : firstT S h size side = some t) : t < 18446744073709551616 := by
  unfold firstT at e
  split at e
  · rename_i hrd
    split at e
    · cases e; exact rd_turn hs hrd
    · cases e
  · cases e

theorem bgK_lt {S : Nat → List UInt8} {h size : Nat} (hs : 0 < size) : ∀ k, (bgK S h size k).2 < 18446744073709551616
  | 0 => by show 0 < 18446744073709551616; omega
  | k + 1 => by
    show (bgStep S h size (bgK S h size k) k).2 < _
    unfold bgStep
    split
    · rename_i t ht
      split
      · exact firstT_lt hs ht
      · exact bgK_lt hs k
    · exact bgK_lt hs k

theorem later_is (t p : Nat) (ht : t < 18446744073709551616) (hp : p < 18446744073709551616) : later t p = decide (0 < wrap64 (IntKind.u64.wrap ((t : Int) - (p : Int)))) := by
  unfold later wrap64
  rw [IntKind.wrap_u64, Bool.eq_iff_iff, decide_eq_true_iff, decide_eq_true_iff]
  omega

set_option maxRecDepth 100000 in
set_option maxHeartbeats 4000000 in
theorem begin_any {b sb mb p ub : Nat} {d : Dk} {w : World} (hz : 128 ≤ d.sz) (hw : Well d) (h : DkAt w No b sb mb d) (hpo : ¬ Own3 b sb mb p) (hp : w.heap[p]? = some (LgObj b ub 0 0 0 0)) :
    Calls Try.prog 46 #[.pointer (some ⟨p, 0, none⟩)] w fun e w' => e = .returned (.int .i64 0) ∧ w'.heap[p]? = some (LgObj b ub (turnOf d.last (d.n / 2) (d.sz - 16)) 0 0 0) ∧ Mod (fun q => q = p) w w' := by
  refine calls_hide fun R hR => ?_
  have HD := Lib.hid h
  have HW := Lib.hid hw
  have HP := Lib.hid hp
  have HPO := Lib.hid hpo
  have hmf : ∀ (fn : Fn) (first cap : Array Value) (w : World), (Instr.makeFunc fn first cap).run Try.prog w = .ok (.func fn first cap) w := fun _ _ _ _ => rfl
  have hsz : 0 < d.sz - 16 := by omega
  obtain ⟨lv, hlv⟩ : ∃ lv, lv = w.heap.size := ⟨_, rfl⟩
  obtain ⟨w1, hw1⟩ : ∃ w1, w1 = w.alloc (.cells #[.pointer (some ⟨p, 0, none⟩)] 56) := ⟨_, rfl⟩
  have hl1 : w1.heap[lv]? = some (.cells #[.pointer (some ⟨p, 0, none⟩)] 56 (0, 0)) := by rw [hw1]; exact heap_at_new w _ hlv
  have hm1 : Mod (fun q => q = p) w w1 := by rw [hw1]; exact (Mod.refl _ w).alloc _
  have hp1 : w1.heap[p]? = some (LgObj b ub 0 0 0 0) := by rw [hw1]; exact heap_alloc_old _ hp
  have HL1 := Lib.hid hl1
  have HM1 := Lib.hid hm1
  have HP1 := Lib.hid hp1
  have HLP := Lib.hid (show ¬ lv = p from fun e => by have := lt_of_heap hp; omega)
  have HLV := Lib.hid hlv
  have HW1 := Lib.hid hw1
  clear h hw hp hpo hw1 hl1 hm1 hp1 hlv
  go_enter Try.func46, Try.ntmps46
  go_wp2_with fail
  rw [← HW1.out, ← HLV.out]
  go_loopw [3, 8] (fun fo i wr => ∃ k : Nat, k ≤ 2 ∧ i = .int .i64 k ∧ fo = .bool (bgK d.last (d.n / 2) (d.sz - 16) k).1 ∧ wr.heap[p]? = some (LgObj b ub (bgK d.last (d.n / 2) (d.sz - 16) k).2 0 0 0) ∧ wr.heap[lv]? = some (.cells #[.pointer (some ⟨p, 0, none⟩)] 56 (0, 0)) ∧ Mod (fun q => q = p) w wr) (fun _ i _ => 2 - (intOf i).toNat)
  case atStart => exact ⟨0, by omega, rfl, rfl, HP1.out, HL1.out, HM1.out⟩
  case round =>
    clear HP1 HL1 HM1 HW1
    obtain ⟨k, hk, rfl, rfl, hp, hl, hm⟩ := hrel
    have hk0 : (0 : Int) ≤ (k : Int) := Int.natCast_nonneg _
    by_cases hk2 : k < 2
    · have hk1 : (k : Int) < 2 := by omega
      have hpb := bgK_lt (S := d.last) (h := d.n / 2) hsz k
      obtain ⟨pf, pt, hpk⟩ : ∃ pf pt, bgK d.last (d.n / 2) (d.sz - 16) k = (pf, pt) := ⟨_, _, rfl⟩
      have HNEXT := Lib.hid (show bgK d.last (d.n / 2) (d.sz - 16) (k + 1) = bgStep d.last (d.n / 2) (d.sz - 16) (pf, pt) k from by rw [← hpk]; rfl)
      rw [hpk] at hp hpb ⊢
      have hdk : DkAt wr No b sb mb d := HD.out.keep hm (fun e => HPO.out (.inl e.symm)) (fun e => HPO.out (.inr (.inl e.symm))) (fun e => HPO.out (.inr (.inr e.symm))) (fun q hq => .inr fun cur fz e => by subst hq; rw [HP.out] at e; cases e)
      obtain ⟨w2, hw2⟩ : ∃ w2, w2 = (wr.alloc (.cells #[.int .i64 (k : Int)] 3)).alloc (.cells #[.int .u64 0] 34) := ⟨_, rfl⟩
      have m2 : Mod No wr w2 := by rw [hw2]; exact ((Mod.refl No wr).alloc _).alloc _
      have hs2 : w2.heap[wr.heap.size]? = some (.cells #[.int .i64 (k : Int)] 3 (0, 0)) := by rw [hw2]; exact heap_alloc_old _ (heap_alloc_new wr _)
      have ht2 : w2.heap[wr.heap.size + 1]? = some (.cells #[.int .u64 0] 34 (0, 0)) := by rw [hw2]; exact heap_at_new _ _ (by simp)
      have hz2 : w2.heap.size = wr.heap.size + 2 := by rw [hw2]; simp
      have hlp := lt_of_heap hp
      have hll := lt_of_heap hl
      have HTRY := try_begin (.pointer (some ⟨lv, 0, none⟩)) (.pointer (some ⟨wr.heap.size, 0, none⟩)) (.pointer (some ⟨wr.heap.size + 1, 0, none⟩)) w2 (fun q => q = wr.heap.size + 1)
        (fun w' => ∃ t : Nat, firstT d.last (d.n / 2) (d.sz - 16) k = some t ∧ w'.heap[wr.heap.size + 1]? = some (.cells #[.int .u64 (t : Int)] 34 (0, 0))) (fun _ => firstT d.last (d.n / 2) (d.sz - 16) k = none)
        (fun q e => by omega)
        (fun w3 hm3 => begin1_any lv wr.heap.size (wr.heap.size + 1) k _ hk2 hz HW.out ((hdk.stay m2).stay hm3) (cell_of (i := 0) ((m2.trans hm3).keep hp (fun f => f)) rfl) ((m2.trans hm3).keep hl (fun f => f)) (hm3.keep hs2 (fun f => f)) (hm3.keep ht2 (fun f => f)))
      have HTRY := Lib.hid HTRY
      have HW2 := Lib.hid hw2
      have HPP := Lib.hid hp
      have HLL := Lib.hid hl
      have HMM := Lib.hid hm
      have M2 := Lib.hid m2
      have HZ2 := Lib.hid hz2
      obtain ⟨tv, htv⟩ : ∃ tv, tv = wr.heap.size + 1 := ⟨_, rfl⟩
      have HTV := Lib.hid htv
      clear hdk hw2 m2 hs2 ht2 hz2 hp hl hm hpk htv
      go_wp2_with fail
      rw [← HW2.out]
      refine HTRY.out.mono ?_
      clear HTRY
      rintro e w5 ⟨w4, hm4, -, hm5, hcase⟩
      have hz2 := HZ2.out
      have hp4 := hm4.keep (M2.out.keep HPP.out (fun f => f)) (by omega)
      have hl4 := hm4.keep (M2.out.keep HLL.out (fun f => f)) (by omega)
      have hz4 := hm4.size
      have hp5 := hm5.keep hp4 (by omega)
      have hl5 := hm5.keep hl4 (by omega)
      have M5 := Lib.hid (show Mod (fun q => q = p) wr w5 from ((M2.out.weaken fun _ _ f => f.elim).then hm4 fun i hi e => by omega).then hm5 fun i hi e => by omega)
      have p1 := cell_of (i := 1) hp5 rfl
      have l0 := cell_of (i := 0) hl5 rfl
      have pfz := frozen_of 1 hp5
      have HP5 := Lib.hid hp5
      have HL5 := Lib.hid hl5
      rcases hcase with ⟨rfl, t, hft, ht4⟩ | ⟨rfl, hno⟩
      · have ht5 := hm5.keep ht4 (by omega)
        have t0 := cell_of (i := 0) ht5 rfl
        have htb := firstT_lt hsz hft
        have HFT := Lib.hid hft
        clear hm4 hm5 hp4 hl4 hp5 hl5 ht4 ht5 hft hz2 hz4 hlp hll
        cases pf with
        | false =>
          go_upto_region 9 with fail
          go_quiet (fail)
          go_wp2_with fail
          have hb : bgK d.last (d.n / 2) (d.sz - 16) (k + 1) = (true, t) := by rw [HNEXT.out]; unfold bgStep; rw [HFT.out]; rfl
          exact ⟨⟨k + 1, by omega, by go_num, by rw [hb], by rw [hb, heap_setCell (show (World.drewN w5 _).heap[p]? = _ from HP5.out)]; rfl, by rw [heap_setCell_ne _ HLP.out]; exact HL5.out, ((HMM.out.trans M5.out).drewN _).setCell (fun _ => rfl) _⟩, by go_light; simp only [intOf]; omega⟩
        | true =>
          have hli := later_is t pt htb hpb
          by_cases hlat : later t pt = true
          · rw [hlat] at hli
            have hpos : 0 < wrap64 (IntKind.u64.wrap ((t : Int) - (pt : Int))) := of_decide_eq_true hli.symm
            have HLAT := Lib.hid hlat
            clear hli hlat
            go_upto_region 9 with fail
            go_quiet (fail)
            go_wp2_with fail
            have hb : bgK d.last (d.n / 2) (d.sz - 16) (k + 1) = (true, t) := by rw [HNEXT.out]; unfold bgStep; rw [HFT.out]; dsimp only; rw [HLAT.out]; rfl
            exact ⟨⟨k + 1, by omega, by go_num, by rw [hb], by rw [hb, heap_setCell (show (World.drewN w5 _).heap[p]? = _ from HP5.out)]; rfl, by rw [heap_setCell_ne _ HLP.out]; exact HL5.out, ((HMM.out.trans M5.out).drewN _).setCell (fun _ => rfl) _⟩, by go_light; simp only [intOf]; omega⟩
          · have hlat : later t pt = false := by simpa using hlat
            rw [hlat] at hli
            have hneg : wrap64 (IntKind.u64.wrap ((t : Int) - (pt : Int))) ≤ 0 := Int.not_lt.1 (of_decide_eq_false hli.symm)
            have HLAT := Lib.hid hlat
            clear hli hlat
            go_upto_region 9 with fail
            go_quiet (fail)
            go_wp2_with fail
            have hb : bgK d.last (d.n / 2) (d.sz - 16) (k + 1) = (true, pt) := by rw [HNEXT.out]; unfold bgStep; rw [HFT.out]; dsimp only; rw [HLAT.out]; rfl
            exact ⟨⟨k + 1, by omega, by go_num, by rw [hb], by rw [hb]; exact HP5.out, HL5.out, (HMM.out.trans M5.out).drewN _⟩, by go_light; simp only [intOf]; omega⟩
      · have HNO := Lib.hid hno
        clear hm4 hm5 hp4 hl4 hp5 hl5 hno hz2 hz4 hlp hll
        go_upto_region 9 with fail
        go_quiet (fail)
        go_wp2_with fail
        have hb : bgK d.last (d.n / 2) (d.sz - 16) (k + 1) = (pf, pt) := by rw [HNEXT.out]; unfold bgStep; rw [HNO.out]
        exact ⟨⟨k + 1, by omega, by go_num, by rw [hb], by rw [hb]; exact HP5.out, HL5.out, (HMM.out.trans M5.out).drewN _⟩, by go_light; simp only [intOf]; omega⟩
    · have hk3 : k = 2 := by omega
      subst hk3
      have HPP := Lib.hid hp
      have HMM := Lib.hid hm
      clear hp hl hm
      go_wp2_with fail
      exact fin hR ⟨rfl, HPP.out, HMM.out⟩

end Go.Proofs.Ytnchclleiccofaa
