/-
  WalGreat: the walk. No statement is proved here; no condition.
-/
import Derived.Test.YtnchclleiccofaaWalX
namespace Go.Proofs.Ytnchclleiccofaa
open Go.RowKit

theorem stepC_no {N : Nat} {L : Lg} {rs : List (List UInt8)} (h : wrE (N / 2) 240 L.at_ rs ≠ 0) : stepC N L rs = L := by
  unfold stepC; rw [if_neg h]
theorem stepR_no {N : Nat} {L : Lg} {rs : List (List UInt8)} (h : wrE (N / 2) 240 0 rs ≠ 0) : stepR N L rs = L := by
  unfold stepR; rw [if_neg h]

theorem wrE_zeros {H at_ n : Nat} (h1 : n ≤ 1048576) (h2 : (H - at_) * 240 < n) : wrE H 240 at_ [List.replicate n 0] = 40 := by
  unfold wrE
  rw [if_neg (by simp [isLong]; omega), if_pos (by simp [bodyB, recB, be_len]; omega)]

theorem wrE_pair {H at_ n : Nat} (h2 : (H - at_) * 240 ≤ 100000) (hn : 1000000 ≤ n) : wrE H 240 at_ [[97], List.replicate n 0] = if 1048576 < n then 42 else 40 := by
  unfold wrE
  by_cases h : 1048576 < n
  · rw [if_pos (by simp [isLong]; omega), if_pos h]
  · rw [if_neg (by simp [isLong]; omega), if_pos (by simp [bodyB, recB, be_len]; omega), if_neg h]

/-- What the first commit is answered with. -/
def grE (n : Nat) : Int := if 1 < n % 4 then 42 else 40

set_option maxRecDepth 100000 in
set_option maxHeartbeats 4000000 in
theorem great_walk (a0 : Int) (h0 : (Lit.int .u8 a0).wf = true) (a : Option Addr) (len cap : Nat) (zs : List Int) {w : World} (hin : InRow .u8 w a len cap zs) :
    Calls Try.prog 10 #[.int .u8 a0, .slice a len cap] w fun e w' => e = .returned (.bool true) ∧ Mod No w w' := by
  refine calls_hide fun R hR => ?_
  obtain ⟨bs, hbl, hbs⟩ := in_bytes hin
  obtain ⟨x, rfl⟩ := byte_of a0 h0
  have hx := UInt8.toNat_lt x
  generalize x.toNat = n0 at *
  have HIN := Lib.hid hbs
  have HBL := Lib.hid hbl
  clear hin hbs hbl h0
  by_cases h6 : 4 < len
  · have h6' : (4 : Int) < (len : Int) := by omega
    go_enter Try.func10, Try.ntmps10
    go_wp2_with fail
    with_reducible refine (known4_any w).mono ?_
    rintro e w1 ⟨rfl, hm1⟩
    have HM1 := Lib.hid hm1
    clear hm1
    go_wp2_with fail
    exact fin hR ⟨rfl, HM1.out⟩
  · have h6' : (len : Int) ≤ 4 := by omega
    go_enter Try.func10, Try.ntmps10
    go_wp2_with fail
    with_reducible refine (known4_any w).mono ?_
    rintro e w1 ⟨rfl, hm1⟩
    have HM1 := Lib.hid hm1
    clear hm1
    go_wp2_with fail
    with_reducible refine (disk_new No 80 256 w1 (no_lt w1)).mono ?_
    rintro e w2 ⟨b, sb, mb, rfl, hb1, hb2, hb3, hd2, hm2⟩
    have HD2 := Lib.hid (show DkAt w2 No b sb mb (Dk.new 80 256) ∧ (w.heap.size ≤ b ∧ w.heap.size ≤ sb ∧ w.heap.size ≤ mb) ∧ Mod No w w2 from ⟨hd2, by have := HM1.out.size; omega, HM1.out.trans hm2⟩)
    clear hb1 hb2 hb3 hd2 hm2
    go_wp2_with fail
    with_reducible refine (St.first (N := 80) (by decide) (by decide) HD2.out.1 HD2.out.2.1 HD2.out.2.2).mono ?_
    rintro e w3 ⟨p, v0, O, rfl, hst, hr0, hm3⟩
    obtain ⟨va, vc, rfl⟩ := hr0.len
    have HST := Lib.hid hst
    clear hst hr0 hm3 HD2 HM1
    go_wp2_with fail
    with_reducible refine (HST.out.batch 1 1 rfl (by decide) a len cap bs HBL.out (by omega) (HIN.out.keep (S := No) HST.out.mod (fun _ _ _ f => f))).mono ?_
    rintro e w4 ⟨v, rfl, hrv, hst4, -⟩
    obtain ⟨va4, vc4, rfl⟩ := hrv.len
    have HLB := Lib.hid (show (batchB 1 bs).length = len by rw [batchB_len, HBL.out])
    have HFIT := Lib.hid (show wrE (80 / 2) 240 (Lg.at_ ⟨0, 0, 0, []⟩) (batchB 1 bs) = 0 from wrE_batch (by have := HBL.out; show 32 + 259 * bs.length ≤ 40 * 240; omega))
    obtain ⟨B, hB⟩ : ∃ B, B = batchB 1 bs := ⟨_, rfl⟩
    rw [← hB] at hrv HLB HFIT
    rw [← hB, HLB.out]
    have HLL := Lib.hid (show B.length ≤ 1000000000 by rw [HLB.out]; omega)
    have HST4 := Lib.hid hst4
    have HR4 := Lib.hid hrv
    clear hrv hst4 hB HST HIN HBL
    go_wp2_with fail
    rw [← HLB.out]
    with_reducible refine (HST4.out.commit HR4.out.no HLL.out).mono ?_
    rw [HFIT.out]
    rintro e w5 ⟨rfl, hst5, hm5⟩
    have hs : stepC 80 ⟨0, 0, 0, []⟩ B = ⟨0, 1, 0 + secs 240 (32 + (bodyB B).length), B⟩ := by unfold stepC; rw [if_pos HFIT.out]; rfl
    rw [hs] at hst5
    have HR5 := Lib.hid (HR4.out.keep hm5 (fun _ e => e))
    have HST5 := Lib.hid hst5
    clear hs hst5 hm5 HST4 HR4
    obtain ⟨L, hL⟩ : ∃ L : Lg, L = ⟨0, 1, 0 + secs 240 (32 + (bodyB B).length), B⟩ := ⟨_, rfl⟩
    rw [← hL] at HST5
    have HALL := Lib.hid (show L.all = B ∧ L.turn = 0 by rw [hL]; exact ⟨rfl, rfl⟩)
    clear hL
    obtain ⟨M, hM⟩ : ∃ M : Nat, M = 1048575 + n0 % 4 := ⟨_, rfl⟩
    obtain ⟨ZB, hZB, hmk⟩ := make_bytes M (by omega)
    have hmI : (1048575 : Int) + (n0 : Int) % 4 = (M : Int) := by omega
    rw [← hmI] at hmk
    have kc1 := Lib.run_convert_bytes_const (P := Try.prog) w5 33 5 #[.int .u8 97] 1 1 Try.underlying33 Try.underlying5
    have HZ := Lib.hid hZB
    have HMM := Lib.hid hM
    clear hZB hM hmI
    have hr1 : (0 : Int) ≤ (n0 : Int) % 4 := Int.emod_nonneg _ (by decide)
    have hr2 : (n0 : Int) % 4 ≤ 3 := by omega
    rw [HLB.out]
    go_wp2_with fail
    have h2l : ([[97], List.replicate M 0] : List (List UInt8)).length ≤ 1000000000 := by
      rw [List.length_cons, List.length_cons, List.length_nil]; omega
    have hb40 : (80 / 2 - L.at_) * 240 ≤ 40 * 240 := Nat.mul_le_mul (Nat.sub_le _ _) (Nat.le_refl _)
    have hE1 := wrE_pair (H := 80 / 2) (at_ := L.at_) (n := M) (by omega) (by have := HMM.out; omega)
    have hE1n : wrE (80 / 2) 240 L.at_ [[97], List.replicate M 0] ≠ 0 := by rw [hE1]; split <;> decide
    have hG : wrE (80 / 2) 240 L.at_ [[97], List.replicate M 0] = grE n0 := by
      rw [hE1]; unfold grE
      have := HMM.out
      by_cases h : 1 < n0 % 4
      · rw [if_pos h, if_pos (by omega)]
      · rw [if_neg h, if_neg (by omega)]
    have hm5 : Mod No w5 _ := ((((Mod.refl No w5).alloc (.cells #[.int .u8 97] 5 (1, 2))).alloc (.cells ZB 5)).alloc (.cells #[.slice (some ⟨w5.heap.size, 0, none⟩) 1 1, .slice (some ⟨w5.heap.size + 1, 0, none⟩) M M] 33))
    with_reducible refine ((HST5.out.stay hm5).commit (rs := [[97], List.replicate M 0]) ?h2 h2l).mono ?_
    case h2 => exact recs_two (heap_at_new _ _ (by simp)) (sl_lit [97] (heap_alloc_old _ (heap_alloc_old _ (heap_alloc_new _ _))) rfl rfl (by decide)) (sl_lit (List.replicate M 0) (heap_alloc_old _ (heap_at_new _ _ (by simp))) HZ.out List.length_replicate (by have := HMM.out; unfold maxLen; omega))
    rw [stepC_no hE1n, hG]
    rintro e w6 ⟨rfl, hst6, hm6⟩
    have HST6 := Lib.hid hst6
    have HR6 := Lib.hid ((HR5.out.keep hm5 (fun _ f => f.elim)).keep hm6 (fun _ e => e))
    have HB40 := Lib.hid hb40
    have HGR := Lib.hid (show (1 < n0 % 4 → grE n0 = 42) ∧ (¬ 1 < n0 % 4 → grE n0 = 40) from ⟨fun h => by unfold grE; rw [if_pos h], fun h => by unfold grE; rw [if_neg h]⟩)
    generalize grE n0 = G at *
    clear h2l hb40 hE1 hE1n hG hm5 hst6 hm6 HST5 HR5 HZ hmk kc1
    obtain ⟨ZC, hZC, hmk⟩ := make_bytes 1048577 (by decide)
    have hmk := hmk w6
    rw [show ((1048577 : Nat) : Int) = 1048577 from rfl] at hmk
    have HZ := Lib.hid hZC
    clear hZC
    go_wp2_with fail
    have hone : ([List.replicate 1048577 0] : List (List UInt8)).length ≤ 1000000000 := by
      rw [List.length_cons, List.length_nil]; omega
    have hE2 := wrE_long (H := 80 / 2) (m := 240) (at_ := 0) (n := 1048577) (by omega)
    have hm6 : Mod No w6 _ := (((Mod.refl No w6).alloc (.cells ZC 5)).alloc (.cells #[.slice (some ⟨w6.heap.size, 0, none⟩) 1048577 1048577] 33))
    with_reducible refine ((HST6.out.stay hm6).reset (rs := [List.replicate 1048577 0]) ?h3 hone (by rw [HALL.out.2]; omega)).mono ?_
    case h3 => exact recs_one (n := 1) (heap_at_new _ _ (by simp)) (sl_lit (List.replicate 1048577 0) (heap_alloc_old _ (heap_at_new _ _ rfl)) HZ.out List.length_replicate (by unfold maxLen; omega)) rfl
    rw [stepR_no (by rw [hE2]; decide), hE2]
    rintro e w7 ⟨rfl, hst7, hm7⟩
    have HST7 := Lib.hid hst7
    have HR7 := Lib.hid ((HR6.out.keep hm6 (fun _ f => f.elim)).keep hm7 (fun _ e => e))
    clear hone hE2 hm6 hst7 hm7 HST6 HR6 HZ hmk
    obtain ⟨ZD, hZD, hmk⟩ := make_bytes 20480 (by decide)
    have hmk := hmk w7
    rw [show ((20480 : Nat) : Int) = 20480 from rfl] at hmk
    have HZ := Lib.hid hZD
    clear hZD
    go_wp2_with fail
    have hone : ([List.replicate 20480 0] : List (List UInt8)).length ≤ 1000000000 := by
      rw [List.length_cons, List.length_nil]; omega
    have hE2 := wrE_zeros (H := 80 / 2) (at_ := L.at_) (n := 20480) (by omega) (by have := HB40.out; omega)
    have hm7 : Mod No w7 _ := (((Mod.refl No w7).alloc (.cells ZD 5)).alloc (.cells #[.slice (some ⟨w7.heap.size, 0, none⟩) 20480 20480] 33))
    with_reducible refine ((HST7.out.stay hm7).commit (rs := [List.replicate 20480 0]) ?h4 hone).mono ?_
    case h4 => exact recs_one (n := 1) (heap_at_new _ _ (by simp)) (sl_lit (List.replicate 20480 0) (heap_alloc_old _ (heap_at_new _ _ rfl)) HZ.out List.length_replicate (by unfold maxLen; omega)) rfl
    rw [stepC_no (by rw [hE2]; decide), hE2]
    rintro e w8 ⟨rfl, hst8, hm8⟩
    have HST8 := Lib.hid hst8
    have HR8 := Lib.hid ((HR7.out.keep hm7 (fun _ f => f.elim)).keep hm8 (fun _ e => e))
    clear hone hE2 hm7 hst8 hm8 HST7 HR7 HZ hmk
    go_wp2_with fail
    with_reducible refine HST8.out.reopen.mono ?_
    rintro e w9 ⟨p9, v9, O9, rfl, -, hst9, hr9, -, hm9⟩
    rw [HALL.out.1] at hr9
    have HSM := Lib.hid (same_ok hr9 (HR8.out.keep hm9 (fun _ f => f.elim)) HLL.out)
    obtain ⟨a9, c9, rfl⟩ := hr9.len
    have HST9 := Lib.hid hst9
    clear hst9 hr9 hm9 HST8 HR8
    rw [HLB.out] at HSM
    rw [HLB.out]
    by_cases hq : 1 < n0 % 4
    · have hqI : (1 : Int) < (n0 : Int) % 4 := by omega
      obtain rfl : G = 42 := HGR.out.1 hq
      clear HGR hq
      go_wp2_with fail
      with_reducible refine HSM.out.mono ?_
      rintro e w10 ⟨rfl, hm10⟩
      have HST10 := Lib.hid (HST9.out.stay hm10)
      clear hm10
      go_wp2_with fail
      with_reducible refine HST10.out.count.mono ?_
      rintro e w11 ⟨rfl, h2⟩
      subst h2
      rw [HALL.out.1, HLB.out]
      go_wp2_with fail
      exact fin hR ⟨rfl, HST10.out.mod⟩
    · have hqI : (n0 : Int) % 4 ≤ 1 := by omega
      obtain rfl : G = 40 := HGR.out.2 hq
      clear HGR hq
      go_wp2_with fail
      with_reducible refine HSM.out.mono ?_
      rintro e w10 ⟨rfl, hm10⟩
      have HST10 := Lib.hid (HST9.out.stay hm10)
      clear hm10
      go_wp2_with fail
      with_reducible refine HST10.out.count.mono ?_
      rintro e w11 ⟨rfl, h2⟩
      subst h2
      rw [HALL.out.1, HLB.out]
      go_wp2_with fail
      exact fin hR ⟨rfl, HST10.out.mod⟩

end Go.Proofs.Ytnchclleiccofaa
