/-
  WalResets: the walk. No statement is proved here; no condition.
-/
import Derived.Test.YtnchclleiccofaaWalX
namespace Go.Proofs.Ytnchclleiccofaa
open Go.RowKit

/-- The loop's state. -/
def RsInv (w wr : World) (b p i : Nat) (v : Value) (B : List (List UInt8)) : Prop :=
  ∃ O L, St w wr 80 b p O L ∧ Recs wr O v B ∧ L.turn ≤ i ∧ (0 < i → L.all = B)

set_option maxRecDepth 100000 in
set_option maxHeartbeats 4000000 in
theorem resets_walk (a0 : Int) (h0 : (Lit.int .u8 a0).wf = true) (a : Option Addr) (len cap : Nat) (zs : List Int) {w : World} (hin : InRow .u8 w a len cap zs) :
    Calls Try.prog 9 #[.int .u8 a0, .slice a len cap] w fun e w' => e = .returned (.bool true) ∧ Mod No w w' := by
  refine calls_hide fun R hR => ?_
  obtain ⟨bs, hbl, hbs⟩ := in_bytes hin
  obtain ⟨x, rfl⟩ := byte_of a0 h0
  have hx := UInt8.toNat_lt x
  generalize x.toNat = n0 at *
  have HIN := Lib.hid hbs
  have HBL := Lib.hid hbl
  clear hin hbs hbl h0
  by_cases h6 : 6 < len
  · have h6' : (6 : Int) < (len : Int) := by omega
    go_enter Try.func9, Try.ntmps9
    go_wp2_with fail
    with_reducible refine (known4_any w).mono ?_
    rintro e w1 ⟨rfl, hm1⟩
    have HM1 := Lib.hid hm1
    clear hm1
    go_wp2_with fail
    exact fin hR ⟨rfl, HM1.out⟩
  · have h6' : (len : Int) ≤ 6 := by omega
    go_enter Try.func9, Try.ntmps9
    go_wp2_with fail
    with_reducible refine (known4_any w).mono ?_
    rintro e w1 ⟨rfl, hm1⟩
    have HM1 := Lib.hid hm1
    clear hm1
    go_wp2_with fail
    with_reducible refine (disk_new No 80 256 w1 (no_lt w1)).mono ?_
    rintro e w2 ⟨b, sb, mb, rfl, hb1, hb2, hb3, hd2, hm2⟩
    have HD2 := Lib.hid (show DkAt w2 No b sb mb (Dk.new 80 256) ∧ (w.heap.size ≤ b ∧ w.heap.size ≤ sb ∧ w.heap.size ≤ mb) ∧ Mod No w w2 from ⟨hd2, by have := HM1.out.size; omega, HM1.out.trans hm2⟩)
    clear hb1 hb2 hb3 hd2 hm2
    go_wp2_with fail
    with_reducible refine (St.first (N := 80) (by decide) (by decide) HD2.out.1 HD2.out.2.1 HD2.out.2.2).mono ?_
    rintro e w3 ⟨p, v0, O, rfl, hst, hr0, hm3⟩
    obtain ⟨va, vc, rfl⟩ := hr0.len
    have HST := Lib.hid hst
    clear hst hr0 hm3
    go_wp2_with fail
    with_reducible refine (HST.out.batch 2 2 rfl (by decide) a len cap bs HBL.out (by omega) (HIN.out.keep (S := No) HST.out.mod (fun _ _ _ f => f))).mono ?_
    rintro e w4 ⟨v, rfl, hrv, hst4, -⟩
    obtain ⟨va4, vc4, rfl⟩ := hrv.len
    have HLB := Lib.hid (show (batchB 2 bs).length = len by rw [batchB_len, HBL.out])
    have HFIT := Lib.hid (show ∀ at_, at_ = 0 → wrE (80 / 2) 240 at_ (batchB 2 bs) = 0 from fun at_ e => by subst e; exact wrE_batch (by have := HBL.out; omega))
    obtain ⟨B, hB⟩ : ∃ B, B = batchB 2 bs := ⟨_, rfl⟩
    rw [← hB] at hrv HLB HFIT
    rw [← hB, HLB.out]
    have HINV := Lib.hid (show RsInv w w4 b p 0 (.slice va4 len vc4) B from ⟨O, _, hst4, by rw [← HLB.out]; exact hrv, Nat.le_refl _, fun h => absurd h (by decide)⟩)
    have hlB : len ≤ 6 := by omega
    clear hrv hst4 hB HST HIN HBL HD2
    go_wp2_with fail
    go_loopw [10] (fun q wr => ∃ i : Nat, i ≤ n0 % 40 + 1 ∧ q = .int .i64 i ∧ RsInv w wr b p i (.slice va4 len vc4) B) (fun q _ => 41 - (intOf q).toNat)
    case atStart => exact ⟨0, by omega, rfl, HINV.out⟩
    case round =>
      clear HINV
      obtain ⟨i, hi, rfl, hinv⟩ := hrel
      have hi0 : (0 : Int) ≤ (i : Int) := Int.natCast_nonneg _
      have hr1 : (0 : Int) ≤ (n0 : Int) % 40 := Int.emod_nonneg _ (by decide)
      have hr2 : (n0 : Int) % 40 ≤ 39 := by omega
      by_cases hlt : i < n0 % 40 + 1
      · have hi1 : (i : Int) < (n0 : Int) % 40 + 1 := by omega
        obtain ⟨O, L, hst, hrv, ht, hall⟩ := hinv
        have HI := Lib.hid (And.intro hst (And.intro hrv (And.intro ht hall)))
        clear hst hrv ht hall hi
        go_wp2_with fail
        with_reducible refine ((HI.out.1.stay ((Mod.refl No wr).alloc _)).batch i i rfl (by omega) _ 3 3 [255, 255, 255] rfl (by decide) ?hin).mono ?_
        case hin => exact in_lit [255, 255, 255] (heap_alloc_new _ _) rfl rfl
        rintro e w5 ⟨v5, rfl, hr5, hst5, hm5⟩
        have HR5 := Lib.hid hr5.no
        have HST5 := Lib.hid hst5
        have HB5 := Lib.hid (HI.out.2.1.keep (((Mod.refl No wr).alloc _).trans hm5) (fun _ f => f.elim))
        obtain ⟨a5, c5, rfl⟩ := hr5.len
        have HB3 := Lib.hid (show (batchB i [255, 255, 255]).length = 3 from batchB_len _ _)
        have HL5 := Lib.hid (show (batchB i [255, 255, 255]).length ≤ 1000000000 by rw [batchB_len]; decide)
        rw [HB3.out] 
        clear hr5 hst5 hm5
        go_wp2_with fail
        rw [← HB3.out]
        with_reducible refine (HST5.out.commit HR5.out HL5.out).mono ?_
        rintro e w6 ⟨rfl, hst6, hm6⟩
        have HST6 := Lib.hid hst6
        have hb6 := HB5.out.keep hm6 (fun _ e => e)
        have HB6 := Lib.hid hb6
        have HT6 := Lib.hid (stepC_turn 80 L (batchB i [255, 255, 255]))
        clear hst6 hm6 hb6 HST5 HB5 HR5
        generalize wrE _ _ _ _ = y1
        generalize stepC 80 L (batchB i [255, 255, 255]) = L6 at *
        go_wp2_with fail
        with_reducible refine (HST6.out.reset (rs := B) HB6.out.no (by rw [HLB.out]; omega) (by have := HT6.out; have := HI.out.2.2.1; omega)).mono ?_
        rw [HFIT.out 0 rfl]
        rintro e w7 ⟨rfl, hst7, hm7⟩
        have hsr : stepR 80 L6 B = ⟨L6.turn + 1, 1, secs 240 (32 + (bodyB B).length), B⟩ := by unfold stepR; rw [if_pos (HFIT.out 0 rfl)]
        rw [hsr] at hst7
        have HST7 := Lib.hid hst7
        have HB7 := Lib.hid (HB6.out.keep hm7 (fun _ e => e))
        clear hsr hst7 hm7 HB6
        go_wp2_with fail
        with_reducible refine HST7.out.count.mono ?_
        rintro e w8 ⟨rfl, h2⟩
        subst h2
        rw [HLB.out]
        go_wp2_with fail
        exact ⟨⟨i + 1, by omega, by go_num, O, _, HST7.out, HB7.out, by have := HT6.out; have := HI.out.2.2.1; show L6.turn + 1 ≤ i + 1; omega, fun _ => rfl⟩, by go_light; simp only [intOf]; omega⟩
      · have hi1 : (i : Int) = (n0 : Int) % 40 + 1 := by omega
        have hi2 : ¬ (i : Int) < (n0 : Int) % 40 + 1 := by omega
        clear hi1
        obtain ⟨O, L, hst, hrv, ht, hall⟩ := hinv
        have HI := Lib.hid (And.intro hst (And.intro hrv (And.intro ht (hall (by omega)))))
        clear hst hrv ht hall hi
        go_wp2_with fail
        with_reducible refine HI.out.1.reopen.mono ?_
        rintro e w5 ⟨p5, v5, O5, rfl, hst5, -, hr5, -, hm5⟩
        rw [HI.out.2.2.2] at hr5
        have HSM := Lib.hid (same_ok hr5 (HI.out.2.1.keep hm5 (fun _ f => f.elim)) (by rw [HLB.out]; omega))
        have HM5 := Lib.hid hst5.mod
        obtain ⟨a5, c5, rfl⟩ : ∃ a c, v5 = .slice a len c := by rw [← HLB.out]; exact hr5.len
        clear hst5 hr5 hm5
        go_wp2_with fail
        with_reducible refine HSM.out.mono ?_
        rintro e w6 ⟨rfl, hm6⟩
        have HM6 := Lib.hid hm6
        clear hm6
        go_wp2_with fail
        exact fin hR ⟨rfl, HM5.out.trans HM6.out⟩

end Go.Proofs.Ytnchclleiccofaa
