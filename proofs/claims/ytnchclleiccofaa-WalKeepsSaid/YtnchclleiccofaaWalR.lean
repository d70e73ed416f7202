/-
  Layer 4, the log: write. No statement is proved here; no condition.
-/
import Derived.Test.YtnchclleiccofaaWalO
namespace Go.Proofs.Ytnchclleiccofaa
open Go.RowKit

/-- What write answers. -/
def wrE (H m at_ : Nat) (rs : List (List UInt8)) : Int := if rs.any isLong = true then 42 else if (H - at_) * m < 32 + (bodyB rs).length then 40 else 0

theorem Recs.mem_short {rs : List (List UInt8)} (h : rs.any isLong = false) : ∀ r ∈ rs, r.length ≤ 1048576 := fun r hr => by
  have h1 := List.any_eq_false.1 h r hr
  unfold isLong at h1
  simp only [decide_eq_true_eq] at h1
  omega

set_option maxRecDepth 100000 in
set_option maxHeartbeats 4000000 in
theorem wwrite_any {b sb mb p ub : Nat} {d : Dk} {w : World} {v : Value} {rs : List (List UInt8)} {turn0 next0 at0 c0 : Nat} (turn next at_ m H F : Nat) (hm : d.sz = m + 16) (hH : d.n / 2 = H) (hF : F = turn % 2 * H + at_) (hz : 112 ≤ m) (hw : Well d) (h : DkAt w No b sb mb d)
    (hp : w.heap[p]? = some (LgObj b ub turn0 next0 at0 c0)) (hub : Mp w 3 ub (.map [])) (hne : ub ≠ mb) (hv : Recs w No v rs) (hl : rs.length ≤ 1000000000) (ha : at_ ≤ H) (ht : turn < 4611686018427387904) (hn : next + 1 < 4611686018427387904) :
    Calls Try.prog 51 #[.pointer (some ⟨p, 0, none⟩), .int .u64 (turn : Int), .int .u64 (next : Int), .int .i64 (at_ : Int), v] w fun e w' =>
      (wrE H m at_ rs ≠ 0 ∧ e = .returned (.tuple #[.int .i64 0, .int .i64 (wrE H m at_ rs)]) ∧ Mod No w w') ∨
      (wrE H m at_ rs = 0 ∧ at_ + secs m (32 + (bodyB rs).length) ≤ H ∧ e = .returned (.tuple #[.int .i64 ((at_ + secs m (32 + (bodyB rs).length) : Nat) : Int), .int .i64 0]) ∧
        (∃ d', d'.n = d.n ∧ d'.sz = d.sz ∧ Well d' ∧ DkAt w' No b sb mb d' ∧ Laid d.last d'.last m turn next F (secs m (32 + (bodyB rs).length)) (frameB turn next rs)) ∧ Mp w' 3 ub (.map []) ∧ Mod (fun q => Own3 b sb mb q ∨ q = ub) w w') := by
  refine calls_hide fun R hR => ?_
  obtain ⟨a, c, rfl⟩ := hv.len
  have hn2 : d.n ≤ 4096 := h.n2
  have hz2 : d.sz ≤ 4096 := h.s2
  have HC := Lib.hid (contains_any hv hl)
  have c00 := cell_of (i := 0) hp rfl
  have HH := Lib.hid (And.intro hm (And.intro hH hF))
  have HD := Lib.hid (And.intro hw (And.intro h (And.intro hp (And.intro hub hv))))
  have hH2 : H ≤ 2048 := by omega
  have hm2 : m ≤ 4080 := by omega
  have hM : (H - at_) * m ≤ 2048 * 4080 := Nat.mul_le_mul (by omega) hm2
  have hMD : (H - at_) * m ≤ d.n * d.sz := Nat.mul_le_mul (by omega) (by omega)
  cases hlong : rs.any isLong with
  | true =>
    rw [hlong] at HC
    have HE := Lib.hid (show wrE H m at_ rs = 42 by unfold wrE; rw [if_pos hlong])
    clear hw h hp hub hv c00 hm hH hF hlong hMD
    go_enter Try.func51, Try.ntmps51
    go_wp2_with fail
    with_reducible refine HC.out.mono ?_
    rintro e w' ⟨rfl, h2⟩
    subst h2
    go_wp2_with fail
    exact fin hR (.inl ⟨by rw [HE.out]; decide, by rw [HE.out]; rfl, Mod.refl _ _⟩)
  | false =>
    rw [hlong] at HC
    have hsh := Recs.mem_short hlong
    have HB := bytes_any hv (fun r hr => by have := hsh r hr; omega) hl h c00
    obtain ⟨N, hN⟩ : ∃ N, N = min (32 + (bodyB rs).length) (d.n * d.sz + 1) := ⟨_, rfl⟩
    obtain ⟨A, hA⟩ : ∃ A, A = (H - at_) * m := ⟨_, rfl⟩
    rw [← hN] at HB
    rw [← hA] at hM hMD
    have HB := Lib.hid HB
    by_cases hgt : A < 32 + (bodyB rs).length
    · have HE := Lib.hid (show wrE H m at_ rs = 40 by unfold wrE; rw [if_neg (by rw [hlong]; decide), if_pos (by rw [← hA]; exact hgt)])
      have hAN : (A : Int) < (N : Int) := by omega
      have HA := Lib.hid hA
      clear hw h hp hub hv hm hH hF hlong hMD hsh hN hgt hA c00
      go_enter Try.func51, Try.ntmps51
      go_wp2_with fail
      with_reducible refine HC.out.mono ?_
      rintro e w' ⟨rfl, h2⟩
      subst h2
      go_wp2_with fail
      with_reducible refine HB.out.mono ?_
      rintro e w1 ⟨rfl, hm1⟩
      have HMO := most_any at_ (by rw [HH.out.2.1]; exact ha) (HD.out.2.1.stay hm1) (hm1.cell (cell_of (i := 0) HD.out.2.2.1 rfl) (fun f => f))
      rw [HH.out.2.1, show d.sz - 16 = m by have := HH.out.1; omega, ← HA.out] at HMO
      have HMO := Lib.hid HMO
      have M1 := Lib.hid hm1
      clear hm1
      go_wp2_with fail
      with_reducible refine HMO.out.mono ?_
      rintro e w2 ⟨rfl, h2⟩
      subst h2
      go_wp2_with fail
      exact fin hR (.inl ⟨by rw [HE.out]; decide, by rw [HE.out]; rfl, M1.out⟩)
    · have HE := Lib.hid (show wrE H m at_ rs = 0 by unfold wrE; rw [if_neg (by rw [hlong]; decide), if_neg (by rw [← hA]; exact hgt)])
      have hNB : N = 32 + (bodyB rs).length := by omega
      have hNA : (N : Int) ≤ (A : Int) := by omega
      have hK : secs m (32 + (bodyB rs).length) ≤ H - at_ := secs_le (by omega) (by omega)
      have HA := Lib.hid hA
      have HNB := Lib.hid hNB
      have HSH := Lib.hid hsh
      have HK := Lib.hid hK
      have hN8 : N ≤ 2048 * 4080 := by omega
      have hkI : ((secs m N : Nat) : Int) ≤ 2048 := by rw [hNB]; omega
      have haI : (at_ : Int) ≤ 2048 := by omega
      clear hw h hp hub hv hm hH hF hlong hMD hsh hN hgt hA c00 hNB hK
      go_enter Try.func51, Try.ntmps51
      go_wp2_with fail
      with_reducible refine HC.out.mono ?_
      rintro e w' ⟨rfl, h2⟩
      subst h2
      clear HC
      go_wp2_with fail
      with_reducible refine HB.out.mono ?_
      clear HB
      rintro e w1 ⟨rfl, hm1⟩
      have HMO := most_any at_ (by rw [HH.out.2.1]; exact ha) (HD.out.2.1.stay hm1) (hm1.cell (cell_of (i := 0) HD.out.2.2.1 rfl) (fun f => f))
      rw [HH.out.2.1, show d.sz - 16 = m by have := HH.out.1; omega, ← HA.out] at HMO
      have HMO := Lib.hid HMO
      have HS := lsecs_any N (by omega) (HD.out.2.1.stay hm1) (hm1.cell (cell_of (i := 0) HD.out.2.2.1 rfl) (fun f => f))
      rw [show d.sz - 16 = m by have := HH.out.1; omega] at HS
      have HS := Lib.hid HS
      have M1 := Lib.hid hm1
      clear hm1
      go_wp2_with fail
      with_reducible refine HMO.out.mono ?_
      clear HMO
      rintro e w2 ⟨rfl, h2⟩
      subst h2
      go_wp2_with fail
      with_reducible refine HS.out.mono ?_
      clear HS
      rintro e w2 ⟨rfl, hm2'⟩
      have m2 := M1.out.trans hm2'
      have HFR := Lib.hid (frame_any turn next (HD.out.2.2.2.2.stay m2) (fun r hr => by have := HSH.out r hr; omega) (by have := HNB.out; omega) hl)
      have M2 := Lib.hid m2
      clear hm2' m2 M1
      go_wp2_with fail
      with_reducible refine HFR.out.mono ?_
      clear HFR
      rintro e w3 ⟨v', rfl, hown, hm3⟩
      have m3 := M2.out.trans hm3
      have hfl := frameB_len turn next rs
      have hLY := lay_any (v := v') (B := frameB turn next rs) turn next at_ m H F (secs m (32 + (bodyB rs).length)) (m + 16) HH.out.1 rfl HH.out.2.1 HH.out.2.2 (by rw [hfl]) hz HD.out.1 (HD.out.2.1.stay m3) (m3.keep HD.out.2.2.1 (fun f => f)) (HD.out.2.2.2.1.keep m3 (fun f => f)) hne (Sl.of_own hown (fun _ _ f => f)) (by omega) (by have := HNB.out; omega) (by have := HK.out; omega) ht hn
      have HLY := Lib.hid hLY
      have M3 := Lib.hid m3
      obtain ⟨fa, fc, rfl⟩ := own_len hown
      clear hown hm3 m3 hfl hLY M2
      go_wp2_with fail
      with_reducible refine HLY.out.mono ?_
      clear HLY
      rintro e w4 ⟨rfl, hdk, hmp, hm4⟩
      have HF := Lib.hid (And.intro hdk (And.intro hmp hm4))
      clear hdk hmp hm4
      go_wp2_with fail
      refine fin hR (.inr ⟨HE.out, by have := HK.out; omega, ?_, HF.out.1, HF.out.2.1, (M3.out.weaken fun _ _ f => f.elim).trans HF.out.2.2⟩)
      rw [← HNB.out]
      rfl

end Go.Proofs.Ytnchclleiccofaa
