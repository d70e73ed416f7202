/-
  Layer 4, the log: its small functions. No statement is proved here; no condition.
-/
import Derived.Test.YtnchclleiccofaaWalQ
import Derived.Test.YtnchclleiccofaaLaw3
namespace Go.Proofs.Ytnchclleiccofaa
open Go.RowKit

/-- A log's struct. -/
def LgObj (b ub turn next : Nat) (at_ count : Nat) : Obj :=
  .cells #[.pointer (some ⟨b, 0, none⟩), .int .u64 (turn : Int), .int .u64 (next : Int), .int .i64 (at_ : Int), .int .i64 (count : Int), .map (some ub)] 84 (0, 0)

theorem half_any {X : Nat → Prop} {b sb mb p : Nat} {d : Dk} {w : World} (h : DkAt w X b sb mb d) (c0 : w.cell? ⟨p, 0, none⟩ = some (.pointer (some ⟨b, 0, none⟩))) :
    Calls Try.prog 67 #[.pointer (some ⟨p, 0, none⟩)] w fun e w' => e = .returned (.int .i64 ((d.n / 2 : Nat) : Int)) ∧ w' = w := by
  refine calls_hide fun R hR => ?_
  have HS := Lib.hid (sectors_ok h)
  have hn1 : 1 ≤ d.n := h.n1
  have hn2 : d.n ≤ 4096 := h.n2
  clear h
  go_enter Try.func67, Try.ntmps67
  go_wp2_with fail
  refine HS.out.mono ?_
  rintro e w' ⟨rfl, rfl⟩
  go_wp2_with fail
  exact fin hR ⟨by go_num, rfl⟩

theorem lsize_any {X : Nat → Prop} {b sb mb p : Nat} {d : Dk} {w : World} (h : DkAt w X b sb mb d) (c0 : w.cell? ⟨p, 0, none⟩ = some (.pointer (some ⟨b, 0, none⟩))) :
    Calls Try.prog 59 #[.pointer (some ⟨p, 0, none⟩)] w fun e w' => e = .returned (.int .i64 ((d.sz - 16 : Nat) : Int)) ∧ w' = w := by
  refine calls_hide fun R hR => ?_
  have HS := Lib.hid (size_ok h)
  have hz1 : 64 ≤ d.sz := h.s1
  have hz2 : d.sz ≤ 4096 := h.s2
  clear h
  go_enter Try.func59, Try.ntmps59
  go_wp2_with fail
  refine HS.out.mono ?_
  rintro e w' ⟨rfl, rfl⟩
  go_wp2_with fail
  exact fin hR ⟨by go_num, rfl⟩

set_option maxRecDepth 100000 in
set_option maxHeartbeats 800000 in
theorem lsecs_any {X : Nat → Prop} {b sb mb p : Nat} {d : Dk} {w : World} (n : Nat) (hn : n ≤ 140737488355328) (h : DkAt w X b sb mb d) (c0 : w.cell? ⟨p, 0, none⟩ = some (.pointer (some ⟨b, 0, none⟩))) :
    Calls Try.prog 61 #[.pointer (some ⟨p, 0, none⟩), .int .i64 (n : Int)] w fun e w' => e = .returned (.int .i64 ((secs (d.sz - 16) n : Nat) : Int)) ∧ Mod No w w' := by
  refine calls_hide fun R hR => ?_
  have hs : ∀ nq, Calls Try.prog 59 #[.pointer (some ⟨p, 0, none⟩)] (w.drewN nq) fun e w' => e = .returned (.int .i64 ((d.sz - 16 : Nat) : Int)) ∧ w' = w.drewN nq := fun nq =>
    lsize_any (h.stay ((Mod.refl No w).drewN nq)) c0
  have HS := Lib.hid hs
  have hz1 : 64 ≤ d.sz := h.s1
  have hz2 : d.sz ≤ 4096 := h.s2
  clear h hs c0
  generalize hm : d.sz - 16 = m at *
  have hm1 : 48 ≤ m := by omega
  have hm2 : m ≤ 4080 := by omega
  clear hm hz1 hz2
  have hmz : ((m : Int) == 0) = false := by simp; omega
  have hq0 : (0 : Int) ≤ (n : Int) / (m : Int) := Int.ediv_nonneg (Int.natCast_nonneg _) (Int.natCast_nonneg _)
  have hq1 : (n : Int) / (m : Int) ≤ 140737488355328 := by
    have h1 : (n : Int) / (m : Int) = ((n / m : Nat) : Int) := (Int.natCast_ediv n m).symm
    have h2 := Nat.div_le_self n m
    omega
  have hr0 : (0 : Int) ≤ (n : Int) % (m : Int) := Int.emod_nonneg _ (by omega)
  have HE := Lib.hid (show (n : Int) / (m : Int) + min ((n : Int) % (m : Int)) 1 = ((secs m n : Nat) : Int) by
    unfold secs
    have h1 : (n : Int) / (m : Int) = ((n / m : Nat) : Int) := (Int.natCast_ediv n m).symm
    have h2 : (n : Int) % (m : Int) = ((n % m : Nat) : Int) := (Int.natCast_emod n m).symm
    omega)
  go_enter Try.func61, Try.ntmps61
  go_wp2_with fail
  go_quiet (first | (go_at_call 59; refine Calls.quiet_of_same (HS.out _)))
  go_wp2_with fail
  exact fin hR ⟨by rw [HE.out]; rfl, (Mod.refl No w).drewN _⟩

theorem count_any {p : Nat} {v : Value} {w : World} (c4 : w.cell? ⟨p, 4, none⟩ = some v) :
    Calls Try.prog 32 #[.pointer (some ⟨p, 0, none⟩)] w fun e w' => e = .returned v ∧ w' = w := by
  refine calls_hide fun R hR => ?_
  go_enter Try.func32, Try.ntmps32
  go_wp2_with fail
  exact fin hR ⟨rfl, rfl⟩

theorem most_any {X : Nat → Prop} {b sb mb p : Nat} {d : Dk} {w : World} (at_ : Nat) (ha : at_ ≤ d.n / 2) (h : DkAt w X b sb mb d) (c0 : w.cell? ⟨p, 0, none⟩ = some (.pointer (some ⟨b, 0, none⟩))) :
    Calls Try.prog 52 #[.pointer (some ⟨p, 0, none⟩), .int .i64 (at_ : Int)] w fun e w' => e = .returned (.int .i64 (((d.n / 2 - at_) * (d.sz - 16) : Nat) : Int)) ∧ w' = w := by
  refine calls_hide fun R hR => ?_
  have H1 := Lib.hid (half_any h c0)
  have H2 := Lib.hid (lsize_any h c0)
  have hz1 : 64 ≤ d.sz := h.s1
  have hz2 : d.sz ≤ 4096 := h.s2
  have hn2 : d.n ≤ 4096 := h.n2
  clear h c0
  generalize hm : d.sz - 16 = m at *
  generalize hk : d.n / 2 = k at *
  have hm2 : m ≤ 4080 := by omega
  have hk2 : k ≤ 2048 := by omega
  clear hm hk hz1 hz2 hn2
  have hc : ((k : Int) - (at_ : Int)) * (m : Int) = (((k - at_) * m : Nat) : Int) := by
    rw [Int.natCast_mul, Int.ofNat_sub ha]
  have hb : (k - at_) * m ≤ 2048 * 4080 := Nat.mul_le_mul (by omega) hm2
  have HC := Lib.hid hc
  have b1 : (-9223372036854775808 : Int) ≤ ((k : Int) - (at_ : Int)) * (m : Int) := by rw [hc]; omega
  have b2 : ((k : Int) - (at_ : Int)) * (m : Int) ≤ 9223372036854775807 := by rw [hc]; omega
  clear hc hb
  go_enter Try.func52, Try.ntmps52
  go_wp2_with fail
  refine H1.out.mono ?_
  rintro e w' ⟨rfl, rfl⟩
  go_wp2_with fail
  refine H2.out.mono ?_
  rintro e w' ⟨rfl, rfl⟩
  go_wp2_with fail
  exact fin hR ⟨by rw [HC.out]; rfl, rfl⟩

theorem long_any {a : Option Addr} {n c : Nat} {w : World} :
    Calls Try.prog 63 #[.slice a n c] w fun e w' => e = .returned (.bool (decide ((1048576 : Int) < (n : Int)))) ∧ w' = w := by
  refine calls_hide fun R hR => ?_
  go_enter Try.func63, Try.ntmps63
  go_wp2_with fail
  exact fin hR ⟨rfl, rfl⟩

end Go.Proofs.Ytnchclleiccofaa
