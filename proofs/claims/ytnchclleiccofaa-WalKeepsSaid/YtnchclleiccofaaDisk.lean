/-
  Layer 3, the disk: its small functions. No statement is proved here; no condition.
-/
import Derived.Test.YtnchclleiccofaaMem
namespace Go.Proofs.Ytnchclleiccofaa
open Go.RowKit

set_option maxRecDepth 100000 in
set_option maxHeartbeats 400000 in
theorem within_any (x l m : Int) (w : World) :
    Calls Try.prog 37 #[.int .i64 x, .int .i64 l, .int .i64 m] w fun e w' => e = .returned (.int .i64 (min (max x l) m)) ∧ w = w' := by
  refine calls_hide fun R hR => ?_
  rcases Int.lt_or_le x l with h1 | h1
  · rcases Int.lt_or_le m l with h2 | h2
    · have e1 : min (max x l) m = m := by omega
      rw [e1] at hR; clear e1
      go_enter Try.func37, Try.ntmps37
      go_wp2
      exact fin hR ⟨rfl, rfl⟩
    · have e1 : min (max x l) m = l := by omega
      rw [e1] at hR; clear e1
      go_enter Try.func37, Try.ntmps37
      go_wp2
      exact fin hR ⟨rfl, rfl⟩
  · rcases Int.lt_or_le m x with h2 | h2
    · have e1 : min (max x l) m = m := by omega
      rw [e1] at hR; clear e1
      go_enter Try.func37, Try.ntmps37
      go_wp2
      exact fin hR ⟨rfl, rfl⟩
    · have e1 : min (max x l) m = x := by omega
      rw [e1] at hR; clear e1
      go_enter Try.func37, Try.ntmps37
      go_wp2
      exact fin hR ⟨rfl, rfl⟩

set_option maxRecDepth 100000 in
set_option maxHeartbeats 400000 in
theorem sectors_any (p : Addr) (a : Option Addr) (n c : Nat) (w : World) (h0 : w.cell? p = some (.slice a n c)) :
    Calls Try.prog 14 #[.pointer (some p)] w fun e w' => e = .returned (.int .i64 n) ∧ w = w' := by
  go_enter Try.func14, Try.ntmps14
  go_wp2
  go_ret
  exact ⟨rfl, rfl⟩

set_option maxRecDepth 100000 in
set_option maxHeartbeats 400000 in
theorem size_any (p : Addr) (sb n c : Nat) (a : Option Addr) (m k : Nat) (w : World) (hn : 0 < n) (h0 : w.cell? p = some (.slice (some ⟨sb, 0, none⟩) n c)) (h1 : w.cell? ⟨sb, 0, none⟩ = some (.slice a m k)) :
    Calls Try.prog 15 #[.pointer (some p)] w fun e w' => e = .returned (.int .i64 m) ∧ w = w' := by
  go_enter Try.func15, Try.ntmps15
  go_wp2
  go_ret
  exact ⟨rfl, rfl⟩

/-- What 'at' answers. -/
def atE (dead : Bool) (i : Int) (n : Nat) : Int := if dead then 32 else if i < 0 ∨ (n : Int) ≤ i then 30 else 0

set_option maxRecDepth 100000 in
set_option maxHeartbeats 400000 in
theorem at_any (b : Nat) (sa : Option Addr) (n c : Nat) (vm : Value) (cut : Int) (dead : Bool) (i : Int) (w : World)
    (hb : w.heap[b]? = some (.cells #[.slice sa n c, vm, .int .i64 cut, .bool dead] 31 (0, 0))) :
    Calls Try.prog 38 #[.pointer (some ⟨b, 0, none⟩), .int .i64 i] w fun e w' => e = .returned (.int .i64 (atE dead i n)) ∧ w = w' := by
  have c0 := cell_of (i := 0) hb rfl
  have c3 := cell_of (i := 3) hb rfl
  clear hb
  refine calls_hide fun R hR => ?_
  cases dead
  · rcases Int.lt_or_le i 0 with h1 | h1
    · go_enter Try.func38, Try.ntmps38
      go_wp2
      exact fin hR ⟨by simp [atE, h1], rfl⟩
    · rcases Int.lt_or_le i n with h2 | h2
      · go_enter Try.func38, Try.ntmps38
        go_wp2
        exact fin hR ⟨by simp [atE]; omega, rfl⟩
      · go_enter Try.func38, Try.ntmps38
        go_wp2
        exact fin hR ⟨by simp [atE]; omega, rfl⟩
  · go_enter Try.func38, Try.ntmps38
    go_wp2
    exact fin hR ⟨by simp [atE], rfl⟩

set_option maxRecDepth 100000 in
set_option maxHeartbeats 400000 in
theorem powered_any (b : Nat) (vs vm : Value) (cut : Int) (dead : Bool) (w : World) (hcut : -1 ≤ cut) (hcut2 : cut ≤ 9223372036854775807)
    (hb : w.heap[b]? = some (.cells #[vs, vm, .int .i64 cut, .bool dead] 31 (0, 0))) :
    Calls Try.prog 39 #[.pointer (some ⟨b, 0, none⟩)] w fun e w' =>
      e = .returned (.int .i64 (if cut = 0 then 32 else 0)) ∧
      w'.heap[b]? = some (.cells #[vs, vm, .int .i64 (if 0 < cut then cut - 1 else cut), .bool (if cut = 0 then true else dead)] 31 (0, 0)) ∧ Mod (· = b) w w' ∧ w'.heap.size = w.heap.size := by
  have c2 := cell_of (i := 2) hb rfl
  have c3 := cell_of (i := 3) hb rfl
  have f2 := frozen_of 2 hb
  have f3 := frozen_of 3 hb
  have HB := Lib.hid hb
  clear hb
  refine calls_hide fun R hR => ?_
  by_cases h0 : cut = 0
  · subst h0
    go_enter Try.func39, Try.ntmps39
    go_wp2
    exact fin hR ⟨rfl, by rw [heap_setCell HB.out]; rfl, (Mod.refl (· = b) _).setCell (fun _ => rfl) _, by simp⟩
  · have hb0 : (cut == 0) = false := by simpa using h0
    by_cases h1 : 0 < cut
    · go_enter Try.func39, Try.ntmps39
      go_wp2
      exact fin hR ⟨by simp [h0], by rw [heap_setCell HB.out]; simp [h0, h1], (Mod.refl (· = b) _).setCell (fun _ => rfl) _, by simp⟩
    · go_enter Try.func39, Try.ntmps39
      go_wp2
      refine fin hR ⟨by simp [h0], ?_, Mod.refl _ _, rfl⟩
      rw [HB.out, if_neg (by omega), if_neg h0]

set_option maxRecDepth 100000 in
set_option maxHeartbeats 400000 in
theorem cut_any (b : Nat) (vs vm : Value) (cut n : Int) (dead : Bool) (w : World)
    (hb : w.heap[b]? = some (.cells #[vs, vm, .int .i64 cut, .bool dead] 31 (0, 0))) :
    Calls Try.prog 23 #[.pointer (some ⟨b, 0, none⟩), .int .i64 n] w fun e w' =>
      e = .returned (.tuple #[]) ∧
      w'.heap[b]? = some (.cells #[vs, vm, .int .i64 (max n 0), .bool dead] 31 (0, 0)) ∧ Mod (· = b) w w' ∧ w'.heap.size = w.heap.size := by
  have c2 := cell_of (i := 2) hb rfl
  have f2 := frozen_of 2 hb
  have HB := Lib.hid hb
  clear hb
  refine calls_hide fun R hR => ?_
  rcases Int.lt_or_le n 0 with h1 | h1
  · go_enter Try.func23, Try.ntmps23
    go_wp2
    go_end0
    refine fin hR ⟨rfl, ?_, (Mod.refl (· = b) _).setCell (fun _ => rfl) _, by simp⟩
    rw [heap_setCell HB.out, show max n 0 = 0 by omega]; rfl
  · go_enter Try.func23, Try.ntmps23
    go_wp2
    go_end0
    refine fin hR ⟨rfl, ?_, (Mod.refl (· = b) _).setCell (fun _ => rfl) _, by simp⟩
    rw [heap_setCell HB.out, show max n 0 = n by omega]; rfl

set_option maxRecDepth 100000 in
set_option maxHeartbeats 400000 in
theorem dead_any (b : Nat) (vs vm vc : Value) (dead : Bool) (w : World)
    (hb : w.heap[b]? = some (.cells #[vs, vm, vc, .bool dead] 31 (0, 0))) :
    Calls Try.prog 26 #[.pointer (some ⟨b, 0, none⟩)] w fun e w' => e = .returned (.bool dead) ∧ w = w' := by
  have c3 := cell_of (i := 3) hb rfl
  clear hb
  go_enter Try.func26, Try.ntmps26
  go_wp2
  go_ret
  exact ⟨rfl, rfl⟩

end Go.Proofs.Ytnchclleiccofaa
