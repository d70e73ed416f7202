/-
  Layer 4, the log: try, over each of the two closures that it is handed. No statement is proved here; no condition.
-/
import Derived.Test.YtnchclleiccofaaWalG
namespace Go.Proofs.Ytnchclleiccofaa
open Go.RowKit

set_option maxRecDepth 100000 in
set_option maxHeartbeats 1000000 in
theorem try_begin (c1 c2 c3 : Value) (w : World) (S : Nat → Prop) (Yes Nay : World → Prop) (hS : ∀ q, S q → q < w.heap.size)
    (hf : ∀ w1, Mod No w w1 → Calls Try.prog 56 #[c1, c2, c3] w1 fun e w' => Mod S w1 w' ∧ ((e = .returned (.tuple #[]) ∧ Yes w') ∨ (e = Stopped ∧ Nay w'))) :
    Calls Try.prog 47 #[.func (.func 56) #[] #[c1, c2, c3]] w fun e w' => ∃ wy, Mod S w wy ∧ (wy.heap[w.heap.size]? = some (.cells #[.bool false] 4 (0, 0)) ∧ wy.heap[w.heap.size + 1]? = some (.cells #[.int .i64 0] 35 (0, 0))) ∧ Mod (fun q => q = w.heap.size ∨ q = w.heap.size + 1) wy w' ∧
      ((e = .returned (.tuple #[.bool true, .int .i64 0]) ∧ Yes wy) ∨ (e = .returned (.tuple #[.bool false, .int .i64 0]) ∧ Nay wy)) := by
  refine calls_hide fun R hR => ?_
  have hmf : ∀ (fn : Fn) (first cap : Array Value) (w : World), (Instr.makeFunc fn first cap).run Try.prog w = .ok (.func fn first cap) w := fun _ _ _ _ => rfl
  obtain ⟨w1, hw1⟩ : ∃ w1, w1 = (w.alloc (.cells #[.bool false] 4)).alloc (.cells #[.int .i64 0] 35) := ⟨_, rfl⟩
  have m1 : Mod No w w1 := by rw [hw1]; exact ((Mod.refl No w).alloc _).alloc _
  have hp : w1.heap[w.heap.size]? = some (.cells #[.bool false] 4 (0, 0)) := by
    rw [hw1]; exact heap_alloc_old _ (heap_alloc_new w _)
  have hq : w1.heap[w.heap.size + 1]? = some (.cells #[.int .i64 0] 35 (0, 0)) := by
    rw [hw1]; exact heap_at_new _ _ (by simp)
  have HF := Lib.hid (hf w1 m1)
  have HW1 := Lib.hid hw1
  have M1 := Lib.hid m1
  have HP := Lib.hid hp
  have HQ := Lib.hid hq
  have HS := Lib.hid hS
  clear hf hw1 m1 hp hq hS
  go_enter_defers Try.func47, Try.ntmps47
  go_wp2_with fail
  rw [← HW1.out]
  refine HF.out.mono ?_
  clear HF
  rintro e wy ⟨hmy, hcase⟩
  have hpy := hmy.keep HP.out (fun e => by have := HS.out _ e; omega)
  have hqy := hmy.keep HQ.out (fun e => by have := HS.out _ e; omega)
  have HPQ := Lib.hid (And.intro hpy hqy)
  have MY := Lib.hid (show Mod S w wy from (M1.out.weaken fun _ _ f => f.elim).trans hmy)
  clear HW1
  rcases hcase with ⟨rfl, hy⟩ | ⟨rfl, hn⟩
  · have HY := Lib.hid hy
    have p0 := cell_of (i := 0) hpy rfl
    have pf := frozen_of 0 hpy
    have m2 : Mod (fun q => q = w.heap.size) wy (wy.setCell ⟨w.heap.size, 0, none⟩ (.bool true)) := (Mod.refl (fun q => q = w.heap.size) wy).setCell (fun _ => rfl) _
    have hq2 := m2.keep hqy (by omega)
    have q0 := cell_of (i := 0) hq2 rfl
    have qf := frozen_of 0 hq2
    have hp2 := heap_setCell hpy (i := 0) (.bool true)
    have m3 : Mod (fun q => q = w.heap.size + 1) (wy.setCell ⟨w.heap.size, 0, none⟩ (.bool true)) ((wy.setCell ⟨w.heap.size, 0, none⟩ (.bool true)).setCell ⟨w.heap.size + 1, 0, none⟩ (.int .i64 0)) := (Mod.refl (fun q => q = w.heap.size + 1) _).setCell (fun _ => rfl) _
    have R1 := Lib.hid (cell_of (i := 0) (m3.keep hp2 (by omega)) rfl)
    have R2 := Lib.hid (cell_of (i := 0) (heap_setCell hq2 (i := 0) (.int .i64 0)) rfl)
    have R3 := Lib.hid (show Mod (fun q => q = w.heap.size ∨ q = w.heap.size + 1) wy ((wy.setCell ⟨w.heap.size, 0, none⟩ (.bool true)).setCell ⟨w.heap.size + 1, 0, none⟩ (.int .i64 0)) from
      ((Mod.refl (fun q => q = w.heap.size ∨ q = w.heap.size + 1) wy).setCell (fun _ => .inl rfl) _).setCell (fun _ => .inr rfl) _)
    clear hy hpy hqy m2 hq2 hp2 m3
    go_wp2_with fail
    refine leaves_cons (f := 57) (args := #[.pointer (some ⟨w.heap.size, 0, none⟩), .pointer (some ⟨w.heap.size + 1, 0, none⟩)]) (by simp) (by simp [go_sem]) ?_
    refine (stop_idle _ _ _).mono ?_
    rintro e u' w'' ⟨rfl, rfl, rfl⟩
    have r1 := R1.out
    have r2 := R2.out
    refine ⟨.tuple #[.bool true, .int .i64 0], ?_, ?_⟩
    · simp [results, Try.results47, go_sem, r1, r2]
    · exact fin hR ⟨wy, MY.out, HPQ.out, R3.out, .inl ⟨rfl, HY.out⟩⟩
  · have HNO := Lib.hid hn
    clear hn
    go_wp2_with fail
    refine leaves_cons (f := 57) (args := #[.pointer (some ⟨w.heap.size, 0, none⟩), .pointer (some ⟨w.heap.size + 1, 0, none⟩)]) (by simp) (by simp [go_sem]) ?_
    refine (stop_caught _ _ _ _ _ hpy hqy).mono ?_
    rintro e u' w'' ⟨rfl, rfl, r1, r2, hm⟩
    have r1 := cell_of (i := 0) r1 rfl
    have r2 := cell_of (i := 0) r2 rfl
    refine ⟨.tuple #[.bool false, .int .i64 0], ?_, ?_⟩
    · simp [results, Try.results47, go_sem, r1, r2]
    · exact fin hR ⟨wy, MY.out, HPQ.out, hm, .inr ⟨rfl, HNO.out⟩⟩

set_option maxRecDepth 100000 in
set_option maxHeartbeats 1000000 in
theorem try_open (c1 c2 c3 : Value) (w : World) (S : Nat → Prop) (Yes Nay : World → Prop) (hS : ∀ q, S q → q < w.heap.size)
    (hf : ∀ w1, Mod No w w1 → Calls Try.prog 48 #[c1, c2, c3] w1 fun e w' => Mod S w1 w' ∧ ((e = .returned (.tuple #[]) ∧ Yes w') ∨ (e = Stopped ∧ Nay w'))) :
    Calls Try.prog 47 #[.func (.func 48) #[] #[c1, c2, c3]] w fun e w' => ∃ wy, Mod S w wy ∧ (wy.heap[w.heap.size]? = some (.cells #[.bool false] 4 (0, 0)) ∧ wy.heap[w.heap.size + 1]? = some (.cells #[.int .i64 0] 35 (0, 0))) ∧ Mod (fun q => q = w.heap.size ∨ q = w.heap.size + 1) wy w' ∧
      ((e = .returned (.tuple #[.bool true, .int .i64 0]) ∧ Yes wy) ∨ (e = .returned (.tuple #[.bool false, .int .i64 0]) ∧ Nay wy)) := by
  refine calls_hide fun R hR => ?_
  have hmf : ∀ (fn : Fn) (first cap : Array Value) (w : World), (Instr.makeFunc fn first cap).run Try.prog w = .ok (.func fn first cap) w := fun _ _ _ _ => rfl
  obtain ⟨w1, hw1⟩ : ∃ w1, w1 = (w.alloc (.cells #[.bool false] 4)).alloc (.cells #[.int .i64 0] 35) := ⟨_, rfl⟩
  have m1 : Mod No w w1 := by rw [hw1]; exact ((Mod.refl No w).alloc _).alloc _
  have hp : w1.heap[w.heap.size]? = some (.cells #[.bool false] 4 (0, 0)) := by
    rw [hw1]; exact heap_alloc_old _ (heap_alloc_new w _)
  have hq : w1.heap[w.heap.size + 1]? = some (.cells #[.int .i64 0] 35 (0, 0)) := by
    rw [hw1]; exact heap_at_new _ _ (by simp)
  have HF := Lib.hid (hf w1 m1)
  have HW1 := Lib.hid hw1
  have M1 := Lib.hid m1
  have HP := Lib.hid hp
  have HQ := Lib.hid hq
  have HS := Lib.hid hS
  clear hf hw1 m1 hp hq hS
  go_enter_defers Try.func47, Try.ntmps47
  go_wp2_with fail
  rw [← HW1.out]
  refine HF.out.mono ?_
  clear HF
  rintro e wy ⟨hmy, hcase⟩
  have hpy := hmy.keep HP.out (fun e => by have := HS.out _ e; omega)
  have hqy := hmy.keep HQ.out (fun e => by have := HS.out _ e; omega)
  have HPQ := Lib.hid (And.intro hpy hqy)
  have MY := Lib.hid (show Mod S w wy from (M1.out.weaken fun _ _ f => f.elim).trans hmy)
  clear HW1
  rcases hcase with ⟨rfl, hy⟩ | ⟨rfl, hn⟩
  · have HY := Lib.hid hy
    have p0 := cell_of (i := 0) hpy rfl
    have pf := frozen_of 0 hpy
    have m2 : Mod (fun q => q = w.heap.size) wy (wy.setCell ⟨w.heap.size, 0, none⟩ (.bool true)) := (Mod.refl (fun q => q = w.heap.size) wy).setCell (fun _ => rfl) _
    have hq2 := m2.keep hqy (by omega)
    have q0 := cell_of (i := 0) hq2 rfl
    have qf := frozen_of 0 hq2
    have hp2 := heap_setCell hpy (i := 0) (.bool true)
    have m3 : Mod (fun q => q = w.heap.size + 1) (wy.setCell ⟨w.heap.size, 0, none⟩ (.bool true)) ((wy.setCell ⟨w.heap.size, 0, none⟩ (.bool true)).setCell ⟨w.heap.size + 1, 0, none⟩ (.int .i64 0)) := (Mod.refl (fun q => q = w.heap.size + 1) _).setCell (fun _ => rfl) _
    have R1 := Lib.hid (cell_of (i := 0) (m3.keep hp2 (by omega)) rfl)
    have R2 := Lib.hid (cell_of (i := 0) (heap_setCell hq2 (i := 0) (.int .i64 0)) rfl)
    have R3 := Lib.hid (show Mod (fun q => q = w.heap.size ∨ q = w.heap.size + 1) wy ((wy.setCell ⟨w.heap.size, 0, none⟩ (.bool true)).setCell ⟨w.heap.size + 1, 0, none⟩ (.int .i64 0)) from
      ((Mod.refl (fun q => q = w.heap.size ∨ q = w.heap.size + 1) wy).setCell (fun _ => .inl rfl) _).setCell (fun _ => .inr rfl) _)
    clear hy hpy hqy m2 hq2 hp2 m3
    go_wp2_with fail
    refine leaves_cons (f := 57) (args := #[.pointer (some ⟨w.heap.size, 0, none⟩), .pointer (some ⟨w.heap.size + 1, 0, none⟩)]) (by simp) (by simp [go_sem]) ?_
    refine (stop_idle _ _ _).mono ?_
    rintro e u' w'' ⟨rfl, rfl, rfl⟩
    have r1 := R1.out
    have r2 := R2.out
    refine ⟨.tuple #[.bool true, .int .i64 0], ?_, ?_⟩
    · simp [results, Try.results47, go_sem, r1, r2]
    · exact fin hR ⟨wy, MY.out, HPQ.out, R3.out, .inl ⟨rfl, HY.out⟩⟩
  · have HNO := Lib.hid hn
    clear hn
    go_wp2_with fail
    refine leaves_cons (f := 57) (args := #[.pointer (some ⟨w.heap.size, 0, none⟩), .pointer (some ⟨w.heap.size + 1, 0, none⟩)]) (by simp) (by simp [go_sem]) ?_
    refine (stop_caught _ _ _ _ _ hpy hqy).mono ?_
    rintro e u' w'' ⟨rfl, rfl, r1, r2, hm⟩
    have r1 := cell_of (i := 0) r1 rfl
    have r2 := cell_of (i := 0) r2 rfl
    refine ⟨.tuple #[.bool false, .int .i64 0], ?_, ?_⟩
    · simp [results, Try.results47, go_sem, r1, r2]
    · exact fin hR ⟨wy, MY.out, HPQ.out, hm, .inr ⟨rfl, HNO.out⟩⟩

end Go.Proofs.Ytnchclleiccofaa
