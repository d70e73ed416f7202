/-
  Layer 25, the laws: known. No statement is proved here; no condition.
-/
import Derived.Test.YtkeopmfmlciadaaGreatJCode
import Derived.Test.YtkeopmfmlciadaaGreatJKnown
import Derived.Test.YtkeopmfmlciadaaGreatJBase
import Derived.Test.YtkeopmfmlciadaaGreatJStore
import Derived.Lib.ConvBytes
import Derived.Laws.AppendOwn
import Derived.Deep.CutRange
namespace Go.Proofs.YtkeopmfmlciadaaGreat
open Go.RowKit


set_option maxRecDepth 100000 in
set_option maxHeartbeats 1000000 in
theorem rtry_num_failed {q : Nat} {v c1 c2 : Value} {L : List UInt8} {w : World} (h : RdAt w q v L true) :
    Calls Tryz.prog 74 #[.pointer (some ⟨q, 0, none⟩), .func (.func 96) #[] #[c1, c2]] w fun e w' => e = .returned (.bool false) ∧ Mod No w w' := by
  refine calls_hide fun R hR => ?_
  have hmf : ∀ (fn : Fn) (first cap : Array Value) (w : World), (Instr.makeFunc fn first cap).run Tryz.prog w = .ok (.func fn first cap) w := fun _ _ _ _ => rfl
  have hql := lt_of_heap h.obj
  obtain ⟨w1, hw1⟩ : ∃ w1, w1 = (w.alloc (.cells #[.pointer (some ⟨q, 0, none⟩)] 107)).alloc (.cells #[.bool false] 4) := ⟨_, rfl⟩
  have m1 : Mod No w w1 := by rw [hw1]; exact ((Mod.refl No w).alloc _).alloc _
  have cq := cell_of (i := 1) h.obj rfl
  have R3 := Lib.hid m1
  clear m1 h
  go_enter_defers Tryz.func74, Tryz.ntmps74
  subst hw1
  go_wp2_with fail
  refine ⟨.bool false, ?_, ?_⟩
  · simp [results, Tryz.results74, go_sem]
  · exact fin hR ⟨rfl, R3.out⟩

set_option maxRecDepth 100000 in
set_option maxHeartbeats 1000000 in
theorem rtry_num {q : Nat} {v c1 c2 : Value} {L : List UInt8} {w : World} (h : RdAt w q v L false) (S : Nat → Prop) (Yes : World → Prop) (Nay : Prop) (hS : ∀ i, S i → i < w.heap.size)
    (hf : ∀ w1, Mod No w w1 → Calls Tryz.prog 96 #[c1, c2] w1 fun e w' => Mod S w1 w' ∧ ((e = .returned (.tuple #[]) ∧ Yes w') ∨ (e = StoppedC ∧ Nay ∧ ∃ v L', RdAt w' q v L' false))) :
    Calls Tryz.prog 74 #[.pointer (some ⟨q, 0, none⟩), .func (.func 96) #[] #[c1, c2]] w fun e w' => ∃ wy, Mod S w wy ∧
      ((e = .returned (.bool true) ∧ Yes wy ∧ wy.heap[w.heap.size + 1]? = some (.cells #[.bool false] 4 (0, 0)) ∧ Mod (fun i => i = w.heap.size + 1) wy w') ∨ (e = .returned (.bool false) ∧ Nay ∧ (∃ v L', RdAt w' q v L' true) ∧ Mod (fun i => i = w.heap.size + 1 ∨ i = q) wy w')) := by
  refine calls_hide fun R hR => ?_
  have hmf : ∀ (fn : Fn) (first cap : Array Value) (w : World), (Instr.makeFunc fn first cap).run Tryz.prog w = .ok (.func fn first cap) w := fun _ _ _ _ => rfl
  have hql := lt_of_heap h.obj
  obtain ⟨w1, hw1⟩ : ∃ w1, w1 = (w.alloc (.cells #[.pointer (some ⟨q, 0, none⟩)] 107)).alloc (.cells #[.bool false] 4) := ⟨_, rfl⟩
  have m1 : Mod No w w1 := by rw [hw1]; exact ((Mod.refl No w).alloc _).alloc _
  have hp : w1.heap[w.heap.size]? = some (.cells #[.pointer (some ⟨q, 0, none⟩)] 107 (0, 0)) := by
    rw [hw1]; exact heap_alloc_old _ (heap_alloc_new w _)
  have hk : w1.heap[w.heap.size + 1]? = some (.cells #[.bool false] 4 (0, 0)) := by
    rw [hw1]; exact heap_at_new _ _ (by simp)
  have cq := cell_of (i := 1) h.obj rfl
  have HF := Lib.hid (hf w1 m1)
  have HW1 := Lib.hid hw1
  have M1 := Lib.hid m1
  have HP := Lib.hid hp
  have HK := Lib.hid hk
  have HS := Lib.hid hS
  clear hf hw1 m1 hp hk hS h
  go_enter_defers Tryz.func74, Tryz.ntmps74
  go_wp2_with fail
  rw [← HW1.out]
  refine HF.out.mono ?_
  clear HF
  rintro e wy ⟨hmy, hcase⟩
  have hpy := hmy.keep HP.out (fun e => by have := HS.out _ e; omega)
  have hky := hmy.keep HK.out (fun e => by have := HS.out _ e; omega)
  have MY := Lib.hid (show Mod S w wy from (M1.out.weaken fun _ _ f => f.elim).trans hmy)
  have HPY := Lib.hid hpy
  clear HW1
  rcases hcase with ⟨rfl, hy⟩ | ⟨rfl, hna, v', L', hn⟩
  · have HY := Lib.hid (And.intro hy hky)
    have k0 := cell_of (i := 0) hky rfl
    have kf := frozen_of 0 hky
    have R2 := Lib.hid (cell_of (i := 0) (heap_setCell hky (i := 0) (.bool true)) rfl)
    have R3 := Lib.hid (show Mod (fun i => i = w.heap.size + 1) wy (wy.setCell ⟨w.heap.size + 1, 0, none⟩ (.bool true)) from (Mod.refl (fun i => i = w.heap.size + 1) wy).setCell (fun _ => rfl) _)
    clear hy hpy hky
    go_wp2_with fail
    refine leaves_cons (f := 98) (args := #[.pointer (some ⟨w.heap.size, 0, none⟩), .pointer (some ⟨w.heap.size + 1, 0, none⟩)]) (by simp) (by simp [go_sem]) ?_
    refine (rstop_idle _ _ _).mono ?_
    rintro e u' w'' ⟨rfl, rfl, rfl⟩
    have r2 := R2.out
    refine ⟨.bool true, ?_, ?_⟩
    · simp [results, Tryz.results74, go_sem, r2]
    · exact fin hR ⟨wy, MY.out, .inl ⟨rfl, HY.out.1, HY.out.2, R3.out⟩⟩
  · have HN := Lib.hid hn
    have HNA := Lib.hid hna
    have HKY := Lib.hid hky
    clear hn hna hky hpy
    go_wp2_with fail
    refine leaves_cons (f := 98) (args := #[.pointer (some ⟨w.heap.size, 0, none⟩), .pointer (some ⟨w.heap.size + 1, 0, none⟩)]) (by simp) (by simp [go_sem]) ?_
    refine (rstop_caught _ _ q _ _ _ _ HPY.out HKY.out HN.out.obj).mono ?_
    rintro e u' w'' ⟨rfl, rfl, r1, r2, hm⟩
    have hrd := rtry_set HN.out r2 hm (fun i cur fz s e => by
      rcases s with s | s
      · subst s; have h := HKY.out; rw [h] at e; cases e
      · subst s; have h := HN.out.obj; rw [h] at e; cases e)
    have r1 := cell_of (i := 0) r1 rfl
    refine ⟨.bool false, ?_, ?_⟩
    · simp [results, Tryz.results74, go_sem, r1]
    · exact fin hR ⟨wy, MY.out, .inr ⟨rfl, HNA.out, ⟨_, _, hrd⟩, hm⟩⟩

set_option maxRecDepth 100000 in
set_option maxHeartbeats 1000000 in
theorem rtry_int_failed {q : Nat} {v c1 c2 : Value} {L : List UInt8} {w : World} (h : RdAt w q v L true) :
    Calls Tryz.prog 74 #[.pointer (some ⟨q, 0, none⟩), .func (.func 75) #[] #[c1, c2]] w fun e w' => e = .returned (.bool false) ∧ Mod No w w' := by
  refine calls_hide fun R hR => ?_
  have hmf : ∀ (fn : Fn) (first cap : Array Value) (w : World), (Instr.makeFunc fn first cap).run Tryz.prog w = .ok (.func fn first cap) w := fun _ _ _ _ => rfl
  have hql := lt_of_heap h.obj
  obtain ⟨w1, hw1⟩ : ∃ w1, w1 = (w.alloc (.cells #[.pointer (some ⟨q, 0, none⟩)] 107)).alloc (.cells #[.bool false] 4) := ⟨_, rfl⟩
  have m1 : Mod No w w1 := by rw [hw1]; exact ((Mod.refl No w).alloc _).alloc _
  have cq := cell_of (i := 1) h.obj rfl
  have R3 := Lib.hid m1
  clear m1 h
  go_enter_defers Tryz.func74, Tryz.ntmps74
  subst hw1
  go_wp2_with fail
  refine ⟨.bool false, ?_, ?_⟩
  · simp [results, Tryz.results74, go_sem]
  · exact fin hR ⟨rfl, R3.out⟩

set_option maxRecDepth 100000 in
set_option maxHeartbeats 1000000 in
theorem rtry_int {q : Nat} {v c1 c2 : Value} {L : List UInt8} {w : World} (h : RdAt w q v L false) (S : Nat → Prop) (Yes : World → Prop) (Nay : Prop) (hS : ∀ i, S i → i < w.heap.size)
    (hf : ∀ w1, Mod No w w1 → Calls Tryz.prog 75 #[c1, c2] w1 fun e w' => Mod S w1 w' ∧ ((e = .returned (.tuple #[]) ∧ Yes w') ∨ (e = StoppedC ∧ Nay ∧ ∃ v L', RdAt w' q v L' false))) :
    Calls Tryz.prog 74 #[.pointer (some ⟨q, 0, none⟩), .func (.func 75) #[] #[c1, c2]] w fun e w' => ∃ wy, Mod S w wy ∧
      ((e = .returned (.bool true) ∧ Yes wy ∧ wy.heap[w.heap.size + 1]? = some (.cells #[.bool false] 4 (0, 0)) ∧ Mod (fun i => i = w.heap.size + 1) wy w') ∨ (e = .returned (.bool false) ∧ Nay ∧ (∃ v L', RdAt w' q v L' true) ∧ Mod (fun i => i = w.heap.size + 1 ∨ i = q) wy w')) := by
  refine calls_hide fun R hR => ?_
  have hmf : ∀ (fn : Fn) (first cap : Array Value) (w : World), (Instr.makeFunc fn first cap).run Tryz.prog w = .ok (.func fn first cap) w := fun _ _ _ _ => rfl
  have hql := lt_of_heap h.obj
  obtain ⟨w1, hw1⟩ : ∃ w1, w1 = (w.alloc (.cells #[.pointer (some ⟨q, 0, none⟩)] 107)).alloc (.cells #[.bool false] 4) := ⟨_, rfl⟩
  have m1 : Mod No w w1 := by rw [hw1]; exact ((Mod.refl No w).alloc _).alloc _
  have hp : w1.heap[w.heap.size]? = some (.cells #[.pointer (some ⟨q, 0, none⟩)] 107 (0, 0)) := by
    rw [hw1]; exact heap_alloc_old _ (heap_alloc_new w _)
  have hk : w1.heap[w.heap.size + 1]? = some (.cells #[.bool false] 4 (0, 0)) := by
    rw [hw1]; exact heap_at_new _ _ (by simp)
  have cq := cell_of (i := 1) h.obj rfl
  have HF := Lib.hid (hf w1 m1)
  have HW1 := Lib.hid hw1
  have M1 := Lib.hid m1
  have HP := Lib.hid hp
  have HK := Lib.hid hk
  have HS := Lib.hid hS
  clear hf hw1 m1 hp hk hS h
  go_enter_defers Tryz.func74, Tryz.ntmps74
  go_wp2_with fail
  rw [← HW1.out]
  refine HF.out.mono ?_
  clear HF
  rintro e wy ⟨hmy, hcase⟩
  have hpy := hmy.keep HP.out (fun e => by have := HS.out _ e; omega)
  have hky := hmy.keep HK.out (fun e => by have := HS.out _ e; omega)
  have MY := Lib.hid (show Mod S w wy from (M1.out.weaken fun _ _ f => f.elim).trans hmy)
  have HPY := Lib.hid hpy
  clear HW1
  rcases hcase with ⟨rfl, hy⟩ | ⟨rfl, hna, v', L', hn⟩
  · have HY := Lib.hid (And.intro hy hky)
    have k0 := cell_of (i := 0) hky rfl
    have kf := frozen_of 0 hky
    have R2 := Lib.hid (cell_of (i := 0) (heap_setCell hky (i := 0) (.bool true)) rfl)
    have R3 := Lib.hid (show Mod (fun i => i = w.heap.size + 1) wy (wy.setCell ⟨w.heap.size + 1, 0, none⟩ (.bool true)) from (Mod.refl (fun i => i = w.heap.size + 1) wy).setCell (fun _ => rfl) _)
    clear hy hpy hky
    go_wp2_with fail
    refine leaves_cons (f := 98) (args := #[.pointer (some ⟨w.heap.size, 0, none⟩), .pointer (some ⟨w.heap.size + 1, 0, none⟩)]) (by simp) (by simp [go_sem]) ?_
    refine (rstop_idle _ _ _).mono ?_
    rintro e u' w'' ⟨rfl, rfl, rfl⟩
    have r2 := R2.out
    refine ⟨.bool true, ?_, ?_⟩
    · simp [results, Tryz.results74, go_sem, r2]
    · exact fin hR ⟨wy, MY.out, .inl ⟨rfl, HY.out.1, HY.out.2, R3.out⟩⟩
  · have HN := Lib.hid hn
    have HNA := Lib.hid hna
    have HKY := Lib.hid hky
    clear hn hna hky hpy
    go_wp2_with fail
    refine leaves_cons (f := 98) (args := #[.pointer (some ⟨w.heap.size, 0, none⟩), .pointer (some ⟨w.heap.size + 1, 0, none⟩)]) (by simp) (by simp [go_sem]) ?_
    refine (rstop_caught _ _ q _ _ _ _ HPY.out HKY.out HN.out.obj).mono ?_
    rintro e u' w'' ⟨rfl, rfl, r1, r2, hm⟩
    have hrd := rtry_set HN.out r2 hm (fun i cur fz s e => by
      rcases s with s | s
      · subst s; have h := HKY.out; rw [h] at e; cases e
      · subst s; have h := HN.out.obj; rw [h] at e; cases e)
    have r1 := cell_of (i := 0) r1 rfl
    refine ⟨.bool false, ?_, ?_⟩
    · simp [results, Tryz.results74, go_sem, r1]
    · exact fin hR ⟨wy, MY.out, .inr ⟨rfl, HNA.out, ⟨_, _, hrd⟩, hm⟩⟩

end Go.Proofs.YtkeopmfmlciadaaGreat
namespace Go.Proofs.YtkeopmfmlciadaaGreat
open Go.RowKit
theorem bits_xor_zero (x : Nat) (hx : x < 9223372036854775808) : bits .xor .i64 (x : Int) 0 = (x : Int) := by
  have h1 : (BitVec.ofInt 64 (x : Int)).toNat = x := by
    rw [BitVec.ofInt_natCast, BitVec.toNat_ofNat]; exact Nat.mod_eq_of_lt (by omega)
  show IntKind.i64.wrap ((BitVec.ofInt 64 (x : Int) ^^^ BitVec.ofInt 64 0).toNat : Int) = _
  rw [BitVec.toNat_xor, h1, show (BitVec.ofInt 64 0).toNat = 0 from rfl, Nat.xor_zero, IntKind.wrap_i64]
  omega

/-- What is read is even, and not too great. -/
def EvenN (L : List UInt8) : Prop := ∀ n r, rdNum L = some (n, r) → n % 2 = 0 ∧ n < 4611686018427387904

/-- An even number's half is read. -/
def rdHalf (L : List UInt8) : Option (Nat × List UInt8) := (rdNum L).map fun p => (p.1 / 2, p.2)

/-- What int leaves. -/
def IntPost (w : World) (q : Nat) (L : List UInt8) (e : Ending) (w' : World) : Prop :=
  Mod (fun k => k = q) w w' ∧ ∃ v L', RdAt w' q v L' false ∧ ((∃ o : Nat, rdHalf L = some (o, L') ∧ e = .returned (.int .i64 (o : Int))) ∨ (rdHalf L = none ∧ e = StoppedC))

set_option maxRecDepth 100000 in
theorem rint_any {w : World} {q : Nat} {v0 : Value} {L : List UInt8} (h : RdAt w q v0 L false) (hL : L.length ≤ 1000000000) (he : EvenN L) :
    Calls Tryz.prog 76 #[.pointer (some ⟨q, 0, none⟩)] w (IntPost w q L) := by
  refine calls_hide fun R hR => ?_
  have HN := Lib.hid (num_any h hL)
  have HE := Lib.hid he
  clear h hL he
  go_enter Tryz.func76, Tryz.ntmps76
  go_wp2_with fail
  with_reducible refine HN.out.mono ?_
  clear HN
  rintro e w1 ⟨hm, v, L', hrd, ⟨n, hn, rfl, -⟩ | ⟨hn, rfl⟩⟩
  · obtain ⟨h2, h62⟩ := HE.out n L' hn
    have HX := Lib.hid (And.intro hm (And.intro hrd (show rdHalf L = some (n / 2, L') by unfold rdHalf; rw [hn]; rfl)))
    have ha : bits .and .u64 (n : Int) 1 = 0 := by
      have := bits_and_u64_nat n 1 (by omega) (by omega)
      rw [Nat.and_one_is_mod, h2] at this
      exact this
    obtain ⟨y, hy⟩ : ∃ y, y = n / 2 := ⟨_, rfl⟩
    have hd : (n : Int) / 2 = (y : Int) := by omega
    have hy62 : (y : Int) < 4611686018427387904 := by omega
    have hy0 : (0 : Int) ≤ (y : Int) := Int.natCast_nonneg _
    have hx := bits_xor_zero y (by omega)
    rw [← hy] at HX
    clear hm hrd hn h2 h62 hy
    go_wp2_with fail
    exact fin hR ⟨HX.out.1, _, _, HX.out.2.1, .inl ⟨y, HX.out.2.2, rfl⟩⟩
  · have HX := Lib.hid (And.intro hm (And.intro hrd (show rdHalf L = none by unfold rdHalf; rw [hn]; rfl)))
    clear hm hrd hn
    go_wp2_with fail
    exact ⟨rfl, fin hR ⟨HX.out.1, _, _, HX.out.2.1, .inr ⟨HX.out.2.2, rfl⟩⟩⟩

/-- What 71 leaves. -/
def RnumPost (w : World) (q : Nat) (L : List UInt8) (e : Ending) (w' : World) : Prop :=
  Mod (fun k => k = q) w w' ∧ ((∃ (o : Nat) (L' : List UInt8) (v : Value), rdNum L = some (o, L') ∧ e = .returned (.int .u64 ((o : Nat) : Int)) ∧ RdAt w' q v L' false) ∨ (rdNum L = none ∧ e = .returned (.int .u64 0) ∧ ∃ v L', RdAt w' q v L' true))

set_option maxRecDepth 100000 in
set_option maxHeartbeats 1000000 in
theorem cnum_any {w : World} {q p k : Nat} {v0 x : Value} {L : List UInt8} (h : RdAt w q v0 L false) (hL : L.length ≤ 1000000000) (hp : w.heap[p]? = some (.cells #[.pointer (some ⟨q, 0, none⟩)] 107 (0, 0))) (hk : w.heap[k]? = some (.cells #[x] 102 (0, 0))) (hx : ∃ o : Nat, x = .int .u64 ((o : Nat) : Int)) :
    Calls Tryz.prog 96 #[.pointer (some ⟨p, 0, none⟩), .pointer (some ⟨k, 0, none⟩)] w fun e w' => Mod (fun i => i = q ∨ i = k) w w' ∧
      ((e = .returned (.tuple #[]) ∧ ∃ (o : Nat) (L' : List UInt8) (v : Value), rdNum L = some (o, L') ∧ RdAt w' q v L' false ∧ w'.heap[k]? = some (.cells #[.int .u64 ((o : Nat) : Int)] 102 (0, 0))) ∨ (e = StoppedC ∧ rdNum L = none ∧ ∃ v L', RdAt w' q v L' false)) := by
  refine calls_hide fun R hR => ?_
  obtain ⟨o0, rfl⟩ := hx
  have pc := cell_of (i := 0) hp rfl
  have HI := Lib.hid (num_any h hL)
  have HK := Lib.hid hk
  have hqk : k ≠ q := fun e => by subst e; rw [h.obj] at hk; cases hk
  clear h hp hk hL
  go_enter Tryz.func96, Tryz.ntmps96
  go_wp2_with fail
  with_reducible refine HI.out.mono ?_
  clear HI
  rintro e w1 ⟨hm, v, L', hrd, ⟨o, hn, rfl, -⟩ | ⟨hn, rfl⟩⟩
  · have hk1 := hm.keep HK.out hqk
    have kc := cell_of (i := 0) hk1 rfl
    have kf := frozen_of 0 hk1
    have hms : Mod (fun i => i = k) w1 (w1.setCell ⟨k, 0, none⟩ (.int .u64 ((o : Nat) : Int))) := (Mod.refl (fun i => i = k) w1).setCell (fun _ => rfl) _
    have R1 := Lib.hid (show Mod (fun i => i = q ∨ i = k) w (w1.setCell ⟨k, 0, none⟩ (.int .u64 ((o : Nat) : Int))) from (hm.weaken fun _ _ e => .inl e).trans (hms.weaken fun _ _ e => .inr e))
    have R2 := Lib.hid (And.intro hn (And.intro (hrd.keep hms (fun e => hqk e.symm) (fun i cur fz s e => by subst s; rw [hk1] at e; cases e)) (heap_setCell hk1 (i := 0) (.int .u64 ((o : Nat) : Int)))))
    clear hm hrd hk1 hms hn
    go_wp2_with fail
    go_end0
    exact fin hR ⟨R1.out, .inl ⟨rfl, _, _, _, R2.out.1, R2.out.2.1, R2.out.2.2⟩⟩
  · have HX := Lib.hid (And.intro hm (And.intro hn hrd))
    clear hm hn hrd
    go_wp2_with fail
    exact ⟨rfl, fin hR ⟨HX.out.1.weaken fun _ _ e => .inl e, .inr ⟨rfl, HX.out.2.1, _, _, HX.out.2.2⟩⟩⟩

set_option maxRecDepth 100000 in
set_option maxHeartbeats 1000000 in
theorem rnum_ok {w : World} {q : Nat} {v0 : Value} {L : List UInt8} (h : RdAt w q v0 L false) (hL : L.length ≤ 1000000000) :
    Calls Tryz.prog 71 #[.pointer (some ⟨q, 0, none⟩)] w (RnumPost w q L) := by
  refine calls_hide fun R hR => ?_
  have hmf : ∀ (fn : Fn) (first cap : Array Value) (w : World), (Instr.makeFunc fn first cap).run Tryz.prog w = .ok (.func fn first cap) w := fun _ _ _ _ => rfl
  have hql := lt_of_heap h.obj
  obtain ⟨w1, hw1⟩ : ∃ w1, w1 = (w.alloc (.cells #[.pointer (some ⟨q, 0, none⟩)] 107)).alloc (.cells #[.int .u64 0] 102) := ⟨_, rfl⟩
  have m1 : Mod No w w1 := by rw [hw1]; exact ((Mod.refl No w).alloc _).alloc _
  have hz1 : w1.heap.size = w.heap.size + 2 := by rw [hw1]; simp
  have hp : w1.heap[w.heap.size]? = some (.cells #[.pointer (some ⟨q, 0, none⟩)] 107 (0, 0)) := by
    rw [hw1]; exact heap_alloc_old _ (heap_alloc_new w _)
  have hk : w1.heap[w.heap.size + 1]? = some (.cells #[.int .u64 0] 102 (0, 0)) := by
    rw [hw1]; exact heap_at_new _ _ (by simp)
  have HT := Lib.hid (rtry_num (c1 := .pointer (some ⟨w.heap.size, 0, none⟩)) (c2 := .pointer (some ⟨w.heap.size + 1, 0, none⟩)) (h.stay m1) (fun i => i = q ∨ i = w.heap.size + 1) (fun wy => ∃ (o : Nat) (L' : List UInt8) (v : Value), rdNum L = some (o, L') ∧ RdAt wy q v L' false ∧ wy.heap[w.heap.size + 1]? = some (.cells #[.int .u64 ((o : Nat) : Int)] 102 (0, 0))) (rdNum L = none) (fun i e => by omega)
    (fun w2 hm2 => cnum_any ((h.stay m1).stay hm2) hL (hm2.keep hp (fun f => f)) (hm2.keep hk (fun f => f)) ⟨0, rfl⟩))
  have pc := cell_of (i := 0) hp rfl
  have M1 := Lib.hid m1
  have HW1 := Lib.hid hw1
  have HZ := Lib.hid hz1
  have HL2 := Lib.hid h
  clear hw1 m1 hz1 hp hk h hL
  go_enter Tryz.func71, Tryz.ntmps71
  go_wp2_with fail
  rw [← HW1.out]
  with_reducible refine HT.out.mono ?_
  clear HT
  rintro e w2 ⟨wy, hmy, ⟨rfl, ⟨o, L', v, hn, hrd, hk⟩, hok, hm2⟩ | ⟨rfl, hn, ⟨v, L', hrd⟩, hm2⟩⟩
  · have hk2 := hm2.keep hk (by have := HZ.out; omega)
    have kc := cell_of (i := 0) hk2 rfl
    have HX := Lib.hid (show Mod (fun i => i = q) w w2 ∧ rdNum L = some (o, L') ∧ RdAt w2 q v L' false from ⟨((M1.out.weaken fun _ _ f => f.elim : Mod (fun i => i = q) w w1).then hmy (fun i hi e => by omega)).then hm2 (fun i hi e => by have := HZ.out; omega), hn, hrd.keep hm2 (fun e => by have := HZ.out; omega) (fun i cur fz s e => by subst s; rw [hok] at e; cases e)⟩)
    clear hmy hm2 hn hrd hk hk2 hok HW1
    go_wp2_with fail
    exact fin hR ⟨HX.out.1, .inl ⟨_, _, _, HX.out.2.1, rfl, HX.out.2.2⟩⟩
  · have HX := Lib.hid (show Mod (fun i => i = q) w w2 ∧ rdNum L = none ∧ RdAt w2 q v L' true from ⟨((M1.out.weaken fun _ _ f => f.elim : Mod (fun i => i = q) w w1).then hmy (fun i hi e => by omega)).then hm2 (fun i hi e => by have := HZ.out; omega), hn, hrd⟩)
    clear hmy hm2 hn hrd HW1
    go_wp2_with fail
    exact fin hR ⟨HX.out.1, .inr ⟨HX.out.2.1, rfl, _, _, HX.out.2.2⟩⟩

set_option maxRecDepth 100000 in
theorem rnum_failed {w : World} {q : Nat} {v0 : Value} {L : List UInt8} (h : RdAt w q v0 L true) :
    Calls Tryz.prog 71 #[.pointer (some ⟨q, 0, none⟩)] w fun e w' => e = .returned (.int .u64 0) ∧ Mod No w w' := by
  refine calls_hide fun R hR => ?_
  have hmf : ∀ (fn : Fn) (first cap : Array Value) (w : World), (Instr.makeFunc fn first cap).run Tryz.prog w = .ok (.func fn first cap) w := fun _ _ _ _ => rfl
  have hql := lt_of_heap h.obj
  obtain ⟨w1, hw1⟩ : ∃ w1, w1 = (w.alloc (.cells #[.pointer (some ⟨q, 0, none⟩)] 107)).alloc (.cells #[.int .u64 0] 102) := ⟨_, rfl⟩
  have m1 : Mod No w w1 := by rw [hw1]; exact ((Mod.refl No w).alloc _).alloc _
  have HT := Lib.hid (rtry_num_failed (c1 := .pointer (some ⟨w.heap.size, 0, none⟩)) (c2 := .pointer (some ⟨w.heap.size + 1, 0, none⟩)) (h.stay m1))
  have M1 := Lib.hid m1
  have HW1 := Lib.hid hw1
  clear hw1 m1 h
  go_enter Tryz.func71, Tryz.ntmps71
  go_wp2_with fail
  rw [← HW1.out]
  with_reducible refine HT.out.mono ?_
  clear HT
  rintro e w2 ⟨rfl, hm2⟩
  have M2 := Lib.hid (M1.out.trans hm2)
  clear hm2 HW1
  go_wp2_with fail
  exact fin hR ⟨rfl, M2.out⟩

/-- What 51 leaves. -/
def RintPost (w : World) (q : Nat) (L : List UInt8) (e : Ending) (w' : World) : Prop :=
  Mod (fun k => k = q) w w' ∧ ((∃ (o : Nat) (L' : List UInt8) (v : Value), rdHalf L = some (o, L') ∧ e = .returned (.int .i64 ((o : Nat) : Int)) ∧ RdAt w' q v L' false) ∨ (rdHalf L = none ∧ e = .returned (.int .i64 0) ∧ ∃ v L', RdAt w' q v L' true))

set_option maxRecDepth 100000 in
set_option maxHeartbeats 1000000 in
theorem cint_any {w : World} {q p k : Nat} {v0 x : Value} {L : List UInt8} (h : RdAt w q v0 L false) (hL : L.length ≤ 1000000000) (he : EvenN L) (hp : w.heap[p]? = some (.cells #[.pointer (some ⟨q, 0, none⟩)] 107 (0, 0))) (hk : w.heap[k]? = some (.cells #[x] 2 (0, 0))) (hx : ∃ o : Nat, x = .int .i64 ((o : Nat) : Int)) :
    Calls Tryz.prog 75 #[.pointer (some ⟨p, 0, none⟩), .pointer (some ⟨k, 0, none⟩)] w fun e w' => Mod (fun i => i = q ∨ i = k) w w' ∧
      ((e = .returned (.tuple #[]) ∧ ∃ (o : Nat) (L' : List UInt8) (v : Value), rdHalf L = some (o, L') ∧ RdAt w' q v L' false ∧ w'.heap[k]? = some (.cells #[.int .i64 ((o : Nat) : Int)] 2 (0, 0))) ∨ (e = StoppedC ∧ rdHalf L = none ∧ ∃ v L', RdAt w' q v L' false)) := by
  refine calls_hide fun R hR => ?_
  obtain ⟨o0, rfl⟩ := hx
  have pc := cell_of (i := 0) hp rfl
  have HI := Lib.hid (rint_any h hL he)
  have HK := Lib.hid hk
  have hqk : k ≠ q := fun e => by subst e; rw [h.obj] at hk; cases hk
  clear h hp hk hL he
  go_enter Tryz.func75, Tryz.ntmps75
  go_wp2_with fail
  with_reducible refine HI.out.mono ?_
  clear HI
  rintro e w1 ⟨hm, v, L', hrd, ⟨o, hn, rfl⟩ | ⟨hn, rfl⟩⟩
  · have hk1 := hm.keep HK.out hqk
    have kc := cell_of (i := 0) hk1 rfl
    have kf := frozen_of 0 hk1
    have hms : Mod (fun i => i = k) w1 (w1.setCell ⟨k, 0, none⟩ (.int .i64 ((o : Nat) : Int))) := (Mod.refl (fun i => i = k) w1).setCell (fun _ => rfl) _
    have R1 := Lib.hid (show Mod (fun i => i = q ∨ i = k) w (w1.setCell ⟨k, 0, none⟩ (.int .i64 ((o : Nat) : Int))) from (hm.weaken fun _ _ e => .inl e).trans (hms.weaken fun _ _ e => .inr e))
    have R2 := Lib.hid (And.intro hn (And.intro (hrd.keep hms (fun e => hqk e.symm) (fun i cur fz s e => by subst s; rw [hk1] at e; cases e)) (heap_setCell hk1 (i := 0) (.int .i64 ((o : Nat) : Int)))))
    clear hm hrd hk1 hms hn
    go_wp2_with fail
    go_end0
    exact fin hR ⟨R1.out, .inl ⟨rfl, _, _, _, R2.out.1, R2.out.2.1, R2.out.2.2⟩⟩
  · have HX := Lib.hid (And.intro hm (And.intro hn hrd))
    clear hm hn hrd
    go_wp2_with fail
    exact ⟨rfl, fin hR ⟨HX.out.1.weaken fun _ _ e => .inl e, .inr ⟨rfl, HX.out.2.1, _, _, HX.out.2.2⟩⟩⟩

set_option maxRecDepth 100000 in
set_option maxHeartbeats 1000000 in
theorem rint_ok {w : World} {q : Nat} {v0 : Value} {L : List UInt8} (h : RdAt w q v0 L false) (hL : L.length ≤ 1000000000) (he : EvenN L) :
    Calls Tryz.prog 51 #[.pointer (some ⟨q, 0, none⟩)] w (RintPost w q L) := by
  refine calls_hide fun R hR => ?_
  have hmf : ∀ (fn : Fn) (first cap : Array Value) (w : World), (Instr.makeFunc fn first cap).run Tryz.prog w = .ok (.func fn first cap) w := fun _ _ _ _ => rfl
  have hql := lt_of_heap h.obj
  obtain ⟨w1, hw1⟩ : ∃ w1, w1 = (w.alloc (.cells #[.pointer (some ⟨q, 0, none⟩)] 107)).alloc (.cells #[.int .i64 0] 2) := ⟨_, rfl⟩
  have m1 : Mod No w w1 := by rw [hw1]; exact ((Mod.refl No w).alloc _).alloc _
  have hz1 : w1.heap.size = w.heap.size + 2 := by rw [hw1]; simp
  have hp : w1.heap[w.heap.size]? = some (.cells #[.pointer (some ⟨q, 0, none⟩)] 107 (0, 0)) := by
    rw [hw1]; exact heap_alloc_old _ (heap_alloc_new w _)
  have hk : w1.heap[w.heap.size + 1]? = some (.cells #[.int .i64 0] 2 (0, 0)) := by
    rw [hw1]; exact heap_at_new _ _ (by simp)
  have HT := Lib.hid (rtry_int (c1 := .pointer (some ⟨w.heap.size, 0, none⟩)) (c2 := .pointer (some ⟨w.heap.size + 1, 0, none⟩)) (h.stay m1) (fun i => i = q ∨ i = w.heap.size + 1) (fun wy => ∃ (o : Nat) (L' : List UInt8) (v : Value), rdHalf L = some (o, L') ∧ RdAt wy q v L' false ∧ wy.heap[w.heap.size + 1]? = some (.cells #[.int .i64 ((o : Nat) : Int)] 2 (0, 0))) (rdHalf L = none) (fun i e => by omega)
    (fun w2 hm2 => cint_any ((h.stay m1).stay hm2) hL he (hm2.keep hp (fun f => f)) (hm2.keep hk (fun f => f)) ⟨0, rfl⟩))
  have pc := cell_of (i := 0) hp rfl
  have M1 := Lib.hid m1
  have HW1 := Lib.hid hw1
  have HZ := Lib.hid hz1
  have HL2 := Lib.hid h
  clear hw1 m1 hz1 hp hk h hL he
  go_enter Tryz.func51, Tryz.ntmps51
  go_wp2_with fail
  rw [← HW1.out]
  with_reducible refine HT.out.mono ?_
  clear HT
  rintro e w2 ⟨wy, hmy, ⟨rfl, ⟨o, L', v, hn, hrd, hk⟩, hok, hm2⟩ | ⟨rfl, hn, ⟨v, L', hrd⟩, hm2⟩⟩
  · have hk2 := hm2.keep hk (by have := HZ.out; omega)
    have kc := cell_of (i := 0) hk2 rfl
    have HX := Lib.hid (show Mod (fun i => i = q) w w2 ∧ rdHalf L = some (o, L') ∧ RdAt w2 q v L' false from ⟨((M1.out.weaken fun _ _ f => f.elim : Mod (fun i => i = q) w w1).then hmy (fun i hi e => by omega)).then hm2 (fun i hi e => by have := HZ.out; omega), hn, hrd.keep hm2 (fun e => by have := HZ.out; omega) (fun i cur fz s e => by subst s; rw [hok] at e; cases e)⟩)
    clear hmy hm2 hn hrd hk hk2 hok HW1
    go_wp2_with fail
    exact fin hR ⟨HX.out.1, .inl ⟨_, _, _, HX.out.2.1, rfl, HX.out.2.2⟩⟩
  · have HX := Lib.hid (show Mod (fun i => i = q) w w2 ∧ rdHalf L = none ∧ RdAt w2 q v L' true from ⟨((M1.out.weaken fun _ _ f => f.elim : Mod (fun i => i = q) w w1).then hmy (fun i hi e => by omega)).then hm2 (fun i hi e => by have := HZ.out; omega), hn, hrd⟩)
    clear hmy hm2 hn hrd HW1
    go_wp2_with fail
    exact fin hR ⟨HX.out.1, .inr ⟨HX.out.2.1, rfl, _, _, HX.out.2.2⟩⟩

set_option maxRecDepth 100000 in
theorem rint_failed {w : World} {q : Nat} {v0 : Value} {L : List UInt8} (h : RdAt w q v0 L true) :
    Calls Tryz.prog 51 #[.pointer (some ⟨q, 0, none⟩)] w fun e w' => e = .returned (.int .i64 0) ∧ Mod No w w' := by
  refine calls_hide fun R hR => ?_
  have hmf : ∀ (fn : Fn) (first cap : Array Value) (w : World), (Instr.makeFunc fn first cap).run Tryz.prog w = .ok (.func fn first cap) w := fun _ _ _ _ => rfl
  have hql := lt_of_heap h.obj
  obtain ⟨w1, hw1⟩ : ∃ w1, w1 = (w.alloc (.cells #[.pointer (some ⟨q, 0, none⟩)] 107)).alloc (.cells #[.int .i64 0] 2) := ⟨_, rfl⟩
  have m1 : Mod No w w1 := by rw [hw1]; exact ((Mod.refl No w).alloc _).alloc _
  have HT := Lib.hid (rtry_int_failed (c1 := .pointer (some ⟨w.heap.size, 0, none⟩)) (c2 := .pointer (some ⟨w.heap.size + 1, 0, none⟩)) (h.stay m1))
  have M1 := Lib.hid m1
  have HW1 := Lib.hid hw1
  clear hw1 m1 h
  go_enter Tryz.func51, Tryz.ntmps51
  go_wp2_with fail
  rw [← HW1.out]
  with_reducible refine HT.out.mono ?_
  clear HT
  rintro e w2 ⟨rfl, hm2⟩
  have M2 := Lib.hid (M1.out.trans hm2)
  clear hm2 HW1
  go_wp2_with fail
  exact fin hR ⟨rfl, M2.out⟩

end Go.Proofs.YtkeopmfmlciadaaGreat
namespace Go.Proofs.YtkeopmfmlciadaaGreat
open Go.RowKit

/-- Numbers that are not below nought, as Int writes them. -/
def intsB (xs : List Nat) : List UInt8 := xs.flatMap fun x => numB (2 * x)

theorem intsB_len (xs : List Nat) (h : ∀ x ∈ xs, x < 4611686018427387904) : (intsB xs).length ≤ 10 * xs.length := by
  induction xs with
  | nil => simp [intsB]
  | cons x xs ih =>
    have h1 := ih fun y hy => h y (by simp [hy])
    have h2 := numB_bound (2 * x) (by have := h x (by simp); omega)
    have e : intsB (x :: xs) = numB (2 * x) ++ intsB xs := rfl
    rw [e, List.length_append, List.length_cons]; omega

set_option maxRecDepth 100000 in
set_option maxHeartbeats 4000000 in
theorem wint_any {w : World} {base q : Nat} {v0 : Value} {L : List UInt8} (h : WrAt w base q v0 L) (hL : L.length ≤ 900000000) (hb : base ≤ w.heap.size) {ab ao c : Nat} {xs : List Nat} (hx : xs.length ≤ 1000) (hab : ab < base)
    (hc : ∀ i (hi : i < xs.length), w.cell? ⟨ab, ao + i, none⟩ = some (.int .i64 (xs[i] : Int))) (hs : ∀ x ∈ xs, x < 4611686018427387904) :
    Calls Tryz.prog 73 #[.pointer (some ⟨q, 0, none⟩), .slice (some ⟨ab, ao, none⟩) xs.length c] w fun e w' => ∃ v, e = .returned (.tuple #[]) ∧ WrAt w' base q v (L ++ intsB xs) ∧ Mod (From base) w w' := by
  refine calls_hide fun R hR => ?_
  have H := Lib.hid h
  have HC := Lib.hid hc
  have HS := Lib.hid hs
  clear h hc hs
  go_enter Tryz.func73, Tryz.ntmps73
  go_wp2_with fail
  go_loopw [8] (fun x wr => ∃ (i : Nat) (v : Value), i ≤ xs.length ∧ x = .int .i64 i ∧ WrAt wr base q v (L ++ intsB (xs.take i)) ∧ Mod (From base) w wr) (fun x _ => xs.length - (intOf x).toNat)
  case atStart => exact ⟨0, v0, by omega, rfl, by rw [List.take_zero, show intsB [] = [] from rfl, List.append_nil]; exact H.out, Mod.refl _ _⟩
  case round =>
    obtain ⟨i, v, hi, rfl, hw, hm⟩ := hrel
    have hi0 : (0 : Int) ≤ (i : Int) := Int.natCast_nonneg _
    have HW := Lib.hid hw
    have HM := Lib.hid hm
    by_cases hlt : i < xs.length
    · have hi1 : (i : Int) < (xs.length : Int) := by omega
      have c0 := hm.cell (HC.out i hlt) (fun e => by have e : base ≤ ab := e; omega)
      have hsx := HS.out _ (List.getElem_mem hlt)
      have HT := Lib.hid (show intsB (xs.take (i + 1)) = intsB (xs.take i) ++ numB (2 * xs[i]) by
        rw [List.take_succ_eq_append_getElem hlt]; unfold intsB; rw [List.flatMap_append]; simp)
      have hle := intsB_len (xs.take i) (fun x hx => HS.out x (List.mem_of_mem_take hx))
      rw [List.length_take] at hle
      have HLE := Lib.hid (show (L ++ intsB (xs.take i)).length ≤ 1000000000 by rw [List.length_append]; omega)
      generalize xs[i] = x at *
      have hx0 : (0 : Int) ≤ (x : Int) := Int.natCast_nonneg _
      have hx1 : (x : Int) < 4611686018427387904 := by omega
      have hdx : (x : Int) / 9223372036854775808 = 0 := by omega
      obtain ⟨n, hn⟩ : ∃ n, n = 2 * x := ⟨_, rfl⟩
      have hxo : bits .xor .u64 ((x : Int) * 2) 0 = (n : Int) := by
        have := bits_xor_u64_nat n 0 (by omega) (by omega)
        rw [Nat.xor_zero, show (n : Int) = (x : Int) * 2 by omega] at this
        rw [show (n : Int) = (x : Int) * 2 by omega]
        exact this
      rw [← hn] at HT
      have hn64 : n < 18446744073709551616 := by omega
      clear hn
      obtain ⟨w2, hw2⟩ : ∃ w2, w2 = wr.alloc (.cells #[.int .u64 (n : Int)] 102) := ⟨_, rfl⟩
      obtain ⟨g, hg⟩ : ∃ g, g = wr.heap.size := ⟨_, rfl⟩
      have hm2 : Mod No wr w2 := by rw [hw2]; exact (Mod.refl No _).alloc _
      have hb2 : base ≤ w2.heap.size := by have := hm.size; have := hm2.size; omega
      have HNU := Lib.hid (wnum_any (w := w2) (c := 1) (hw.stay hm2) HLE.out hb2 (a := ⟨g, 0, none⟩) (cell_of (i := 0) (by rw [hw2, hg]; exact heap_alloc_new wr _) rfl) rfl hn64)
      have HM2 := Lib.hid (HM.out.trans (hm2.weaken fun _ _ f => f.elim))
      have HG := Lib.hid hg
      have HW2 := Lib.hid hw2
      clear hw hm hle hw2 hg hm2 hb2
      go_wp2_with fail
      rw [← HW2.out, ← HG.out]
      with_reducible refine HNU.out.mono ?_
      rintro e w3 ⟨v3, rfl, h3, hm3⟩
      have HX := Lib.hid (show WrAt w3 base q v3 (L ++ intsB (xs.take (i + 1))) by rw [HT.out, ← List.append_assoc]; exact h3)
      have HM3 := Lib.hid (HM2.out.trans hm3)
      clear h3 hm3 HNU
      go_wp2_with fail
      exact ⟨⟨i + 1, v3, by omega, by go_num, HX.out, HM3.out⟩, by go_light; simp only [intOf]; omega⟩
    · have hil : i = xs.length := by omega
      subst hil
      rw [List.take_length] at hw
      have HW := Lib.hid hw
      clear hw hm
      go_wp2_with fail
      go_end0
      exact fin hR ⟨_, rfl, HW.out, HM.out⟩

end Go.Proofs.YtkeopmfmlciadaaGreat
namespace Go.Proofs.YtkeopmfmlciadaaGreat
open Go.RowKit Go.Maps

def keyE : List UInt8 := [108, 47, 101, 112, 111, 99, 104]
def keyH : List UInt8 := [108, 47, 104, 111, 108, 100, 101, 114]

/-- The epoch that a store has: none is nought. -/
def EpAt (M : Mt) (n : Nat) : Prop := (n = 0 ∧ M keyE = none) ∨ M keyE = some (numB n)

/-- Who is noted, and of which epoch. -/
def HoAt (M : Mt) (hs : Option (Nat × Nat)) : Prop := M keyH = hs.map fun p => intsB [p.1, p.2]

theorem rdNum_nil : rdNum [] = none := rfl
theorem rdHalf_nil : rdHalf [] = none := rfl
theorem even_nil : EvenN [] := fun _ _ h => by cases h

theorem rdHalf_int (x : Nat) (l : List UInt8) (h : x < 2305843009213693952) : rdHalf (numB (2 * x) ++ l) = some (x, l) := by
  unfold rdHalf
  rw [rdNum_num _ _ (by omega)]
  simp

theorem even_int (x : Nat) (l : List UInt8) (h : x < 2305843009213693952) : EvenN (numB (2 * x) ++ l) := fun n r e => by
  rw [rdNum_num _ _ (by omega)] at e
  cases e
  omega

/-- []byte(s) -/
theorem bytes_str (w : World) (l : List UInt8) (hl : l.length ≤ 1000000) : ∃ c W, (convert 9 45 (.string ⟨l.toArray⟩)).run Tryz.prog w = .ok (.slice (some ⟨w.heap.size, 0, none⟩) l.length c) W ∧ Sl W No 5 (.slice (some ⟨w.heap.size, 0, none⟩) l.length c) l.length (bv l) ∧ Mod No w W := by
  have hs := str_size_list l
  refine ⟨grownCap w l.length 0 5, Lib.bytesWorld w 5 ⟨l.toArray⟩, ?_, ?_, ?_⟩
  · have := Lib.run_convert_string_bytes (P := Tryz.prog) w 9 45 5 ⟨l.toArray⟩ Tryz.underlying9 Tryz.underlying45 Tryz.underlying5
    rw [hs] at this
    exact this
  · refine .inr ⟨w.heap.size, 0, _, _, _, rfl, ?_, grownCap_le_maxLen w _ 0 _ (by unfold maxLen; omega), fun f => f, Lib.bytesWorld_at_new w _ _, ?_, fun i hi => ?_⟩
    · exact grownCap_ge w _ 0 _
    · unfold Lib.bytesCells; simp
    · rw [bv_length] at hi
      unfold Lib.bytesCells
      rw [Nat.zero_add, Array.getElem?_append_left (by simpa using hi), bv_get _ i hi]
      simp [hi]
  · exact ⟨rfl, rfl, rfl, by rw [Lib.bytesWorld_size]; omega, fun k hk _ => Lib.bytesWorld_at_old w _ _ k hk⟩

theorem and_max (n : Nat) (hn : n < 9223372036854775808) : bits .and .u64 (n : Int) 9223372036854775807 = (n : Int) := by
  have h := bits_and_u64_nat n 9223372036854775807 (by omega) (by omega)
  have e : n &&& 9223372036854775807 = n % 2 ^ 63 := Nat.and_two_pow_sub_one_eq_mod n 63
  rw [e, Nat.mod_eq_of_lt (by omega)] at h
  exact h

/-- What number reads. -/
theorem rd_epoch {E : Nat} {L : List UInt8} (hE : E ≤ 1000000) (h : (E = 0 ∧ L = []) ∨ L = numB E) : (∃ r, rdNum L = some (E, r)) ∨ (rdNum L = none ∧ E = 0) := by
  rcases h with ⟨rfl, rfl⟩ | rfl
  · exact .inr ⟨rfl, rfl⟩
  · refine .inl ⟨[], ?_⟩
    have := rdNum_num E [] (by omega)
    rwa [List.append_nil] at this

set_option maxRecDepth 100000 in
theorem lnumber_any {w0 w : World} {N sz b s n cnt E : Nat} {O : Nat → Prop} {M : Mt} (h : Sto w0 w N sz b s O n M cnt) (he : EpAt M E) (hE : E ≤ 1000000) :
    Calls Tryz.prog 45 #[.pointer (some ⟨s, 0, none⟩), .string ⟨keyE.toArray⟩] w fun e w' => e = .returned (.int .i64 (E : Int)) ∧ Mod No w w' := by
  refine calls_hide fun R hR => ?_
  obtain ⟨L, hL, hval⟩ : ∃ L : List UInt8, L = (M keyE).getD [] ∧ ((E = 0 ∧ L = []) ∨ L = numB E) := by
    rcases he with ⟨h1, h2⟩ | h2
    · exact ⟨[], by rw [h2]; rfl, .inl ⟨h1, rfl⟩⟩
    · exact ⟨numB E, by rw [h2]; rfl, .inr rfl⟩
  have hll : L.length ≤ 10 := by
    rcases hval with ⟨-, rfl⟩ | rfl
    · exact Nat.zero_le _
    · exact numB_bound E (by omega)
  have HG := h.get keyE (by decide)
  unfold getV at HG
  rw [← hL] at HG
  generalize (M keyE).isSome = ok at HG
  obtain ⟨c, W, hcv, hsl, hm⟩ := bytes_str w L (by omega)
  have HNR := Lib.hid (newReader_any hsl (by omega))
  have HM := Lib.hid hm
  have HG := Lib.hid HG
  have HV := Lib.hid hval
  have hE2 : (E : Int) ≤ 1000000 := by omega
  have hE0 : (0 : Int) ≤ (E : Int) := Int.natCast_nonneg _
  have ham := and_max E (by omega)
  clear h he hL hval hsl hm
  generalize (⟨keyE.toArray⟩ : ByteArray) = KE at *
  generalize hLL : (⟨L.toArray⟩ : ByteArray) = LL at *
  clear hLL
  go_enter Tryz.func45, Tryz.ntmps45
  go_wp2_with fail
  with_reducible refine HG.out.mono ?_
  rintro e w2 ⟨rfl, h2⟩
  subst h2
  go_wp2_with fail
  with_reducible refine HNR.out.mono ?_
  rintro e w3 ⟨q, v3, rfl, hrd, hm3, hq⟩
  have HRN := Lib.hid (rnum_ok hrd (by omega))
  have HM3 := Lib.hid (HM.out.trans hm3)
  have HQ := Lib.hid (show ∀ w', Mod (fun k => k = q) w3 w' → Mod No w2 w' from fun w' h => HM3.out.then h fun k hk e => by have e : k = q := e; have := HM.out.size; omega)
  clear hrd hm3 HNR hcv
  go_wp2_with fail
  with_reducible refine HRN.out.mono ?_
  clear HRN
  rintro e w4 ⟨hm4, ⟨o, L', v, hrd, rfl, -⟩ | ⟨hrd, rfl, -⟩⟩
  · have HM4 := Lib.hid (HQ.out w4 hm4)
    obtain rfl : o = E := by
      rcases rd_epoch (by omega) HV.out with ⟨r, h⟩ | ⟨h, -⟩
      · rw [h] at hrd; cases hrd; rfl
      · rw [h] at hrd; cases hrd
    clear hrd hm4
    go_wp2_with fail
    exact fin hR ⟨rfl, HM4.out⟩
  · have HM4 := Lib.hid (HQ.out w4 hm4)
    obtain rfl : E = 0 := by
      rcases rd_epoch (by omega) HV.out with ⟨r, h⟩ | ⟨-, h⟩
      · rw [h] at hrd; cases hrd
      · exact h
    have ham0 : bits .and .u64 0 9223372036854775807 = 0 := ham
    clear hrd hm4
    go_wp2_with fail
    exact fin hR ⟨rfl, HM4.out⟩

set_option maxRecDepth 100000 in
theorem ltext_any {w : World} {ab ao c : Nat} {xs : List Nat} (hx : xs.length ≤ 1000) (hab : ab < w.heap.size) (hc : ∀ i (hi : i < xs.length), w.cell? ⟨ab, ao + i, none⟩ = some (.int .i64 (xs[i] : Int))) (hs : ∀ x ∈ xs, x < 4611686018427387904) :
    Calls Tryz.prog 49 #[.slice (some ⟨ab, ao, none⟩) xs.length c] w fun e w' => e = .returned (.string ⟨(intsB xs).toArray⟩) ∧ Mod No w w' := by
  refine calls_hide fun R hR => ?_
  have HC := Lib.hid hc
  have HS := Lib.hid hs
  clear hc hs
  go_enter Tryz.func49, Tryz.ntmps49
  go_wp2_with fail
  with_reducible refine (newWriter_any w).mono ?_
  rintro e w1 ⟨rfl, hw1, hm1⟩
  have HW := Lib.hid (wint_any (c := c) hw1 (by show (0 : Nat) ≤ _; omega) hm1.size hx hab (fun i hi => hm1.cell (HC.out i hi) (fun f => f)) HS.out)
  have HM1 := Lib.hid hm1
  clear hw1 hm1
  go_wp2_with fail
  with_reducible refine HW.out.mono ?_
  clear HW
  rintro e w2 ⟨v, rfl, hw2, hm2⟩
  rw [List.nil_append] at hw2
  have hlen := intsB_len xs HS.out
  have HB := Lib.hid (wbytes_any hw2 (by omega))
  have HM2 := Lib.hid (show Mod No w w2 from HM1.out.then hm2 fun q hq e => by have e : w.heap.size ≤ q := e; omega)
  clear hw2 hm2
  generalize hI : intsB xs = I at *
  have HI := Lib.hid hI
  clear hI
  go_wp2_with fail
  with_reducible refine HB.out.mono ?_
  clear HB
  rintro e w3 ⟨v3, rfl, ho, hm3⟩
  obtain ⟨va, vc, rfl⟩ := own_len ho
  have hcv := string_of (P := Tryz.prog) (src := 45) (dst := 9) (e := 5) (l := I) (Sl.of_own (X := No) ho (fun _ _ f => f)) Tryz.underlying45 Tryz.underlying5 Tryz.underlying9
  have HM3 := Lib.hid (HM2.out.trans hm3)
  generalize (⟨I.toArray⟩ : ByteArray) = V at *
  clear ho hm3
  go_wp2_with fail
  exact fin hR ⟨rfl, HM3.out⟩

end Go.Proofs.YtkeopmfmlciadaaGreat
namespace Go.Proofs.YtkeopmfmlciadaaGreat
open Go.RowKit Go.Maps

/-- A latch at x over a store at s: its epoch, who took it by this one, and whether it hasn't left. -/
def LtAt (w : World) (x s E : Nat) (ow : Int) (held : Bool) : Prop :=
  w.heap[x]? = some (.cells #[.pointer (some ⟨s, 0, none⟩), .int .i64 (E : Int), .int .i64 ow, .bool held] 105 (0, 0))

theorem LtAt.keep {S : Nat → Prop} {w w' : World} {x s E : Nat} {ow : Int} {held : Bool} (h : LtAt w x s E ow held) (hm : Mod S w w') (hx : ¬ S x) : LtAt w' x s E ow held := hm.keep h hx

theorem LtAt.stay {w w' : World} {x s E : Nat} {ow : Int} {held : Bool} (h : LtAt w x s E ow held) (hm : Mod No w w') : LtAt w' x s E ow held := hm.keep h (fun f => f)

/-- What Holder tells. -/
def hoV : Option (Nat × Nat) → Value
  | none => .tuple #[.int .i64 0, .int .i64 0, .bool false]
  | some (o, e) => .tuple #[.int .i64 (o : Int), .int .i64 (e : Int), .bool true]

theorem intsB_two (o e : Nat) : intsB [o, e] = numB (2 * o) ++ (numB (2 * e) ++ []) := rfl

set_option maxRecDepth 100000 in
set_option maxHeartbeats 1000000 in
theorem lholder_any {w0 w : World} {N sz b s n cnt x E : Nat} {ow : Int} {held : Bool} {O : Nat → Prop} {M : Mt} {hs : Option (Nat × Nat)} (h : Sto w0 w N sz b s O n M cnt) (hx : LtAt w x s E ow held) (hh : HoAt M hs) (hb : ∀ p, hs = some p → p.1 ≤ 1000000 ∧ p.2 ≤ 1000000) :
    Calls Tryz.prog 30 #[.pointer (some ⟨x, 0, none⟩)] w fun e w' => e = .returned (hoV hs) ∧ Mod No w w' := by
  refine calls_hide fun R hR => ?_
  have x0 := cell_of (i := 0) hx rfl
  have HG := h.get keyH (by decide)
  unfold getV at HG
  rw [hh] at HG
  have hln : ∀ L : List UInt8, L = (hs.map fun p => intsB [p.1, p.2]).getD [] → L.length ≤ 20 := fun L e => by
    subst e
    cases hs with
    | none => exact Nat.zero_le _
    | some p =>
      have := hb p rfl
      exact intsB_len [p.1, p.2] (fun y hy => by
        rcases List.mem_cons.1 hy with rfl | hy
        · omega
        · obtain rfl := List.mem_singleton.1 hy; omega)
  obtain ⟨L, hL⟩ : ∃ L : List UInt8, L = (hs.map fun p => intsB [p.1, p.2]).getD [] := ⟨_, rfl⟩
  rw [← hL] at HG
  have hll := hln L hL
  obtain ⟨c, W, hcv, hsl, hm⟩ := bytes_str w L (by omega)
  have HNR := Lib.hid (newReader_any hsl (by omega))
  have HM := Lib.hid hm
  have HB := Lib.hid hb
  clear h hx hh hb hln hsl hm
  cases hs with
  | none =>
    obtain rfl : L = [] := hL
    have HG := Lib.hid (show Calls Tryz.prog 17 #[.pointer (some ⟨s, 0, none⟩), .string ⟨#[108, 47, 104, 111, 108, 100, 101, 114]⟩] w fun e w' => e = .returned (.tuple #[.string ⟨#[]⟩, .bool false]) ∧ w' = w from HG)
    have hcv : (convert 9 45 (.string ⟨#[]⟩)).run Tryz.prog w = .ok (.slice (some ⟨w.heap.size, 0, none⟩) ([] : List UInt8).length c) W := hcv
    have HNR := Lib.hid (show Calls Tryz.prog 50 #[.slice (some ⟨w.heap.size, 0, none⟩) 0 c] W fun e w' => ∃ q v', e = .returned (.pointer (some ⟨q, 0, none⟩)) ∧ RdAt w' q v' [] false ∧ Mod No W w' ∧ W.heap.size ≤ q from HNR.out)
    go_enter Tryz.func30, Tryz.ntmps30
    go_wp2_with fail
    with_reducible refine HG.out.mono ?_
    rintro e w2 ⟨rfl, h2⟩
    subst h2
    go_wp2_with fail
    with_reducible refine HNR.out.mono ?_
    rintro e w3 ⟨q, v3, rfl, hrd, hm3, hq⟩
    have HRN := Lib.hid (rint_ok hrd (by show (0 : Nat) ≤ _; omega) even_nil)
    have HM3 := Lib.hid (HM.out.trans hm3)
    have HQ := Lib.hid (show ∀ w', Mod (fun k => k = q) w3 w' → Mod No w2 w' from fun w' h => HM3.out.then h fun k hk e => by have e : k = q := e; have := HM.out.size; omega)
    clear hrd hm3 HNR hcv x0
    go_wp2_with fail
    with_reducible refine HRN.out.mono ?_
    clear HRN
    rintro e w4 ⟨hm4, ⟨o, L', v, hrd, -, -⟩ | ⟨-, rfl, v4, L4, hrd⟩⟩
    · cases hrd
    · have HM4 := Lib.hid (HQ.out w4 hm4)
      have HRF := Lib.hid (rint_failed hrd)
      clear hrd hm4
      go_wp2_with fail
      with_reducible refine HRF.out.mono ?_
      rintro e w5 ⟨rfl, hm5⟩
      have HM5 := Lib.hid (HM4.out.trans hm5)
      clear hm5 HRF
      go_wp2_with fail
      exact bodyPost_ret (v := hoV none) (by simp [results, Tryz.results30, go_sem, hoV]) rfl (fin hR ⟨rfl, HM5.out⟩)
  | some p =>
    obtain ⟨o, ep⟩ := p
    obtain ⟨ho, he⟩ := HB.out _ rfl
    dsimp only at ho he
    have hL2 : L = numB (2 * o) ++ (numB (2 * ep) ++ []) := hL
    have HEV := Lib.hid (show EvenN L by rw [hL2]; exact even_int o _ (by omega))
    have HRD := Lib.hid (show rdHalf L = some (o, numB (2 * ep) ++ []) by rw [hL2]; exact rdHalf_int o _ (by omega))
    have HEV2 := Lib.hid (even_int ep [] (by omega))
    have HRD2 := Lib.hid (rdHalf_int ep [] (by omega))
    have hl2 : (numB (2 * ep) ++ []).length ≤ 20 := by have := numB_bound (2 * ep) (by omega); rw [List.append_nil]; omega
    generalize (numB (2 * ep) ++ []) = L2 at *
    clear hL hL2
    generalize hLL : (⟨L.toArray⟩ : ByteArray) = LL at *
    have HG : Hid (Calls Tryz.prog 17 #[.pointer (some ⟨s, 0, none⟩), .string ⟨#[108, 47, 104, 111, 108, 100, 101, 114]⟩] w fun e w' => e = .returned (.tuple #[.string LL, .bool true]) ∧ w' = w) := Lib.hid HG
    clear hLL
    go_enter Tryz.func30, Tryz.ntmps30
    go_wp2_with fail
    with_reducible refine HG.out.mono ?_
    rintro e w2 ⟨rfl, h2⟩
    subst h2
    go_wp2_with fail
    with_reducible refine HNR.out.mono ?_
    rintro e w3 ⟨q, v3, rfl, hrd, hm3, hq⟩
    have HRN := Lib.hid (rint_ok hrd (by omega) HEV.out)
    have HM3 := Lib.hid (HM.out.trans hm3)
    have HQ := Lib.hid (show ∀ w4 w', Mod No w2 w4 → Mod (fun k => k = q) w4 w' → Mod No w2 w' from fun w4 w' h1 h => h1.then h fun k hk e => by have e : k = q := e; have := HM.out.size; omega)
    clear hrd hm3 HNR hcv x0
    go_wp2_with fail
    with_reducible refine HRN.out.mono ?_
    clear HRN
    rintro e w4 ⟨hm4, ⟨o', L', v, hrd, rfl, hr4⟩ | ⟨hrd, -, -⟩⟩
    · rw [HRD.out] at hrd
      cases hrd
      have HM4 := Lib.hid (HQ.out _ w4 HM3.out hm4)
      have HRN := Lib.hid (rint_ok hr4 (by omega) HEV2.out)
      clear hr4 hm4
      go_wp2_with fail
      with_reducible refine HRN.out.mono ?_
      clear HRN
      rintro e w5 ⟨hm5, ⟨o', L', v, hrd, rfl, hr5⟩ | ⟨hrd, -, -⟩⟩
      · rw [HRD2.out] at hrd
        cases hrd
        have HM5 := Lib.hid (HQ.out _ w5 HM4.out hm5)
        have HDN := Lib.hid (show Calls Tryz.prog 52 #[.pointer (some ⟨q, 0, none⟩)] w5 fun e w' => e = .returned (.int .i64 0) ∧ w' = w5 from rdone_any hr5)
        clear hr5 hm5
        go_wp2_with fail
        with_reducible refine HDN.out.mono ?_
        rintro e w6 ⟨rfl, h2⟩
        subst h2
        go_wp2_with fail
        exact bodyPost_ret (v := hoV (some (o, ep))) (by simp [results, Tryz.results30, go_sem, hoV]) rfl (fin hR ⟨rfl, HM5.out⟩)
      · rw [HRD2.out] at hrd; cases hrd
    · rw [HRD.out] at hrd; cases hrd

set_option maxRecDepth 100000 in
theorem lepoch_any {w : World} {x s E : Nat} {ow : Int} {held : Bool} (hx : LtAt w x s E ow held) :
    Calls Tryz.prog 29 #[.pointer (some ⟨x, 0, none⟩)] w fun e w' => e = .returned (.int .i64 (E : Int)) ∧ w' = w := by
  refine calls_hide fun R hR => ?_
  have x1 := cell_of (i := 1) hx rfl
  clear hx
  go_enter Tryz.func29, Tryz.ntmps29
  go_wp2_with fail
  exact fin hR ⟨rfl, rfl⟩

set_option maxRecDepth 100000 in
theorem lpair_any {w : World} {x : Nat} :
    Calls Tryz.prog 31 #[.pointer (some ⟨x, 0, none⟩)] w fun e w' => e = .returned (.agg #[.string ⟨#[108, 47, 104, 111, 108, 100, 101, 114]⟩, .string ⟨#[]⟩, .bool true]) ∧ Mod No w w' := by
  refine calls_hide fun R hR => ?_
  go_enter Tryz.func31, Tryz.ntmps31
  obtain ⟨w2, hw2⟩ : ∃ w2, w2 = w.alloc (.cells #[.string ⟨#[108, 47, 104, 111, 108, 100, 101, 114]⟩, .string ⟨#[]⟩, .bool true] 32) := ⟨_, rfl⟩
  have hg : w2.heap[w.heap.size]? = some (.cells #[.string ⟨#[108, 47, 104, 111, 108, 100, 101, 114]⟩, .string ⟨#[]⟩, .bool true] 32 (0, 0)) := by rw [hw2]; exact heap_alloc_new w _
  have HM := Lib.hid (show Mod No w w2 by rw [hw2]; exact (Mod.refl No w).alloc _)
  have r0 := cell_of (i := 0) hg rfl
  have r1 := cell_of (i := 1) hg rfl
  have r2 := cell_of (i := 2) hg rfl
  have HW2 := Lib.hid hw2
  clear hg hw2
  go_wp2_with fail
  rw [← HW2.out]
  exact bodyPost_ret (v := .agg #[.string ⟨#[108, 47, 104, 111, 108, 100, 101, 114]⟩, .string ⟨#[]⟩, .bool true]) (by simp [results, Tryz.results31, go_sem, r0, r1, r2]) rfl (fin hR ⟨rfl, HM.out⟩)

/-- Leave: whether it hasn't left, behind it. -/
def leftB (held : Bool) (ow o : Int) : Bool := held && !decide (ow = o)

set_option maxRecDepth 100000 in
theorem lleave_any {w : World} {x s E : Nat} {ow o : Int} {held : Bool} (hx : LtAt w x s E ow held) :
    Calls Tryz.prog 28 #[.pointer (some ⟨x, 0, none⟩), .int .i64 o] w fun e w' => e = .returned (.tuple #[]) ∧ LtAt w' x s E ow (leftB held ow o) ∧ Mod (fun q => q = x) w w' := by
  refine calls_hide fun R hR => ?_
  have x2 := cell_of (i := 2) hx rfl
  have x3 := cell_of (i := 3) hx rfl
  have f3 := frozen_of 3 hx
  have HX := Lib.hid hx
  clear hx
  cases held with
  | false =>
    go_enter Tryz.func28, Tryz.ntmps28
    go_wp2_with fail
    go_end0
    exact fin hR ⟨rfl, HX.out, Mod.refl _ _⟩
  | true =>
    by_cases ho : ow = o
    · subst ho
      have HE := Lib.hid (show leftB true ow ow = false by simp [leftB])
      have H2 := Lib.hid (show LtAt (w.setCell ⟨x, 3, none⟩ (.bool false)) x s E ow false by
        unfold LtAt; rw [heap_setCell HX.out]; rfl)
      have HM := Lib.hid (show Mod (fun q => q = x) w (w.setCell ⟨x, 3, none⟩ (.bool false)) from (Mod.refl (fun q => q = x) w).setCell (fun _ => rfl) _)
      go_enter Tryz.func28, Tryz.ntmps28
      go_wp2_with fail
      go_end0
      exact fin hR ⟨rfl, by rw [HE.out]; exact H2.out, HM.out⟩
    · have HE := Lib.hid (show leftB true ow o = true by simp [leftB, ho])
      have ho2 : (ow == o) = false := by simpa using ho
      go_enter Tryz.func28, Tryz.ntmps28
      go_wp2_with fail
      go_end0
      exact fin hR ⟨rfl, by rw [HE.out]; exact HX.out, Mod.refl _ _⟩

end Go.Proofs.YtkeopmfmlciadaaGreat
namespace Go.Proofs.YtkeopmfmlciadaaGreat
open Go.RowKit Go.Maps Go.Sort

def keyX : List UInt8 := [120, 47, 107]
def threeK : List (List UInt8) := [keyE, keyH, keyX]

theorem three_len : ∀ k ∈ threeK, k.length ≤ 8 := by decide

/-- A map of the latch's laws. -/
def Three (M : Mt) : Prop := ∀ k v, M k = some v → k ∈ threeK ∧ v.length ≤ 60

theorem three_none : Three (fun _ => none) := fun _ _ h => by cases h

def ThreeP (l : List Pr) : Prop := ∀ p ∈ l, p.key ∈ threeK ∧ p.value.length ≤ 60

theorem ThreeP.mid {l : List Pr} (h : ThreeP l) : MidP l := fun p hp => by
  have h1 := h p hp
  have h2 := three_len _ h1.1
  omega

theorem Three.change {M : Mt} (h : Three M) {p : Pr} (hp : p.key ∈ threeK ∧ p.value.length ≤ 60) : Three (M.change p) := fun k v e => by
  unfold Mt.change at e
  split at e
  · unfold Mt.del at e
    split at e
    · cases e
    · exact h k v e
  · unfold Mt.put at e
    split at e
    · rename_i hk; cases e; subst hk; exact hp
    · exact h k v e

theorem Three.changes : ∀ {l : List Pr} {M : Mt}, Three M → ThreeP l → Three (M.changes l)
  | [], _, h, _ => h
  | p :: l, M, h, hl => Three.changes (l := l) (M := M.change p) (h.change (hl p (by simp))) fun q hq => hl q (by simp [hq])

theorem Three.mid {M : Mt} (h : Three M) : MidM M := fun k v e => by
  have h1 := h k v e
  have h2 := three_len _ h1.1
  omega

theorem Three.keys {M : Mt} (h : Three M) {ks : List (List UInt8)} (hk : KeysOfM M ks) : ∀ k ∈ ks, k ∈ threeK := fun k hm => by
  obtain ⟨v, hv⟩ := Option.isSome_iff_exists.1 ((hk.mem k).1 hm)
  exact (h k v hv).1

theorem Three.fits {M : Mt} (h : Three M) {N sz : Nat} (hN : 64 ≤ N) (hs : 256 ≤ sz) : Fits N sz M := fun ks hk => by
  have h1 := body_le2 (l := prB (recsOf M ks)) (m := 400) (fun r hr => by
    obtain ⟨p, hp, rfl⟩ := List.mem_map.1 hr
    obtain ⟨k, hkm, rfl⟩ := List.mem_map.1 hp
    obtain ⟨v, hv⟩ := Option.isSome_iff_exists.1 ((hk.mem k).1 hkm)
    have h3 := h k v hv
    have h4 := three_len _ h3.1
    have e : ((M k).getD []).length ≤ 60 := by rw [hv]; exact h3.2
    have := pairB_len ⟨k, (M k).getD [], false⟩ (show k.length ≤ _ by omega) (show ((M k).getD []).length ≤ _ by omega)
    have e2 : (⟨k, (M k).getD [], false⟩ : Pr).key.length = k.length := rfl
    have e3 : (⟨k, (M k).getD [], false⟩ : Pr).value.length = ((M k).getD []).length := rfl
    omega)
  have h2 : (prB (recsOf M ks)).length ≤ 3 := by
    simp only [prB, recsOf, List.length_map]
    exact hk.nodup.length_le_of_subset fun k hm => h.keys hk k hm
  have h3 : (32 : Nat) * 240 ≤ (N / 2) * (sz - 16) := Nat.mul_le_mul (by omega) (by omega)
  omega

/-- A latch's store: it owns no block of X. -/
structure Lb (w0 w : World) (N sz b s : Nat) (M : Mt) (n cnt : Nat) (X : Nat → Prop) : Prop where
  has : ∃ O n1 c1, n1 ≤ n ∧ c1 ≤ cnt ∧ Sto w0 w N sz b s O n1 M c1 ∧ ∀ q, X q → ¬ O q
  three : Three M
  low : ∀ q, X q → q < w.heap.size

theorem Lb.mod {w0 w : World} {N sz b s n cnt : Nat} {M : Mt} {X : Nat → Prop} (h : Lb w0 w N sz b s M n cnt X) : Mod No w0 w := by
  obtain ⟨O, n1, c1, -, -, h1, -⟩ := h.has
  exact h1.mod

theorem Lb.stay {w0 w w' : World} {N sz b s n cnt : Nat} {M : Mt} {X : Nat → Prop} (h : Lb w0 w N sz b s M n cnt X) (hm : Mod No w w') : Lb w0 w' N sz b s M n cnt X := by
  obtain ⟨O, n1, c1, e1, e2, h1, h2⟩ := h.has
  exact ⟨⟨O, n1, c1, e1, e2, h1.stay hm, h2⟩, h.three, fun q e => Nat.lt_of_lt_of_le (h.low q e) hm.size⟩

theorem Lb.more {w0 w : World} {N sz b s n m cnt c2 : Nat} {M : Mt} {X : Nat → Prop} (h : Lb w0 w N sz b s M n cnt X) (hn : n ≤ m) (hc : cnt ≤ c2) : Lb w0 w N sz b s M m c2 X := by
  obtain ⟨O, n1, c1, e1, e2, h1, h2⟩ := h.has
  exact ⟨⟨O, n1, c1, by omega, by omega, h1, h2⟩, h.three, h.low⟩

/-- A new block is nobody's. -/
theorem Lb.beside {w0 w w' : World} {N sz b s n cnt : Nat} {M : Mt} {X : Nat → Prop} (h : Lb w0 w N sz b s M n cnt X) (hm : Mod No w w') {x : Nat} (h1 : w.heap.size ≤ x) (h2 : x < w'.heap.size) : Lb w0 w' N sz b s M n cnt (fun q => X q ∨ q = x) := by
  obtain ⟨O, n1, c1, e1, e2, k1, k2⟩ := h.has
  refine ⟨⟨O, n1, c1, e1, e2, k1.stay hm, fun q e => ?_⟩, h.three, fun q e => ?_⟩
  · rcases e with e | e
    · exact k2 q e
    · subst e; exact fun f => by have := k1.high _ f; omega
  · rcases e with e | e
    · exact Nat.lt_of_lt_of_le (h.low q e) hm.size
    · omega

theorem Lb.narrow {w0 w : World} {N sz b s n cnt : Nat} {M : Mt} {X Y : Nat → Prop} (h : Lb w0 w N sz b s M n cnt X) (hy : ∀ q, Y q → X q) : Lb w0 w N sz b s M n cnt Y := by
  obtain ⟨O, n1, c1, e1, e2, k1, k2⟩ := h.has
  exact ⟨⟨O, n1, c1, e1, e2, k1, fun q e => k2 q (hy q e)⟩, h.three, fun q e => h.low q (hy q e)⟩

theorem Lb.apply {w0 w : World} {N sz b s n cnt : Nat} {M : Mt} {X : Nat → Prop} {a : Option Addr} {c : Nat} {l : List Pr} (h : Lb w0 w N sz b s M n cnt X) (hN : 64 ≤ N) (hs : 256 ≤ sz) (hc : cnt ≤ 1000000000) (hn : n + l.length ≤ 10000) (hp : Prs w No a l) (hl : ThreeP l) :
    Calls Tryz.prog 14 #[.pointer (some ⟨s, 0, none⟩), .slice a l.length c] w fun e w' => e = .returned (.int .i64 0) ∧ Lb w0 w' N sz b s (M.changes l) (n + l.length) (cnt + 1) X ∧ Mod (fun q => ¬ X q) w w' := by
  obtain ⟨O, n1, c1, e1, e2, h1, h2⟩ := h.has
  have h7 : Three (M.changes l) := h.three.changes hl
  refine (h1.apply (c := c) hp hl.mid h7.mid (h7.fits hN hs) (by omega) (by omega) (by omega)).mono ?_
  rintro e w' ⟨rfl, O', h4, h5, hm⟩
  exact ⟨rfl, ⟨⟨O', n1 + l.length, c1 + 1, by omega, by omega, h4, fun q e f => h2 q e (h5 q (h.low q e) f)⟩, h7, fun q e => Nat.lt_of_lt_of_le (h.low q e) hm.size⟩, hm.weaken fun q _ e f => h2 q f e⟩

theorem Lb.get {w0 w : World} {N sz b s n cnt : Nat} {M : Mt} {X : Nat → Prop} (h : Lb w0 w N sz b s M n cnt X) (k : List UInt8) (hk : k.length ≤ 1000000000) :
    Calls Tryz.prog 17 #[.pointer (some ⟨s, 0, none⟩), .string ⟨k.toArray⟩] w fun e w' => e = .returned (getV M k) ∧ w' = w := by
  obtain ⟨O, n1, c1, e1, e2, h1, h2⟩ := h.has
  exact h1.get k hk

theorem Lb.first {w0 w : World} {N sz b s : Nat} {O : Nat → Prop} (h : Sto w0 w N sz b s O 0 (fun _ => none) 0) : Lb w0 w N sz b s (fun _ => none) 0 0 No :=
  ⟨⟨O, 0, 0, Nat.le_refl _, Nat.le_refl _, h, fun _ f => f.elim⟩, three_none, fun _ f => f.elim⟩

theorem Lb.reopen {w0 w : World} {N sz b s n cnt : Nat} {M : Mt} {X : Nat → Prop} (h : Lb w0 w N sz b s M n cnt X) (hn : 3 ≤ n) :
    Calls Tryz.prog 12 #[.pointer (some ⟨b, 0, none⟩)] w fun e w' => ∃ s', e = .returned (.tuple #[.pointer (some ⟨s', 0, none⟩), .int .i64 0]) ∧ Lb w0 w' N sz b s' M n cnt X ∧ Mod No w w' := by
  obtain ⟨O, n1, c1, e1, e2, h1, h2⟩ := h.has
  refine (h1.reopen threeK (fun k hk => by
    obtain ⟨v, hv⟩ := Option.isSome_iff_exists.1 hk
    exact (h.three k v hv).1)).mono ?_
  rintro e w' ⟨s', O', rfl, h4, h5, hm⟩
  exact ⟨s', rfl, ⟨⟨O', 3, c1, hn, e2, h4, fun q e f => h2 q e (h5 q (h.low q e) f)⟩, h.three, fun q e => Nat.lt_of_lt_of_le (h.low q e) hm.size⟩, hm⟩

set_option maxRecDepth 100000 in
set_option maxHeartbeats 4000000 in
theorem lopen_any {w0 w : World} {N sz b s n cnt E : Nat} {M : Mt} {X : Nat → Prop} (h : Lb w0 w N sz b s M n cnt X) (hN : 64 ≤ N) (hs : 256 ≤ sz) (hc : cnt ≤ 1000000000) (hn : n + 1 ≤ 10000) (he : EpAt M E) (hE : E ≤ 1000000) :
    Calls Tryz.prog 26 #[.pointer (some ⟨s, 0, none⟩)] w fun e w' => ∃ x, e = .returned (.tuple #[.pointer (some ⟨x, 0, none⟩), .int .i64 0]) ∧ Lb w0 w' N sz b s (M.put keyE (numB (E + 1))) (n + 1) (cnt + 1) (fun q => X q ∨ q = x) ∧ LtAt w' x s (E + 1) 0 false ∧ w.heap.size ≤ x ∧ Mod (fun q => ¬ X q) w w' := by
  refine calls_hide fun R hR => ?_
  have HNU := Lib.hid (show Calls Tryz.prog 45 #[.pointer (some ⟨s, 0, none⟩), .string ⟨#[108, 47, 101, 112, 111, 99, 104]⟩] w fun e w' => e = .returned (.int .i64 (E : Int)) ∧ Mod No w w' from by
    obtain ⟨O, n1, c1, e1, e2, h1, h2⟩ := h.has
    exact lnumber_any h1 he hE)
  have H := Lib.hid h
  obtain ⟨F, hF⟩ : ∃ F, F = E + 1 := ⟨_, rfl⟩
  have hmin : min (E : Int) 9223372036854775806 = (E : Int) := by omega
  have hFI : (E : Int) + 1 = (F : Int) := by omega
  have hF0 : (0 : Int) ≤ (F : Int) := Int.natCast_nonneg _
  have hF1 : (F : Int) ≤ 1000001 := by omega
  have hE0 : (0 : Int) ≤ (E : Int) := Int.natCast_nonneg _
  have hE1 : (E : Int) ≤ 1000000 := by omega
  rw [← hF] at hR
  clear h he hF
  go_enter Tryz.func26, Tryz.ntmps26
  go_wp2_with fail
  with_reducible refine HNU.out.mono ?_
  clear HNU
  rintro e w1 ⟨rfl, hm1⟩
  have HM1 := Lib.hid hm1
  clear hm1
  go_wp2_with fail
  with_reducible refine (newWriter_any w1).mono ?_
  rintro e w2 ⟨rfl, hw2, hm2⟩
  obtain ⟨w3, hw3⟩ : ∃ w3, w3 = w2.alloc (.cells #[.int .u64 (F : Int)] 102) := ⟨_, rfl⟩
  obtain ⟨g, hg⟩ : ∃ g, g = w2.heap.size := ⟨_, rfl⟩
  have hm3 : Mod No w2 w3 := by rw [hw3]; exact (Mod.refl No _).alloc _
  have HWN := Lib.hid (wnum_any (w := w3) (c := 1) (hw2.stay hm3) (by show (0 : Nat) ≤ _; omega) (hm2.trans hm3).size (a := ⟨g, 0, none⟩) (n := F) (cell_of (i := 0) (by rw [hw3, hg]; exact heap_alloc_new w2 _) rfl) rfl (by omega))
  have HM3 := Lib.hid (And.intro (HM1.out.trans (hm2.trans hm3)) (hm2.trans hm3))
  have HG := Lib.hid hg
  have HW3 := Lib.hid hw3
  clear hw2 hm2 hm3 hw3 hg
  go_wp2_with fail
  rw [← HW3.out, ← HG.out]
  with_reducible refine HWN.out.mono ?_
  clear HWN HW3 HG
  rintro e w4 ⟨v4, rfl, hw4, hm4⟩
  rw [List.nil_append] at hw4
  have hnl := numB_bound F (by omega)
  have HB := Lib.hid (wbytes_any hw4 (by omega))
  have HM4 := Lib.hid (show Mod No w w4 from HM3.out.1.then hm4 fun q hq e => by have e : w1.heap.size ≤ q := e; have := HM1.out.size; omega)
  have HNL := Lib.hid hnl
  clear hw4 hm4
  generalize hI : numB F = I at *
  clear hI
  go_wp2_with fail
  with_reducible refine HB.out.mono ?_
  clear HB
  rintro e w5 ⟨v5, rfl, ho, hm5⟩
  obtain ⟨va, vc, rfl⟩ := own_len ho
  have hcv := string_of (P := Tryz.prog) (src := 45) (dst := 9) (e := 5) (l := I) (Sl.of_own (X := No) ho (fun _ _ f => f)) Tryz.underlying45 Tryz.underlying5 Tryz.underlying9
  have HM5 := Lib.hid (HM4.out.trans hm5)
  obtain ⟨w7, hw7⟩ : ∃ w7, w7 = w5.alloc (.cells #[.string ⟨#[108, 47, 101, 112, 111, 99, 104]⟩, .string ⟨I.toArray⟩, .bool false] 32) := ⟨_, rfl⟩
  obtain ⟨g, hg⟩ : ∃ g, g = w5.heap.size := ⟨_, rfl⟩
  have h7 : w7.heap[g]? = some (.cells #[.string ⟨keyE.toArray⟩, .string ⟨I.toArray⟩, .bool false] 32 (0, 0)) := by rw [hw7, hg]; exact heap_alloc_new _ _
  have hm7 : Mod No w w7 := by rw [hw7]; exact HM5.out.alloc _
  have hAP := (H.out.stay hm7).apply (c := 1) hN hs hc (by show n + 1 ≤ _; omega) (prs_one (p := ⟨keyE, I, false⟩) h7 (fun f => f)) (fun p hp => by
    obtain rfl := List.mem_singleton.1 hp
    exact ⟨by show keyE ∈ threeK; decide, by show I.length ≤ 60; have := HNL.out; omega⟩)
  have HAP := Lib.hid (show Calls Tryz.prog 14 #[.pointer (some ⟨s, 0, none⟩), .slice (some ⟨g, 0, none⟩) 1 1] w7 fun e w' => e = .returned (.int .i64 0) ∧ Lb w0 w' N sz b s (M.put keyE I) (n + 1) (cnt + 1) X ∧ Mod (fun q => ¬ X q) w7 w' from hAP)
  have HM7 := Lib.hid hm7
  have HG := Lib.hid hg
  have HW7 := Lib.hid hw7
  generalize (⟨I.toArray⟩ : ByteArray) = V at *
  clear ho hm5 hg hw7 h7 hm7 hAP H hmin
  go_wp2_with (rw [← HW7.out, ← HG.out])
  with_reducible refine HAP.out.mono ?_
  clear HAP
  rintro e w8 ⟨rfl, h8, hm8⟩
  obtain ⟨w9, hw9⟩ : ∃ w9, w9 = w8.alloc (.cells #[.pointer (some ⟨s, 0, none⟩), .int .i64 (F : Int), .int .i64 0, .bool false] 105) := ⟨_, rfl⟩
  obtain ⟨x, hx⟩ : ∃ x, x = w8.heap.size := ⟨_, rfl⟩
  have hm9 : Mod No w8 w9 := by rw [hw9]; exact (Mod.refl No _).alloc _
  have hx9 : w9.heap[x]? = some (.cells #[.pointer (some ⟨s, 0, none⟩), .int .i64 (F : Int), .int .i64 0, .bool false] 105 (0, 0)) := by rw [hw9, hx]; exact heap_alloc_new _ _
  have HR9 := Lib.hid (show Lb w0 w9 N sz b s (M.put keyE I) (n + 1) (cnt + 1) (fun q => X q ∨ q = x) ∧ LtAt w9 x s F 0 false ∧ w.heap.size ≤ x ∧ Mod (fun q => ¬ X q) w w9 from
    ⟨h8.beside hm9 (by omega) (lt_of_heap hx9), hx9, by have := HM7.out.size; have := hm8.size; omega, ((HM7.out.weaken fun _ _ f => f.elim).trans hm8).trans (hm9.weaken fun _ _ f => f.elim)⟩)
  have HX := Lib.hid hx
  have HW9 := Lib.hid hw9
  clear h8 hm8 hw9 hx hm9 hx9
  go_wp2_with fail
  rw [← HW9.out, ← HX.out]
  exact fin hR ⟨x, rfl, HR9.out⟩

end Go.Proofs.YtkeopmfmlciadaaGreat
namespace Go.Proofs.YtkeopmfmlciadaaGreat
open Go.RowKit Go.Maps Go.Sort

/-- Whether Try refuses. -/
def refuse (hs : Option (Nat × Nat)) (held : Bool) (ow : Int) (E : Nat) : Bool :=
  match hs with
  | some (a, e) => held && (decide ((a : Int) = ow) && decide ((e : Int) = (E : Int)))
  | none => false

theorem refuse_parts (hs : Option (Nat × Nat)) (held : Bool) (ow : Int) (E : Nat) : ∃ (a e : Int) (ok : Bool), hoV hs = .tuple #[.int .i64 a, .int .i64 e, .bool ok] ∧ refuse hs held ow E = (ok && (held && (decide (a = ow) && decide (e = (E : Int))))) := by
  cases hs with
  | none => exact ⟨0, 0, false, rfl, rfl⟩
  | some p => exact ⟨p.1, p.2, true, rfl, rfl⟩

set_option maxRecDepth 100000 in
set_option maxHeartbeats 4000000 in
theorem ltry_no {w0 w : World} {N sz b s n cnt x E : Nat} {ow : Int} {held : Bool} {M : Mt} {X : Nat → Prop} {hs : Option (Nat × Nat)} (h : Lb w0 w N sz b s M n cnt X) (hx : LtAt w x s E ow held) (hh : HoAt M hs) (hb : ∀ p, hs = some p → p.1 ≤ 1000000 ∧ p.2 ≤ 1000000) (hr : refuse hs held ow E = true) (o : Int) :
    Calls Tryz.prog 27 #[.pointer (some ⟨x, 0, none⟩), .int .i64 o] w fun e w' => e = .returned (.tuple #[.bool false, .int .i64 0]) ∧ Mod No w w' := by
  refine calls_hide fun R hR => ?_
  obtain ⟨a, e, ok, hv, hre⟩ := refuse_parts hs held ow E
  rw [hre] at hr
  simp only [Bool.and_eq_true, decide_eq_true_eq] at hr
  obtain ⟨rfl, rfl, rfl, rfl⟩ := hr
  have HH := Lib.hid (show Calls Tryz.prog 30 #[.pointer (some ⟨x, 0, none⟩)] w fun e w' => e = .returned (.tuple #[.int .i64 a, .int .i64 (E : Int), .bool true]) ∧ Mod No w w' from by
    obtain ⟨O, n1, c1, e1, e2, h1, h2⟩ := h.has
    rw [← hv]
    exact lholder_any h1 hx hh hb)
  have HX := Lib.hid hx
  clear h hx hh hb hv hre
  go_enter Tryz.func27, Tryz.ntmps27
  go_wp2_with fail
  with_reducible refine HH.out.mono ?_
  rintro e w1 ⟨rfl, hm1⟩
  have hx1 := HX.out.stay hm1
  have x1 := cell_of (i := 1) hx1 rfl
  have x2 := cell_of (i := 2) hx1 rfl
  have x3 := cell_of (i := 3) hx1 rfl
  have HM1 := Lib.hid hm1
  clear hm1 hx1 HH
  go_wp2_with fail
  exact fin hR ⟨rfl, HM1.out⟩

set_option maxRecDepth 100000 in
set_option maxHeartbeats 4000000 in
theorem ltry_yes {w0 w : World} {N sz b s n cnt x E : Nat} {ow : Int} {held : Bool} {M : Mt} {X : Nat → Prop} {hs : Option (Nat × Nat)} (h : Lb w0 w N sz b s M n cnt X) (hN : 64 ≤ N) (hsz : 256 ≤ sz) (hc : cnt ≤ 1000000000) (hn : n + 1 ≤ 10000) (hx : LtAt w x s E ow held) (hX : X x) (hlow : w0.heap.size ≤ x) (hh : HoAt M hs) (hb : ∀ p, hs = some p → p.1 ≤ 1000000 ∧ p.2 ≤ 1000000) (hE : E ≤ 1000000) (hr : refuse hs held ow E = false) (o : Nat) (ho : o ≤ 1000000) :
    Calls Tryz.prog 27 #[.pointer (some ⟨x, 0, none⟩), .int .i64 (o : Int)] w fun e w' => e = .returned (.tuple #[.bool true, .int .i64 0]) ∧ Lb w0 w' N sz b s (M.put keyH (intsB [o, E])) (n + 1) (cnt + 1) X ∧ LtAt w' x s E (o : Int) true ∧ Mod (fun q => ¬ X q ∨ q = x) w w' := by
  refine calls_hide fun R hR => ?_
  obtain ⟨a, e, ok, hv, hre⟩ := refuse_parts hs held ow E
  rw [hre] at hr
  have HH := Lib.hid (show Calls Tryz.prog 30 #[.pointer (some ⟨x, 0, none⟩)] w fun e' w' => e' = .returned (.tuple #[.int .i64 a, .int .i64 e, .bool ok]) ∧ Mod No w w' from by
    obtain ⟨O, n1, c1, e1, e2, h1, h2⟩ := h.has
    rw [← hv]
    exact lholder_any h1 hx hh hb)
  have H := Lib.hid h
  have HX := Lib.hid hx
  have HXX := Lib.hid hX
  have LOW := Lib.hid hlow
  have hE0 : (0 : Int) ≤ (E : Int) := Int.natCast_nonneg _
  clear h hx hX hlow hh hb hv hre
  go_enter Tryz.func27, Tryz.ntmps27
  go_wp2_with fail
  with_reducible refine HH.out.mono ?_
  rintro e1 w1 ⟨rfl, hm1⟩
  have hx1 := HX.out.stay hm1
  have x1 := cell_of (i := 1) hx1 rfl
  have x2 := cell_of (i := 2) hx1 rfl
  have x3 := cell_of (i := 3) hx1 rfl
  have x0 := cell_of (i := 0) hx1 rfl
  have HX1 := Lib.hid hx1
  have HM1 := Lib.hid hm1
  clear hm1 hx1 HH HX
  go_upto_region 2 with fail
  go_cut [38] from 16 to 38 (fun v wx => w1 = wx ∧ v = .bool false)
  case first =>
    cases ok with
    | false =>
      go_wp2_with fail
      go_meet
      exact ⟨rfl, rfl⟩
    | true =>
      cases held with
      | false =>
        go_wp2_with fail
        go_meet
        exact ⟨rfl, rfl⟩
      | true =>
        by_cases h1 : a = ow
        · have h2 : ¬ e = (E : Int) := by simpa [h1] using hr
          have h1b : (a == ow) = true := by simpa using h1
          have h2b : (e == (E : Int)) = false := by simpa using h2
          clear hr h1 h2
          go_wp2_with fail
          go_meet
          exact ⟨rfl, by first | rfl | simp [h1b, h2b]⟩
        · have h1b : (a == ow) = false := by simpa using h1
          clear hr h1
          go_wp2_with fail
          go_meet
          exact ⟨rfl, by first | rfl | simp [h1b]⟩
  case rest =>
    obtain ⟨rfl, rfl⟩ := hcut
    clear hr
    go_upto_region 4 with fail
    obtain ⟨wA, hwA⟩ : ∃ wA, wA = w1.drew := ⟨_, rfl⟩
    have hmA : Mod No w1 wA := by rw [hwA]; exact (Mod.refl No _).drew
    obtain ⟨g1, hg1⟩ : ∃ g1, g1 = wA.heap.size := ⟨_, rfl⟩
    obtain ⟨wL, hwL⟩ : ∃ wL, wL = wA.alloc (.cells #[.int .i64 (o : Int), .int .i64 (E : Int)] 2) := ⟨_, rfl⟩
    have hmL : Mod No w1 wL := by rw [hwL]; exact hmA.alloc _
    have hgL : wL.heap[g1]? = some (.cells #[.int .i64 (o : Int), .int .i64 (E : Int)] 2 (0, 0)) := by rw [hwL, hg1]; exact heap_alloc_new _ _
    have HTX := Lib.hid (show Calls Tryz.prog 49 #[.slice (some ⟨g1, 0, none⟩) 2 2] wL fun e w' => e = .returned (.string ⟨(intsB [o, E]).toArray⟩) ∧ Mod No wL w' from
      ltext_any (xs := [o, E]) (c := 2) (by show 2 ≤ 1000; omega) (lt_of_heap hgL) (fun i hi => by
        have hi2 : i < 2 := hi
        match i, hi2 with
        | 0, _ => exact cell_of (i := 0) hgL rfl
        | 1, _ => exact cell_of (i := 1) hgL rfl) (fun y hy => by
        rcases List.mem_cons.1 hy with rfl | hy
        · omega
        · obtain rfl := List.mem_singleton.1 hy; omega))
    obtain ⟨L, hL⟩ : ∃ L, L = intsB [o, E] := ⟨_, rfl⟩
    have hll : L.length ≤ 20 := by
      rw [hL]
      exact intsB_len [o, E] (fun y hy => by
        rcases List.mem_cons.1 hy with rfl | hy
        · omega
        · obtain rfl := List.mem_singleton.1 hy; omega)
    have HAL := Lib.hid (show ∀ W g, Mod No w1 W → W.heap[g]? = some (.cells #[.string ⟨keyH.toArray⟩, .string ⟨L.toArray⟩, .bool false] 32 (0, 0)) →
        Calls Tryz.prog 14 #[.pointer (some ⟨s, 0, none⟩), .slice (some ⟨g, 0, none⟩) 1 1] W fun e w' => e = .returned (.int .i64 0) ∧ Lb w0 w' N sz b s (M.put keyH L) (n + 1) (cnt + 1) X ∧ Mod (fun q => ¬ X q) w w' ∧ (w'.cell? ⟨x, 0, none⟩ = some (.pointer (some ⟨s, 0, none⟩)) ∧ w'.cell? ⟨x, 1, none⟩ = some (.int .i64 (E : Int))) ∧ LtAt w' x s E ow held from fun W g hW hg => by
      have := (H.out.stay (HM1.out.trans hW)).apply (c := 1) hN hsz hc (by show n + 1 ≤ _; omega) (prs_one (p := ⟨keyH, L, false⟩) hg (fun f => f)) (fun p hp => by
        obtain rfl := List.mem_singleton.1 hp
        exact ⟨by show keyH ∈ threeK; decide, by show L.length ≤ 60; omega⟩)
      refine this.mono ?_
      rintro e w' ⟨rfl, k1, k2⟩
      have k3 : LtAt w' x s E ow held := (HX1.out.stay hW).keep k2 (fun f => f HXX.out)
      exact ⟨rfl, k1, ((HM1.out.trans hW).weaken fun _ _ f => f.elim).trans k2, ⟨cell_of (i := 0) k3 rfl, cell_of (i := 1) k3 rfl⟩, k3⟩)
    rw [← hL] at HTX hR
    have HSM := Lib.hid (show ∀ W, Mod No w1 W → W.cell? ⟨x, 0, none⟩ = some (.pointer (some ⟨s, 0, none⟩)) ∧ W.cell? ⟨x, 1, none⟩ = some (.int .i64 (E : Int)) from fun W hW => ⟨hW.cell x0 (fun f => f), hW.cell x1 (fun f => f)⟩)
    have hS0 := HSM.out wA hmA
    have HS1 := Lib.hid (HSM.out wL hmL)
    have HML := Lib.hid hmL
    have HG1 := Lib.hid hg1
    have HW1 := Lib.hid hwL
    generalize (⟨L.toArray⟩ : ByteArray) = V at *
    clear hmA hg1 hwL hmL hgL hL x0 x1 x2 x3
    refine wp_region_T (fun w' => w'.cell? ⟨x, 0, none⟩ = some (.pointer (some ⟨s, 0, none⟩)) ∧ w'.cell? ⟨x, 1, none⟩ = some (.int .i64 (E : Int))) 99 (by kernel_rfl) ?_
    rw [← hwA]
    clear hwA
    refine wpAnyT_takeV 0 (some 39) ?_ rfl rfl (by kernel_rfl) (fun _ _ _ h => h) hS0 (Or.inl ⟨by rfl, ?_⟩) ?_
    rotate_left
    · (intro w' hSw; (try dsimp only at hSw); obtain ⟨s0, s1⟩ := hSw; go_simp; try with_reducible rfl)
    simp only [Act.put, List.setIfInBounds_toArray, List.set_cons_zero, List.set_cons_succ]
    refine wpAnyT_takeV 1 (some 40) ?_ rfl rfl (by kernel_rfl) (fun _ _ _ h => h) hS0 (Or.inl ⟨by rfl, ?_⟩) ?_
    rotate_left
    · (intro w' hSw; (try dsimp only at hSw); obtain ⟨s0, s1⟩ := hSw; go_simp; try with_reducible rfl)
    simp only [Act.put, List.setIfInBounds_toArray, List.set_cons_zero, List.set_cons_succ]
    refine wpAnyT_takeV 2 (some 41) ?_ rfl rfl (by kernel_rfl) (fun _ _ _ h => h) hS0 (Or.inl ⟨by rfl, ?_⟩) ?_
    rotate_left
    · (intro w' hSw; (try dsimp only at hSw); obtain ⟨s0, s1⟩ := hSw; go_simp; try with_reducible rfl)
    simp only [Act.put, List.setIfInBounds_toArray, List.set_cons_zero, List.set_cons_succ]
    refine wpAnyT_takeV 3 (some 42) ?_ rfl rfl (by kernel_rfl) (fun _ _ _ h => h) hS0 (Or.inl ⟨by rfl, ?_⟩) ?_
    rotate_left
    · (intro w' hSw; (try dsimp only at hSw); obtain ⟨s0, s1⟩ := hSw; go_simp; try with_reducible rfl)
    simp only [Act.put, List.setIfInBounds_toArray, List.set_cons_zero, List.set_cons_succ]
    refine wpAnyT_takeV 4 (some 43) ?_ rfl rfl (by kernel_rfl) (fun _ _ _ h => h) hS0 (Or.inl ⟨by rfl, ?_⟩) ?_
    rotate_left
    · (intro w' hSw; (try dsimp only at hSw); obtain ⟨s0, s1⟩ := hSw; go_simp; try with_reducible rfl)
    simp only [Act.put, List.setIfInBounds_toArray, List.set_cons_zero, List.set_cons_succ]
    refine wpAnyT_takeV 5 (some 44) ?_ rfl rfl (by kernel_rfl) (fun _ _ _ h => h) hS0 (Or.inl ⟨by rfl, ?_⟩) ?_
    rotate_left
    · (intro w' hSw; (try dsimp only at hSw); obtain ⟨s0, s1⟩ := hSw; go_simp; try with_reducible rfl)
    simp only [Act.put, List.setIfInBounds_toArray, List.set_cons_zero, List.set_cons_succ]
    refine wpAnyT_takeV 6 (some 45) ?_ rfl rfl (by kernel_rfl) (fun _ _ _ h => h) hS0 (Or.inl ⟨by rfl, ?_⟩) ?_
    rotate_left
    · (intro w' hSw; (try dsimp only at hSw); obtain ⟨s0, s1⟩ := hSw; go_simp; try with_reducible rfl)
    simp only [Act.put, List.setIfInBounds_toArray, List.set_cons_zero, List.set_cons_succ]
    refine wpAnyT_takeV 7 (some 46) ?_ rfl rfl (by kernel_rfl) (fun _ _ _ h => h) hS0 (Or.inl ⟨by rfl, ?_⟩) ?_
    rotate_left
    · (intro w' hSw; (try dsimp only at hSw); obtain ⟨s0, s1⟩ := hSw; go_simp; try with_reducible rfl)
    simp only [Act.put, List.setIfInBounds_toArray, List.set_cons_zero, List.set_cons_succ]
    refine wpAnyT_takeV 8 (some 47) ?_ rfl rfl (by kernel_rfl) (fun _ _ _ h => h) hS0 (Or.inl ⟨by rfl, ?_⟩) ?_
    rotate_left
    · (intro w' hSw; (try dsimp only at hSw); obtain ⟨s0, s1⟩ := hSw; go_simp; try with_reducible rfl)
    simp only [Act.put, List.setIfInBounds_toArray, List.set_cons_zero, List.set_cons_succ]
    refine wpAnyT_one 9 rfl (by kernel_rfl) rfl ?_
    intro K hK
    go_simp
    rw [← HG1.out, ← HW1.out]
    show K _ _
    have hS1 := HS1.out
    refine hK.out _ _ (fun _ => hS1) ?_
    clear hK K
    refine wpAnyT_one 10 rfl (by kernel_rfl) rfl ?_
    intro K hK
    go_simp
    go_at_call 49
    with_reducible refine HTX.out.mono ?_
    rintro e w2 ⟨rfl, hm2⟩
    show K _ _
    have hS2 := HSM.out w2 (HML.out.trans hm2)
    refine hK.out _ _ (fun _ => hS2) ?_
    clear hK K
    refine wpAnyT_takeV 11 (some 50) ?_ rfl rfl (by kernel_rfl) (fun _ _ _ h => h) hS2 (Or.inl ⟨by rfl, ?_⟩) ?_
    rotate_left
    · (intro w' hSw; (try dsimp only at hSw); obtain ⟨s0, s1⟩ := hSw; go_simp; try with_reducible rfl)
    simp only [Act.put, List.setIfInBounds_toArray, List.set_cons_zero, List.set_cons_succ]
    refine wpAnyT_one 12 rfl (by kernel_rfl) rfl ?_
    intro K hK
    obtain ⟨g2, hg2⟩ : ∃ g2, g2 = w2.heap.size := ⟨_, rfl⟩
    obtain ⟨w3, hw3⟩ : ∃ w3, w3 = w2.alloc (.cells #[.string ⟨#[108, 47, 104, 111, 108, 100, 101, 114]⟩, .string V, .bool false] 32) := ⟨_, rfl⟩
    have h3 : w3.heap[g2]? = some (.cells #[.string ⟨#[108, 47, 104, 111, 108, 100, 101, 114]⟩, .string V, .bool false] 32 (0, 0)) := by rw [hw3, hg2]; exact heap_alloc_new _ _
    have hm3 : Mod No w1 w3 := by rw [hw3]; exact (HML.out.trans hm2).alloc _
    have HAP := Lib.hid (HAL.out w3 g2 hm3 h3)
    have HS3 := Lib.hid (HSM.out w3 hm3)
    have HG2 := Lib.hid hg2
    have HW3 := Lib.hid hw3
    clear h3 hm3 hg2 hw3
    go_simp
    rw [← HG2.out, ← HW3.out]
    show K _ _
    have hS3 := HS3.out
    refine hK.out _ _ (fun _ => hS3) ?_
    clear hK K
    refine wpAnyT_one 13 rfl (by kernel_rfl) rfl ?_
    intro K hK
    go_simp
    go_at_call 14
    with_reducible refine HAP.out.mono ?_
    rintro e w4 ⟨rfl, h4, hmx, hS4', hx4⟩
    show K _ _
    have hS4 := hS4'
    refine hK.out _ _ (fun _ => hS4) ?_
    clear hK K
    refine wpAnyT_takeV 14 (some 9) ?_ rfl rfl (by kernel_rfl) (fun _ _ _ h => h) hS4 (Or.inl ⟨by rfl, ?_⟩) ?_
    rotate_left
    · (intro w' hSw; (try dsimp only at hSw); obtain ⟨s0, s1⟩ := hSw; go_simp; try with_reducible rfl)
    simp only [Act.put]
    refine wpAnyT_done (by kernel_rfl) ?_ _
    have x2 := cell_of (i := 2) hx4 rfl
    have x3 := cell_of (i := 3) hx4 rfl
    have f2 := frozen_of 2 hx4
    have f3 := frozen_of 3 hx4
    obtain ⟨w5, hw5⟩ : ∃ w5, w5 = (w4.setCell ⟨x, 2, none⟩ (.int .i64 (o : Int))).setCell ⟨x, 3, none⟩ (.bool true) := ⟨_, rfl⟩
    have hm5 : Mod (fun q => q = x) w4 w5 := by rw [hw5]; exact ((Mod.refl (fun q => q = x) w4).setCell (fun _ => rfl) _).setCell (fun _ => rfl) _
    have hx5 : LtAt w5 x s E (o : Int) true := by unfold LtAt; rw [hw5, heap_setCell (heap_setCell hx4 _) _]; rfl
    have HL5 := Lib.hid (show Lb w0 w5 N sz b s (M.put keyH L) (n + 1) (cnt + 1) X from by
      obtain ⟨O, n1, c1, e1, e2, k1, k2⟩ := h4.has
      have hxo := k2 x HXX.out
      have hxw : w0.heap.size ≤ x := LOW.out
      exact ⟨⟨O, n1, c1, e1, e2, k1.keepM hm5 (fun q e f => by have f : q = x := f; subst f; exact hxo e) (fun q cur fz e => by have e : q = x := e; subst e; intro f; have := hx4; unfold LtAt at this; rw [this] at f; cases f) (fun q hq e => by have e : q = x := e; omega), k2⟩, h4.three, fun q e => Nat.lt_of_lt_of_le (h4.low q e) hm5.size⟩)
    have HX5 := Lib.hid hx5
    have HM5 := Lib.hid (show Mod (fun q => ¬ X q ∨ q = x) w w5 from (hmx.weaken fun _ _ e => .inl e).trans (hm5.weaken fun _ _ e => .inr e))
    have HW5 := Lib.hid hw5
    clear hx4 hw5 hm5 hx5 h4 hmx hS0 hS1 hS2 hS3 hS4 hS4' HAP HG2 HW3 HAL HTX HSM hm2
    go_wp2_with fail
    rw [← HW5.out]
    exact fin hR ⟨rfl, HL5.out, HX5.out, HM5.out⟩

end Go.Proofs.YtkeopmfmlciadaaGreat
namespace Go.Proofs.YtkeopmfmlciadaaGreat
open Go.RowKit Go.Maps Go.Sort

/-- A store that has an epoch, who is noted, and (where tk says so) the text of LatchTakes. -/
structure Ly (w0 w : World) (N sz b s E : Nat) (hs : Option (Nat × Nat)) (tk : Bool) (n cnt : Nat) (X : Nat → Prop) : Prop where
  has : ∃ M, Lb w0 w N sz b s M n cnt X ∧ EpAt M E ∧ HoAt M hs ∧ (tk = true → M keyX = some [49])
  epoch : E ≤ 900000
  noted : ∀ p, hs = some p → p.1 ≤ 1000000 ∧ p.2 ≤ 1000000
  low : ∀ q, X q → w0.heap.size ≤ q

theorem Ly.mod {w0 w : World} {N sz b s E n cnt : Nat} {hs : Option (Nat × Nat)} {tk : Bool} {X : Nat → Prop} (h : Ly w0 w N sz b s E hs tk n cnt X) : Mod No w0 w := by
  obtain ⟨M, h1, -⟩ := h.has
  exact h1.mod

theorem Ly.lt {w0 w : World} {N sz b s E n cnt : Nat} {hs : Option (Nat × Nat)} {tk : Bool} {X : Nat → Prop} (h : Ly w0 w N sz b s E hs tk n cnt X) {q : Nat} (hq : X q) : q < w.heap.size := by
  obtain ⟨M, h1, -⟩ := h.has
  exact h1.low q hq

theorem Ly.stay {w0 w w' : World} {N sz b s E n cnt : Nat} {hs : Option (Nat × Nat)} {tk : Bool} {X : Nat → Prop} (h : Ly w0 w N sz b s E hs tk n cnt X) (hm : Mod No w w') : Ly w0 w' N sz b s E hs tk n cnt X := by
  obtain ⟨M, h1, h2⟩ := h.has
  exact ⟨⟨M, h1.stay hm, h2⟩, h.epoch, h.noted, h.low⟩

theorem Ly.more {w0 w : World} {N sz b s E n m cnt c2 : Nat} {hs : Option (Nat × Nat)} {tk : Bool} {X : Nat → Prop} (h : Ly w0 w N sz b s E hs tk n cnt X) (hn : n ≤ m) (hc : cnt ≤ c2) : Ly w0 w N sz b s E hs tk m c2 X := by
  obtain ⟨M, h1, h2⟩ := h.has
  exact ⟨⟨M, h1.more hn hc, h2⟩, h.epoch, h.noted, h.low⟩

theorem Ly.first {w0 w : World} {N sz b s : Nat} {O : Nat → Prop} (h : Sto w0 w N sz b s O 0 (fun _ => none) 0) : Ly w0 w N sz b s 0 none false 0 0 No :=
  ⟨⟨_, Lb.first h, .inl ⟨rfl, rfl⟩, rfl, fun h => (by cases h)⟩, by omega, fun p h => (by cases h), fun _ f => f.elim⟩

theorem Ly.open_ {w0 w : World} {N sz b s E n cnt : Nat} {hs : Option (Nat × Nat)} {tk : Bool} {X : Nat → Prop} (h : Ly w0 w N sz b s E hs tk n cnt X) (hN : 64 ≤ N) (hsz : 256 ≤ sz) (hc : cnt ≤ 1000000000) (hn : n + 1 ≤ 10000) (hE : E + 1 ≤ 900000) :
    Calls Tryz.prog 26 #[.pointer (some ⟨s, 0, none⟩)] w fun e w' => ∃ x, e = .returned (.tuple #[.pointer (some ⟨x, 0, none⟩), .int .i64 0]) ∧ Ly w0 w' N sz b s (E + 1) hs tk (n + 1) (cnt + 1) (fun q => X q ∨ q = x) ∧ LtAt w' x s (E + 1) 0 false ∧ w.heap.size ≤ x ∧ Mod (fun q => ¬ X q) w w' := by
  obtain ⟨M, h1, h2, h3, h4⟩ := h.has
  refine (lopen_any h1 hN hsz hc hn h2 (by omega)).mono ?_
  rintro e w' ⟨x, rfl, k1, k2, k3, k4⟩
  refine ⟨x, rfl, ⟨⟨_, k1, .inr (by simp [Mt.put]), ?_, fun e => ?_⟩, hE, h.noted, fun q hq => ?_⟩, k2, k3, k4⟩
  · unfold HoAt Mt.put
    rw [if_neg (by decide)]
    exact h3
  · unfold Mt.put
    rw [if_neg (by decide)]
    exact h4 e
  · rcases hq with hq | hq
    · exact h.low q hq
    · have := h.mod.size; omega

theorem Ly.holder {w0 w : World} {N sz b s E n cnt x Ex : Nat} {ow : Int} {held : Bool} {hs : Option (Nat × Nat)} {tk : Bool} {X : Nat → Prop} (h : Ly w0 w N sz b s E hs tk n cnt X) (hx : LtAt w x s Ex ow held) :
    Calls Tryz.prog 30 #[.pointer (some ⟨x, 0, none⟩)] w fun e w' => e = .returned (hoV hs) ∧ Mod No w w' := by
  obtain ⟨M, h1, h2, h3, h4⟩ := h.has
  obtain ⟨O, n1, c1, e1, e2, k1, k2⟩ := h1.has
  exact lholder_any k1 hx h3 h.noted

theorem Ly.try_no {w0 w : World} {N sz b s E n cnt x Ex : Nat} {ow : Int} {held : Bool} {hs : Option (Nat × Nat)} {tk : Bool} {X : Nat → Prop} (h : Ly w0 w N sz b s E hs tk n cnt X) (hx : LtAt w x s Ex ow held) (hr : refuse hs held ow Ex = true) (o : Int) :
    Calls Tryz.prog 27 #[.pointer (some ⟨x, 0, none⟩), .int .i64 o] w fun e w' => e = .returned (.tuple #[.bool false, .int .i64 0]) ∧ Mod No w w' := by
  obtain ⟨M, h1, h2, h3, h4⟩ := h.has
  exact ltry_no h1 hx h3 h.noted hr o

theorem Ly.try_yes {w0 w : World} {N sz b s E n cnt x Ex : Nat} {ow : Int} {held : Bool} {hs : Option (Nat × Nat)} {tk : Bool} {X : Nat → Prop} (h : Ly w0 w N sz b s E hs tk n cnt X) (hN : 64 ≤ N) (hsz : 256 ≤ sz) (hc : cnt ≤ 1000000000) (hn : n + 1 ≤ 10000) (hx : LtAt w x s Ex ow held) (hX : X x) (hE : Ex ≤ 1000000) (hr : refuse hs held ow Ex = false) (o : Nat) (ho : o ≤ 1000000) :
    Calls Tryz.prog 27 #[.pointer (some ⟨x, 0, none⟩), .int .i64 (o : Int)] w fun e w' => e = .returned (.tuple #[.bool true, .int .i64 0]) ∧ Ly w0 w' N sz b s E (some (o, Ex)) tk (n + 1) (cnt + 1) X ∧ LtAt w' x s Ex (o : Int) true ∧ Mod (fun q => ¬ X q ∨ q = x) w w' := by
  obtain ⟨M, h1, h2, h3, h4⟩ := h.has
  refine (ltry_yes h1 hN hsz hc hn hx hX (h.low x hX) h3 h.noted hE hr o ho).mono ?_
  rintro e w' ⟨rfl, k1, k2, k3⟩
  refine ⟨rfl, ⟨⟨_, k1, ?_, by simp [HoAt, Mt.put], fun e => ?_⟩, h.epoch, fun p e => by cases e; exact ⟨ho, hE⟩, h.low⟩, k2, k3⟩
  · unfold EpAt Mt.put
    rw [if_neg (by decide)]
    exact h2
  · unfold Mt.put
    rw [if_neg (by decide)]
    exact h4 e

theorem Ly.leave {w0 w : World} {N sz b s E n cnt x Ex : Nat} {ow o : Int} {held : Bool} {hs : Option (Nat × Nat)} {tk : Bool} {X : Nat → Prop} (h : Ly w0 w N sz b s E hs tk n cnt X) (hx : LtAt w x s Ex ow held) (hX : X x) :
    Calls Tryz.prog 28 #[.pointer (some ⟨x, 0, none⟩), .int .i64 o] w fun e w' => e = .returned (.tuple #[]) ∧ Ly w0 w' N sz b s E hs tk n cnt X ∧ LtAt w' x s Ex ow (leftB held ow o) ∧ Mod (fun q => q = x) w w' := by
  obtain ⟨M, h1, h2⟩ := h.has
  obtain ⟨O, n1, c1, e1, e2, k1, k2⟩ := h1.has
  refine (lleave_any hx).mono ?_
  rintro e w' ⟨rfl, j1, j2⟩
  have hlow := h.low x hX
  have hxo := k2 x hX
  exact ⟨rfl, ⟨⟨M, ⟨⟨O, n1, c1, e1, e2, k1.keepM j2 (fun q e f => by have f : q = x := f; subst f; exact hxo e) (fun q cur fz e => by have e : q = x := e; subst e; intro f; unfold LtAt at hx; rw [hx] at f; cases f) (fun q hq e => by have e : q = x := e; omega), k2⟩, h1.three, fun q e => Nat.lt_of_lt_of_le (h1.low q e) j2.size⟩, h2⟩, h.epoch, h.noted, h.low⟩, j1, j2⟩

theorem Ly.reopen {w0 w : World} {N sz b s E n cnt : Nat} {hs : Option (Nat × Nat)} {tk : Bool} {X : Nat → Prop} (h : Ly w0 w N sz b s E hs tk n cnt X) (hn : 3 ≤ n) :
    Calls Tryz.prog 12 #[.pointer (some ⟨b, 0, none⟩)] w fun e w' => ∃ s', e = .returned (.tuple #[.pointer (some ⟨s', 0, none⟩), .int .i64 0]) ∧ Ly w0 w' N sz b s' E hs tk n cnt X ∧ Mod No w w' := by
  obtain ⟨M, h1, h2⟩ := h.has
  refine (h1.reopen hn).mono ?_
  rintro e w' ⟨s', rfl, k1, k2⟩
  exact ⟨s', rfl, ⟨⟨M, k1, h2⟩, h.epoch, h.noted, h.low⟩, k2⟩

/-- What is noted is taken away. -/
theorem Ly.takes {w0 w : World} {N sz b s E n cnt g : Nat} {hs : Option (Nat × Nat)} {tk : Bool} {X : Nat → Prop} (h : Ly w0 w N sz b s E hs tk n cnt X) (hN : 64 ≤ N) (hsz : 256 ≤ sz) (hc : cnt ≤ 1000000000) (hn : n + 1 ≤ 10000)
    (hg : w.heap[g]? = some (.cells #[.string ⟨keyH.toArray⟩, .string ⟨#[]⟩, .bool true] 32 (0, 0))) :
    Calls Tryz.prog 14 #[.pointer (some ⟨s, 0, none⟩), .slice (some ⟨g, 0, none⟩) 1 1] w fun e w' => e = .returned (.int .i64 0) ∧ Ly w0 w' N sz b s E none tk (n + 1) (cnt + 1) X ∧ Mod (fun q => ¬ X q) w w' := by
  obtain ⟨M, h1, h2, h3, h4⟩ := h.has
  refine (h1.apply (c := 1) (l := [⟨keyH, [], true⟩]) hN hsz hc (by show n + 1 ≤ _; omega) (prs_one (p := ⟨keyH, [], true⟩) hg (fun f => f)) (fun p hp => by
    obtain rfl := List.mem_singleton.1 hp
    exact ⟨by show keyH ∈ threeK; decide, by show (0 : Nat) ≤ 60; omega⟩)).mono ?_
  rintro e w' ⟨rfl, k1, k2⟩
  have k1 : Lb w0 w' N sz b s (M.del keyH) (n + 1) (cnt + 1) X := k1
  refine ⟨rfl, ⟨⟨_, k1, ?_, by simp [HoAt, Mt.del], fun e => ?_⟩, h.epoch, fun p e => (by cases e), h.low⟩, k2⟩
  · unfold EpAt Mt.del
    rw [if_neg (by decide)]
    exact h2
  · unfold Mt.del
    rw [if_neg (by decide)]
    exact h4 e

/-- .. with a pair beside it. -/
theorem Ly.takes2 {w0 w : World} {N sz b s E n cnt g : Nat} {hs : Option (Nat × Nat)} {tk : Bool} {X : Nat → Prop} (h : Ly w0 w N sz b s E hs tk n cnt X) (hN : 64 ≤ N) (hsz : 256 ≤ sz) (hc : cnt ≤ 1000000000) (hn : n + 2 ≤ 10000)
    (hg : w.heap[g]? = some (.cells #[.string ⟨keyX.toArray⟩, .string ⟨#[49]⟩, .bool false, .string ⟨keyH.toArray⟩, .string ⟨#[]⟩, .bool true] 32 (0, 0))) :
    Calls Tryz.prog 14 #[.pointer (some ⟨s, 0, none⟩), .slice (some ⟨g, 0, none⟩) 2 2] w fun e w' => e = .returned (.int .i64 0) ∧ Ly w0 w' N sz b s E none true (n + 2) (cnt + 1) X ∧ Mod (fun q => ¬ X q) w w' := by
  obtain ⟨M, h1, h2, h3, h4⟩ := h.has
  refine (h1.apply (c := 2) (l := [⟨keyX, [49], false⟩, ⟨keyH, [], true⟩]) hN hsz hc (by show n + 2 ≤ _; omega) (prs_two (p := ⟨keyX, [49], false⟩) (q := ⟨keyH, [], true⟩) hg) (fun p hp => by
    rcases List.mem_cons.1 hp with rfl | hp
    · exact ⟨by show keyX ∈ threeK; decide, by show (1 : Nat) ≤ 60; omega⟩
    · obtain rfl := List.mem_singleton.1 hp
      exact ⟨by show keyH ∈ threeK; decide, by show (0 : Nat) ≤ 60; omega⟩)).mono ?_
  rintro e w' ⟨rfl, k1, k2⟩
  have k1 : Lb w0 w' N sz b s ((M.put keyX [49]).del keyH) (n + 2) (cnt + 1) X := k1
  refine ⟨rfl, ⟨⟨_, k1, ?_, by simp [HoAt, Mt.del], fun _ => ?_⟩, h.epoch, fun p e => (by cases e), h.low⟩, k2⟩
  · unfold EpAt Mt.del Mt.put
    rw [if_neg (by decide), if_neg (by decide)]
    exact h2
  · unfold Mt.del Mt.put
    rw [if_neg (by decide), if_pos rfl]

theorem Ly.getX {w0 w : World} {N sz b s E n cnt : Nat} {hs : Option (Nat × Nat)} {X : Nat → Prop} (h : Ly w0 w N sz b s E hs true n cnt X) :
    Calls Tryz.prog 17 #[.pointer (some ⟨s, 0, none⟩), .string ⟨#[120, 47, 107]⟩] w fun e w' => e = .returned (.tuple #[.string ⟨#[49]⟩, .bool true]) ∧ w' = w := by
  obtain ⟨M, h1, h2, h3, h4⟩ := h.has
  have := h1.get keyX (by decide)
  unfold getV at this
  rw [h4 rfl] at this
  exact this

end Go.Proofs.YtkeopmfmlciadaaGreat
namespace Go.Proofs.YtkeopmfmlciadaaGreat
open Go.RowKit Go.Maps Go.Sort

set_option maxRecDepth 100000 in
set_option maxHeartbeats 4000000 in
theorem known25_any (w : World) : Calls Tryz.prog 25 #[] w fun e w' => e = .returned (.bool true) ∧ Mod No w w' := by
  refine calls_hide fun R hR => ?_
  go_enter Tryz.func25, Tryz.ntmps25
  go_wp2_with fail
  with_reducible refine (disk_new No 400 512 w (no_lt5 w)).mono ?_
  rintro e w1 ⟨b, sb, mb, rfl, hb1, hb2, hb3, hd1, hm1⟩
  have HD1 := Lib.hid (And.intro hd1 (And.intro (And.intro hb1 (And.intro hb2 hb3)) hm1))
  clear hb1 hb2 hb3 hd1 hm1
  go_wp2_with fail
  with_reducible refine (Sto.first (w0 := w) (n := 400) (z := 512) (N := 400) (sz := 512) (by decide) (by decide) (by decide) (by decide) HD1.out.1 HD1.out.2.1 HD1.out.2.2).mono ?_
  rintro e w2 ⟨s, O, rfl, hs2, -, -⟩
  have HY2 := Lib.hid (Ly.first hs2)
  clear hs2 HD1
  go_wp2_with fail
  with_reducible refine (HY2.out.open_ (by decide) (by decide) (by decide) (by decide) (by decide)).mono ?_
  rintro e w3 ⟨x, rfl, hy3, hx3, -, -⟩
  have HY3 := Lib.hid (show Ly w w3 400 512 b s 1 none false 1 1 (fun q => No q ∨ q = x) from hy3)
  have HX3 := Lib.hid (show LtAt w3 x s 1 0 false from hx3)
  have HEP := Lib.hid (show Calls Tryz.prog 29 #[.pointer (some ⟨x, 0, none⟩)] w3 fun e w' => e = .returned (.int .i64 1) ∧ w' = w3 from lepoch_any hx3)
  clear hy3 hx3 HY2
  go_wp2_with fail
  with_reducible refine HEP.out.mono ?_
  rintro e w4 ⟨rfl, h2⟩
  subst h2
  have HT4 := Lib.hid (show Calls Tryz.prog 27 #[.pointer (some ⟨x, 0, none⟩), .int .i64 0] w4 fun e w' => e = .returned (.tuple #[.bool true, .int .i64 0]) ∧ Ly w w' 400 512 b s 1 (some (0, 1)) false (1 + 1) (1 + 1) (fun q => No q ∨ q = x) ∧ LtAt w' x s 1 0 true ∧ Mod (fun q => ¬ (No q ∨ q = x) ∨ q = x) w4 w' from
    HY3.out.try_yes (by decide) (by decide) (by decide) (by decide) HX3.out (.inr rfl) (by decide) rfl 0 (by decide))
  clear HEP
  go_wp2_with fail
  with_reducible refine HT4.out.mono ?_
  rintro e w5 ⟨rfl, hy5, hx5, -⟩
  have HY5 := Lib.hid hy5
  have HX5 := Lib.hid hx5
  have HT5 := Lib.hid (hy5.try_no hx5 (by decide) 1)
  clear hy5 hx5 HT4 HY3 HX3
  go_wp2_with fail
  with_reducible refine HT5.out.mono ?_
  rintro e w6 ⟨rfl, hm6⟩
  have HY6 := Lib.hid (HY5.out.stay hm6)
  have HX6 := Lib.hid (HX5.out.stay hm6)
  clear hm6 HT5 HY5 HX5
  have HH6 := Lib.hid (show Calls Tryz.prog 30 #[.pointer (some ⟨x, 0, none⟩)] w6 fun e w' => e = .returned (.tuple #[.int .i64 0, .int .i64 1, .bool true]) ∧ Mod No w6 w' from HY6.out.holder HX6.out)
  go_wp2_with fail
  with_reducible refine HH6.out.mono ?_
  rintro e w7 ⟨rfl, hm7⟩
  have HY7 := Lib.hid (HY6.out.stay hm7)
  have HX7 := Lib.hid (HX6.out.stay hm7)
  clear hm7 HH6 HY6 HX6
  have HL7 := Lib.hid (HY7.out.leave (o := 0) HX7.out (.inr rfl))
  go_wp2_with fail
  with_reducible refine HL7.out.mono ?_
  rintro e w8 ⟨rfl, hy8, hx8, -⟩
  have HT8 := Lib.hid (show Calls Tryz.prog 27 #[.pointer (some ⟨x, 0, none⟩), .int .i64 1] w8 fun e w' => e = .returned (.tuple #[.bool true, .int .i64 0]) ∧ Ly w w' 400 512 b s 1 (some (1, 1)) false (1 + 1 + 1) (1 + 1 + 1) (fun q => No q ∨ q = x) ∧ LtAt w' x s 1 1 true ∧ Mod (fun q => ¬ (No q ∨ q = x) ∨ q = x) w8 w' from
    hy8.try_yes (by decide) (by decide) (by decide) (by decide) hx8 (.inr rfl) (by decide) (by decide) 1 (by decide))
  clear hy8 hx8 HL7 HY7 HX7
  go_wp2_with fail
  with_reducible refine HT8.out.mono ?_
  rintro e w9 ⟨rfl, hy9, -, -⟩
  have HM9 := Lib.hid hy9.mod
  clear hy9 HT8
  go_wp2_with fail
  exact fin hR ⟨rfl, HM9.out⟩

end Go.Proofs.YtkeopmfmlciadaaGreat
