/-
  Maps whose elements are taken as they stand: what is asked, stored, taken away. No statement is proved here; no condition.
-/
import Derived.Test.YtnchclleiccofaaMem
import Derived.Maps.Own
import Derived.Maps.OwnOps
import Derived.Maps.OwnSet
import Derived.Maps.RangeWalk
namespace Go.Proofs.Ytnchclleiccofaa
open Go.RowKit Go.Maps

/-- An element, as it stands. -/
def heldR : Value → Option (DataW Value × List MemPlace) := fun v => some (.held v, [])

/-- Block b is a map that reads as D. -/
def Mp (w : World) (k : TypeId) (b : Nat) (D : DataW Value) : Prop := w.ownsMap Try.prog k heldR b (Maps.size D) D

theorem Mp.of_owns {w : World} {k : TypeId} {b n : Nat} {D : DataW Value} (h : w.ownsMap Try.prog k heldR b n D) : Mp w k b D := by
  obtain ⟨es, clock, hb, F, _, rfl⟩ := h
  exact ⟨es, clock, hb, F, by simp [Maps.size, length_sorted], rfl⟩

theorem Mp.heap {w : World} {k : TypeId} {b : Nat} {D : DataW Value} (h : Mp w k b D) : ∃ es clock, w.heap[b]? = some (.map es clock) := by
  obtain ⟨es, clock, hb, _⟩ := h
  exact ⟨es, clock, hb⟩

theorem Mp.keep {S : Nat → Prop} {w w' : World} {k : TypeId} {b : Nat} {D : DataW Value} (h : Mp w k b D) (hm : Mod S w w') (hs : ¬ S b) : Mp w' k b D := by
  obtain ⟨es, clock, hb, r⟩ := h
  exact ⟨es, clock, hm.keep hb hs, r⟩

theorem Mp.made (w : World) (k : TypeId) : Mp (w.alloc (.map #[] 0)) k w.heap.size (.map []) := World.ownsMap_made w _ _ _

theorem zero_of {w : World} {e : TypeId} {z : Value} (hz : (Try.prog.info? e).bind (·.zero) = some z) : (zeroValue e).run Try.prog w = .ok z w := by
  cases hi : Try.prog.info? e with
  | none => simp [hi] at hz
  | some i =>
    simp only [hi, Option.bind_some] at hz
    unfold zeroValue typeInfo
    simp [hi, hz]

section
variable {w : World} {t k e : TypeId} {b : Nat} {D : DataW Value} {key : Value} {kl : Lit}

theorem Mp.look_hit {v : Value} {z : Value} (h : Mp w k b D) (K : Keyed Try.prog k) (ht : Try.prog.underlying t = some (.map k e)) (hz : (zeroValue e).run Try.prog w = .ok z w) (hkey : keyOf Try.prog k key = some kl)
    (hh : Maps.has D kl = true) (hat : ∀ zd, D.atKey kl zd = .held v) : (Instr.lookup t (.map (some b)) key true).run Try.prog w = .ok (.tuple #[v, .bool true]) w := by
  obtain ⟨v', ps, hrun, hv⟩ := World.ownsMap.look_ok h K ht hz (zd := .held z) (zp := []) rfl hkey
  rw [hh] at hrun
  rw [hat] at hv
  cases hv
  exact hrun

theorem Mp.look_miss {z : Value} (h : Mp w k b D) (K : Keyed Try.prog k) (ht : Try.prog.underlying t = some (.map k e)) (hz : (zeroValue e).run Try.prog w = .ok z w) (hkey : keyOf Try.prog k key = some kl)
    (hh : Maps.has D kl = false) : (Instr.lookup t (.map (some b)) key true).run Try.prog w = .ok (.tuple #[z, .bool false]) w := by
  obtain ⟨v', ps, hrun, hv⟩ := World.ownsMap.look_ok h K ht hz (zd := .held z) (zp := []) rfl hkey
  rw [hh] at hrun
  rw [Maps.atKey_of_not_has hh] at hv
  cases hv
  exact hrun

theorem Mp.get_hit {v : Value} {z : Value} (h : Mp w k b D) (K : Keyed Try.prog k) (ht : Try.prog.underlying t = some (.map k e)) (hz : (zeroValue e).run Try.prog w = .ok z w) (hkey : keyOf Try.prog k key = some kl)
    (hat : ∀ zd, D.atKey kl zd = .held v) : (Instr.lookup t (.map (some b)) key false).run Try.prog w = .ok v w := by
  obtain ⟨v', ps, hrun, hv⟩ := World.ownsMap.lookup h K ht hz (zd := .held z) (zp := []) rfl hkey
  rw [hat] at hv
  cases hv
  exact hrun

theorem Mp.get_miss {z : Value} (h : Mp w k b D) (K : Keyed Try.prog k) (ht : Try.prog.underlying t = some (.map k e)) (hz : (zeroValue e).run Try.prog w = .ok z w) (hkey : keyOf Try.prog k key = some kl)
    (hh : Maps.has D kl = false) : (Instr.lookup t (.map (some b)) key false).run Try.prog w = .ok z w := by
  obtain ⟨v', ps, hrun, hv⟩ := World.ownsMap.lookup h K ht hz (zd := .held z) (zp := []) rfl hkey
  rw [Maps.atKey_of_not_has hh] at hv
  cases hv
  exact hrun

theorem mod_of_turned {w w' : World} {b : Nat} (h : w.mapTurned w' b) : Mod (· = b) w w' ∧ w'.heap.size = w.heap.size := by
  refine ⟨Mod.of_grown h.grown (by rintro k ⟨⟩ _; rfl), ?_⟩
  obtain ⟨es, clock, es', clock', hb, rfl⟩ := h
  simp [Go.ChangeMaps.setBlock]

theorem Mp.store {val : Value} (h : Mp w k b D) (K : Keyed Try.prog k) (ht : Try.prog.underlying t = some (.map k e)) (hn : Maps.size D < maxLen) (hkey : keyOf Try.prog k key = some kl) :
    ∃ w', (Instr.mapUpdate t (.map (some b)) key val).run Try.prog w = .ok () w' ∧ Mp w' k b (D.put kl (.held val)) ∧ Mod (· = b) w w' ∧ w'.heap.size = w.heap.size := by
  obtain ⟨w', hrun, ho, ht'⟩ := World.ownsMap.store h K ht hn (val := val) (d := .held val) (ps := []) hkey rfl
  obtain ⟨h1, h2⟩ := mod_of_turned ht'
  exact ⟨w', hrun, Mp.of_owns ho, h1, h2⟩

theorem Mp.drop (h : Mp w k b D) (K : Keyed Try.prog k) (ht : Try.prog.underlying t = some (.map k e)) (hkey : keyOf Try.prog k key = some kl) (ty : TypeId) :
    ∃ w', (Builtin.delete_ #[t, k] ty #[.map (some b), key]).run Try.prog w = .ok (.tuple #[]) w' ∧ Mp w' k b (D.del kl) ∧ Mod (· = b) w w' ∧ w'.heap.size = w.heap.size := by
  obtain ⟨w', hrun, ho, ht'⟩ := World.ownsMap.drop h K ht hkey ty
  obtain ⟨h1, h2⟩ := mod_of_turned ht'
  exact ⟨w', hrun, Mp.of_owns ho, h1, h2⟩

theorem Mp.clear (h : Mp w k b D) (ht : Try.prog.underlying t = some (.map k e)) :
    ∃ w', (∀ ty, (Builtin.clear_ #[t] ty #[.map (some b)]).run Try.prog w = .ok (.tuple #[]) w') ∧ Mp w' k b (.map []) ∧ Mod (· = b) w w' ∧ w'.heap.size = w.heap.size := by
  obtain ⟨es, clock, hb, F, _, _⟩ := h
  refine ⟨Go.ChangeMaps.setBlock w b (.map #[] clock), fun ty => ?_, ⟨#[], clock, Go.ChangeMaps.heap_setBlock_same hb _, ?_, by simp, rfl⟩, ?_⟩
  · simp [Builtin.clear_, run_underlying ht, Go.MapKept.run_getObj_map hb, Go.MapKept.run_setObj_map _ hb, Result.andThen, Go.ChangeMaps.setBlock]
  · exact ⟨by simp, Go.MapKept.stamped_empty clock, by simp⟩
  · exact mod_of_turned ⟨es, clock, #[], clock, hb, rfl⟩

/-- m[k] = v, at the operation. -/
theorem wpList_store {ops : Array Oper} {rest : List Oper} {o : Oper} {a : Act} {Q : Exit → Act → World → Prop} (hg : o.guard = none) (m x v : Operand) (t : TypeId) (hop : o.op = Op.mapUpdate t m x v)
    (K : Keyed Try.prog k) (ht : Try.prog.underlying t = some (.map k e)) (hm : a.eval m = .map (some b)) (h : Mp w k b D) (hn : Maps.size D < maxLen) (key val : Value) (kl : Lit) (hx : a.eval x = key) (hv : a.eval v = val)
    (hkey : keyOf Try.prog k key = some kl)
    (hK : ∀ w', Mp w' k b (D.put kl (.held val)) → Mod (· = b) w w' → w'.heap.size = w.heap.size → wpList Try.prog ops Q rest (a.put o.dst undef) w') :
    wpList Try.prog ops Q (o :: rest) a w := by
  refine wpList_plain hg fun K' hK' => ?_
  obtain ⟨w', hrun, r1, r2, r3⟩ := h.store K ht hn (val := val) hkey
  unfold Oper.wp
  simp [execOp, hop, hm, hx, hv, hrun, Result.andThen]
  exact hK' _ _ (hK w' r1 r2 r3)

/-- m[k] = v, in a region that draws its order. -/
theorem wp_store {o : Oper} {a : Act} {K : Act → World → Prop} {Q : Exit → Act → World → Prop} (m x v : Operand) (t : TypeId) (hop : o.op = Op.mapUpdate t m x v)
    (Ky : Keyed Try.prog k) (ht : Try.prog.underlying t = some (.map k e)) (hm : a.eval m = .map (some b)) (h : Mp w k b D) (hn : Maps.size D < maxLen) (key val : Value) (kl : Lit) (hx : a.eval x = key) (hv : a.eval v = val)
    (hkey : keyOf Try.prog k key = some kl)
    (hK : ∀ w', Mp w' k b (D.put kl (.held val)) → Mod (· = b) w w' → w'.heap.size = w.heap.size → K (a.put o.dst undef) w') : o.wp Try.prog a w K Q := by
  obtain ⟨w', hrun, r1, r2, r3⟩ := h.store Ky ht hn (val := val) hkey
  unfold Oper.wp
  simp only [execOp, hop, hm, hx, hv, Sem.run_bind, Sem.run_pure, hrun, Result.andThen]
  exact hK w' r1 r2 r3

/-- delete(m, k), at the operation. -/
theorem wpList_drop {ops : Array Oper} {rest : List Oper} {o : Oper} {a : Act} {Q : Exit → Act → World → Prop} (hg : o.guard = none) (m x : Operand) (t k : TypeId)
    (hop : o.op = Op.call { callee := Callee.builtin Builtin.delete, args := #[m, x], argTypes := #[t, k] })
    (K : Keyed Try.prog k) (ht : Try.prog.underlying t = some (.map k e)) (hm : a.eval m = .map (some b)) (h : Mp w k b D) (key : Value) (kl : Lit) (hx : a.eval x = key)
    (hkey : keyOf Try.prog k key = some kl)
    (hK : ∀ w', Mp w' k b (D.del kl) → Mod (· = b) w w' → w'.heap.size = w.heap.size → wpList Try.prog ops Q rest (a.put o.dst (.tuple #[])) w') :
    wpList Try.prog ops Q (o :: rest) a w := by
  refine wpList_plain hg fun K' hK' => ?_
  obtain ⟨w', hrun, r1, r2, r3⟩ := h.drop K ht hkey o.type
  unfold Oper.wp
  simp [execOp, hop, resolve, invoke, builtin, hm, hx, hrun, Result.andThen]
  exact hK' _ _ (hK w' r1 r2 r3)

theorem Mp.tidy (h : Mp w k b D) (K : Keyed Try.prog k) : Tidy D := World.ownsMap.tidy h K
end

theorem has_iff {es : List (Lit × DataW Value)} {kl : Lit} : Maps.has (.map es) kl = true ↔ ∃ p ∈ es, p.1.sameKey kl = true := by
  simp [Maps.has_eq, List.any_eq_true]

theorem sameKey_self_int (q : IntKind) (i : Int) : (Lit.int q i).sameKey (.int q i) = true := by simp [Lit.sameKey]

/-- A map whose keys are numbers below n has no more than n entries. -/
theorem size_le_of_range {D : DataW Value} {q : IntKind} {n : Nat} (hD : Tidy D) (hr : ∀ kl, Maps.has D kl = true → ∃ i : Nat, i < n ∧ kl = .int q i) (hs : ∀ es, D = .map es → ∀ p ∈ es, ∃ x : Int, p.1 = .int q x) : Maps.size D ≤ n := by
  obtain ⟨es, rfl, hp⟩ := hD
  have hk : ∀ p ∈ es, ∃ i : Nat, i < n ∧ p.1 = .int q i := fun p hpm => by
    obtain ⟨x, hx⟩ := hs es rfl p hpm
    exact hr p.1 (has_iff.2 ⟨p, hpm, by rw [hx]; exact sameKey_self_int q x⟩)
  have hnd : (es.map fun p => p.1).Nodup := by
    rw [List.nodup_iff_pairwise_ne, List.pairwise_map]
    exact hp
  have hsub : (es.map fun p => p.1) ⊆ (List.range n).map fun i : Nat => Lit.int q i := by
    intro l hl
    obtain ⟨p, hpm, rfl⟩ := List.mem_map.1 hl
    obtain ⟨i, hi, e⟩ := hk p hpm
    exact List.mem_map.2 ⟨i, List.mem_range.2 hi, e.symm⟩
  have := hnd.length_le_of_subset hsub
  simpa [Maps.size_eq] using this

theorem ranges_keep {S : Nat → Prop} {w w' : World} {k : TypeId} {b r n : Nat} {D : DataW Value} {left : Lit → Bool} {cnt : Nat} (h : w.ranges Try.prog k heldR b r n D left cnt) (hm : Mod S w w') (hb : ¬ S b) (hr : ¬ S r) : w'.ranges Try.prog k heldR b r n D left cnt := by
  obtain ⟨es, clock, since, seen, c0, h1, h2, h3, h4, h5, h6⟩ := h
  exact ⟨es, clock, since, seen, c0, hm.keep h1 hb, h2, h3, h4, hm.keep h5 hr, h6⟩

end Go.Proofs.Ytnchclleiccofaa
