/-
  Layer 4, the log: what is undone, where nothing is; a sector's cells. No statement is proved here; no condition.
-/
import Derived.Test.YtnchclleiccofaaWalM
import Derived.Laws.CopyRow
namespace Go.Proofs.Ytnchclleiccofaa
open Go.RowKit Go.Maps

theorem Mp.len_nil {w : World} {k e t : TypeId} {b : Nat} (h : Mp w k b (.map [])) (ht : Try.prog.underlying t = some (.map k e)) (ty : TypeId) : (Builtin.len_ #[t] ty #[.map (some b)]).run Try.prog w = .ok (.int .i64 0) w := by
  have := World.ownsMap.len h ht ty
  exact this

theorem undo_any {p ub : Nat} {w : World} (c5 : w.cell? ⟨p, 5, none⟩ = some (.map (some ub))) (h : Mp w 3 ub (.map [])) :
    Calls Try.prog 72 #[.pointer (some ⟨p, 0, none⟩)] w fun e w' => e = .returned (.int .i64 0) ∧ w' = w := by
  refine calls_hide fun R hR => ?_
  have hlen := h.len_nil (t := 82) Try.underlying82
  clear h
  go_enter Try.func72, Try.ntmps72
  go_wp2_with fail
  exact fin hR ⟨rfl, rfl⟩

theorem Dk.flush_last (d : Dk) (hw : Well d) (i : Nat) : d.flush.last i = d.last i := by
  unfold Dk.flush
  rw [hw.1, hw.2]
  rw [if_neg (by decide), if_neg (by decide)]
  simp only [Dk.settle, Dk.last, Dk.power, Option.getD_none]
  cases d.dirty i <;> rfl

theorem Dk.flush_well (d : Dk) (hw : Well d) : Well d.flush ∧ d.flush.n = d.n ∧ d.flush.sz = d.sz ∧ d.flushE = 0 := by
  obtain ⟨h1, h2⟩ := hw
  unfold Dk.flush Dk.flushE Well
  simp [h1, h2, Dk.settle, Dk.power]

theorem Dk.write_well {d : Dk} {i : Nat} {l : List UInt8} (hw : Well d) (hi : i < d.n) (hl : l.length = d.sz) :
    Well (d.write (i : Int) l) ∧ (d.write (i : Int) l).n = d.n ∧ (d.write (i : Int) l).sz = d.sz ∧ d.writeE (i : Int) l.length = 0 ∧ ∀ j, (d.write (i : Int) l).last j = if j = i then l else d.last j := by
  obtain ⟨h1, h2⟩ := hw
  have hE : atE d.dead (i : Int) d.n = 0 := by
    rw [h1]; unfold atE
    rw [if_neg (by simp), if_neg (by omega)]
  obtain ⟨e1, e2⟩ := Dk.write_ok hE hl (by rw [h2]; decide)
  rw [e1, e2]
  refine ⟨⟨?_, ?_⟩, rfl, rfl, rfl, fun j => ?_⟩
  · simp [Dk.put, Dk.power, h1, h2]
  · simp [Dk.put, Dk.power, h2]
  · show Option.getD (if j = ((i : Int)).toNat then some l else d.dirty j) (d.sure j) = _
    rw [Int.toNat_natCast]
    by_cases e : j = i
    · rw [if_pos e, if_pos e]; rfl
    · rw [if_neg e, if_neg e]; rfl

/-- The cells of a sector that is laid. -/
theorem laid_cells0 {size turn next i : Nat} {B : List UInt8} (hi : i ≠ 0) : bv ((B.drop (i * size)).take size) ++ bv (List.replicate (size + 16 - ((B.drop (i * size)).take size).length) 0) = bv (laidAt size turn next B i) := by
  unfold laidAt
  rw [if_neg hi, ← bv_append, List.append_assoc, List.replicate_append_replicate]
  have := List.length_take_le size (B.drop (i * size))
  rw [show size - (List.take size (List.drop (i * size) B)).length + 16 = size + 16 - (List.take size (List.drop (i * size) B)).length by omega]

theorem laid_cells1 {size turn next : Nat} {B : List UInt8} {c1 c2 c3 : Array Value} (h1 : c1.toList = bv ((B.drop (0 * size)).take size) ++ bv (List.replicate (size + 16 - ((B.drop (0 * size)).take size).length) 0))
    (h2 : PutAt c1 c2 size 8 turn 8) (h3 : PutAt c2 c3 (size + 8) 8 (next + 1) 8) : c3.toList = bv (laidAt size turn next B 0) := by
  have hs := List.length_take_le size (B.drop (0 * size))
  have hl1 : c1.size = size + 16 := by
    rw [← Array.length_toList, h1, List.length_append, bv_length, bv_length, List.length_replicate]; omega
  have e8 : ∀ n, (bv (be 8 n)).length = 8 := fun n => by rw [bv_length, be_len]
  apply List.ext_getElem?
  intro i
  rw [Array.getElem?_toList]
  unfold laidAt
  rw [if_pos rfl, bv_append, bv_append (be 8 turn)]
  have hA : (bv ((B.drop (0 * size)).take size ++ List.replicate (size - ((B.drop (0 * size)).take size).length) 0)).length = size := by
    rw [bv_length, List.length_append, List.length_replicate]; omega
  by_cases a1 : i < size
  · rw [List.getElem?_append_left (by omega), h3.else_ i (.inl (by omega)), h2.else_ i (.inl (by omega)), ← Array.getElem?_toList, h1, bv_append]
    by_cases a0 : i < ((B.drop (0 * size)).take size).length
    · rw [List.getElem?_append_left (by rw [bv_length]; exact a0), List.getElem?_append_left (by rw [bv_length]; exact a0)]
    · rw [List.getElem?_append_right (by rw [bv_length]; omega), List.getElem?_append_right (by rw [bv_length]; omega), bv_get?, bv_get?, List.getElem?_replicate, List.getElem?_replicate, bv_length, if_pos (by omega), if_pos (by omega)]
  · rw [List.getElem?_append_right (by omega), hA]
    by_cases a2 : i < size + 8
    · rw [List.getElem?_append_left (by rw [e8]; omega), h3.else_ i (.inl (by omega)), h2.get (by omega) (by omega)]
    · rw [List.getElem?_append_right (by rw [e8]; omega), e8]
      by_cases a3 : i < size + 16
      · rw [h3.get (by omega) (by omega)]
        congr 1
      · rw [List.getElem?_eq_none (by rw [e8]; omega), Array.getElem?_eq_none (by rw [h3.size, h2.size]; omega)]

end Go.Proofs.Ytnchclleiccofaa
