/-
  The law DiskPlays: its script, read as it comes in. No statement is proved here; no condition.
-/
import Derived.Test.YtjmnpfbinjlegaaPlayP
import Derived.Deep.Slices
import Derived.Deep.Fields
import Derived.ProofKit
import Derived.OpenShut
import Derived.ShutString
import Derived.ChangeOld
namespace Go.Proofs.Ytjmnpfbinjlegaa
open Go.ChangeShapes Go.WideShapes Go.ChangeAt Go.RowKit

instance : Inhabited ActV := ⟨⟨0, 0, 0, 0, 0, 0, 0⟩⟩

theorem add_at (b o i : Nat) : (⟨b, o, none⟩ : Addr).add i = ⟨b, o + i, none⟩ := by
  unfold Addr.add
  split
  · rename_i h; subst h; rfl
  · rfl

theorem cell7 {w : World} {base b o : Nat} {cs : List Value} (h : w.cells? base (⟨b, o, none⟩ : Addr) 7 = some cs) : cs.length = 7 ∧ ∀ j u, cs[j]? = some u → w.cell? ⟨b, o + j, none⟩ = some u := by
  obtain ⟨_, hlen, hcell⟩ := World.cells?_some h
  refine ⟨hlen, fun j u hj => ?_⟩
  have hj7 : j < 7 := by have := (List.getElem?_eq_some_iff.1 hj).1; omega
  have := hcell j hj7
  rw [hj, add_at] at this
  exact this

theorem act_open {H : Type} {enc : TypeId × Value → H} {w : World} {base : Nat} {spare : Nat → Bool} {held : Bool} {n : Nat} {cs : List Value} {x : DataW H × List MemPlace} (h : DataW.trod enc Try.prog w base spare held n 50 cs = some x) :
    ∃ a : ActV, a.keep < 18446744073709551616 ∧ cs = actCells a := by
  obtain ⟨xs, m, _, rfl, hlen, hxl, hf⟩ := DataW.trod_struct Try.underlying50 h
  have hx : xs.length = 7 := hxl
  have hc : cs.length = 7 := hlen.trans (by kernel_rfl)
  match cs, hc with
  | [c0, c1, c2, c3, c4, c5, c6], _ =>
    have e3 : Try.prog.cellsOf 3 = 1 := by kernel_rfl
    have e34 : Try.prog.cellsOf 34 = 1 := by kernel_rfl
    have e5 : Try.prog.cellsOf 5 = 1 := by kernel_rfl
    have g0 : DataW.trod enc Try.prog w base spare held m 3 (([c0, c1, c2, c3, c4, c5, c6].drop 0).take (Try.prog.cellsOf 3)) = xs[0]? := hf 0 _ rfl
    rw [e3, List.getElem?_eq_getElem (by omega)] at g0
    have g1 : DataW.trod enc Try.prog w base spare held m 3 (([c0, c1, c2, c3, c4, c5, c6].drop 1).take (Try.prog.cellsOf 3)) = xs[1]? := hf 1 _ rfl
    rw [e3, List.getElem?_eq_getElem (by omega)] at g1
    have g2 : DataW.trod enc Try.prog w base spare held m 3 (([c0, c1, c2, c3, c4, c5, c6].drop 2).take (Try.prog.cellsOf 3)) = xs[2]? := hf 2 _ rfl
    rw [e3, List.getElem?_eq_getElem (by omega)] at g2
    have g3 : DataW.trod enc Try.prog w base spare held m 34 (([c0, c1, c2, c3, c4, c5, c6].drop 3).take (Try.prog.cellsOf 34)) = xs[3]? := hf 3 _ rfl
    rw [e34, List.getElem?_eq_getElem (by omega)] at g3
    have g4 : DataW.trod enc Try.prog w base spare held m 3 (([c0, c1, c2, c3, c4, c5, c6].drop 4).take (Try.prog.cellsOf 3)) = xs[4]? := hf 4 _ rfl
    rw [e3, List.getElem?_eq_getElem (by omega)] at g4
    have g5 : DataW.trod enc Try.prog w base spare held m 3 (([c0, c1, c2, c3, c4, c5, c6].drop 5).take (Try.prog.cellsOf 3)) = xs[5]? := hf 5 _ rfl
    rw [e3, List.getElem?_eq_getElem (by omega)] at g5
    have g6 : DataW.trod enc Try.prog w base spare held m 5 (([c0, c1, c2, c3, c4, c5, c6].drop 6).take (Try.prog.cellsOf 5)) = xs[6]? := hf 6 _ rfl
    rw [e5, List.getElem?_eq_getElem (by omega)] at g6
    obtain ⟨n0, z0, _, w0⟩ := DataW.trod_int Try.underlying3 g0
    obtain ⟨n1, z1, _, w1⟩ := DataW.trod_int Try.underlying3 g1
    obtain ⟨n2, z2, _, w2⟩ := DataW.trod_int Try.underlying3 g2
    obtain ⟨n3, z3, _, w3⟩ := DataW.trod_int Try.underlying34 g3
    obtain ⟨n4, z4, _, w4⟩ := DataW.trod_int Try.underlying3 g4
    obtain ⟨n5, z5, _, w5⟩ := DataW.trod_int Try.underlying3 g5
    obtain ⟨n6, z6, _, w6⟩ := DataW.trod_int Try.underlying5 g6
    simp only [List.drop_zero, List.drop_succ_cons, List.take_succ_cons, List.take_zero, List.cons.injEq, and_true] at z0 z1 z2 z3 z4 z5 z6
    subst z0 z1 z2 z3 z4 z5 z6
    obtain ⟨k, rfl, hk⟩ := nat_of_u64 n3 w3
    obtain ⟨b, rfl⟩ := byte_of n6 w6
    exact ⟨⟨n0, n1, n2, k, n4, n5, b⟩, hk, rfl⟩

theorem acts_open {H : Type} {enc : TypeId × Value → H} {w : World} {base : Nat} {spare : Nat → Bool} {held : Bool} {fuel : Nat} {a : Option Addr} {len cap : Nat} {x : DataW H × List MemPlace}
    (h : DataW.trod enc Try.prog w base spare held fuel 43 [.slice a len cap] = some x) : ∃ l : List ActV, ActsIn w a len l := by
  rcases Go.Deep.open_slice Try.underlying43 h with ⟨hcs, _⟩ | ⟨ad, len', cap', m, n, D, Pl, hcs, _, hl, _, hm, _, hx⟩
  · simp at hcs
    obtain ⟨rfl, rfl, rfl⟩ := hcs
    exact ⟨[], rfl, fun a ha => (by cases ha), fun i hi => absurd hi (Nat.not_lt_zero i)⟩
  · simp at hcs
    obtain ⟨rfl, rfl, rfl⟩ := hcs
    have hlm : len ≤ m := by rw [hm]; split <;> omega
    obtain ⟨b, o, sp⟩ := ad
    have e7 : Try.prog.cellsOf 50 = 7 := by kernel_rfl
    have hsp : 0 < len → sp = none := fun h0 => by
      obtain ⟨cs', h1, _⟩ := hx 0 (by omega)
      rw [e7] at h1
      obtain ⟨_, hlen, hcell⟩ := World.cells?_some h1
      have h2 := hcell 0 (by omega)
      rw [List.getElem?_eq_getElem (by omega)] at h2
      simpa [Addr.add] using World.cell?_spot h2
    have key : ∀ i, i < len → ∃ v : ActV, v.keep < 18446744073709551616 ∧ sp = none ∧ ∀ j u, (actCells v)[j]? = some u → w.cell? ⟨b, o + i * 7 + j, none⟩ = some u := fun i hi => by
      obtain ⟨cs', h1, h2⟩ := hx i (by omega)
      have hs := hsp (by omega)
      subst hs
      rw [e7, add_at] at h1
      obtain ⟨v, hv, rfl⟩ := act_open h2
      exact ⟨v, hv, rfl, (cell7 h1).2⟩
    obtain ⟨f, hf⟩ := Go.Deep.choose_lt key
    refine ⟨(List.range len).map f, by simp, fun a ha => ?_, fun i hi => ?_⟩
    · obtain ⟨i, hi, rfl⟩ := List.mem_map.1 ha
      exact (hf i (List.mem_range.1 hi)).1
    · have hi' : i < len := by simpa using hi
      obtain ⟨_, hs, hc⟩ := hf i hi'
      refine ⟨b, o, by rw [hs], fun j u hj => hc j u ?_⟩
      simpa using hj

end Go.Proofs.Ytjmnpfbinjlegaa
