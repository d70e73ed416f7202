/-
  Arguments that came in, as the walks take them. No statement is proved here; no condition.
-/
import Derived.Test.YtnchclleiccofaaMem
import Derived.OpenShut
namespace Go.Proofs.Ytnchclleiccofaa
open Go.RowKit

/-- A slice of integers that came in: nil, or a row of cap cells. -/
def InRow (k : IntKind) (w : World) (a : Option Addr) (len cap : Nat) (zs : List Int) : Prop :=
  (a = none ∧ len = 0 ∧ cap = 0 ∧ zs = []) ∨
  ∃ x, a = some x ∧ len ≤ cap ∧ cap ≤ maxLen ∧ zs.length = cap ∧ (∀ i, i < zs.length → w.cell? (x.add i) = some (.int k (zs.getD i 0))) ∧ ∀ n ∈ zs, (Lit.int k n).wf = true

/-- .. as a list of values that are read at an address. -/
structure In (w : World) (a : Option Addr) (n : Nat) (xs : List Value) : Prop where
  len : xs.length = n
  cell : ∀ i, i < n → ∃ b o, a = some ⟨b, o, none⟩ ∧ w.cell? ⟨b, o + i, none⟩ = xs[i]?

theorem In.keep {S : Nat → Prop} {w w' : World} {a : Option Addr} {n : Nat} {xs : List Value} (h : In w a n xs) (hm : Mod S w w') (hs : ∀ b o, a = some ⟨b, o, none⟩ → ¬ S b) : In w' a n xs := by
  refine ⟨h.len, fun i hi => ?_⟩
  obtain ⟨b, o, rfl, hc⟩ := h.cell i hi
  obtain ⟨v, hv⟩ : ∃ v, xs[i]? = some v := ⟨xs[i]'(by rw [h.len]; exact hi), by simp⟩
  rw [hv] at hc
  exact ⟨b, o, rfl, by rw [hm.cell hc (hs b o rfl), hv]⟩

theorem in_of_row {k : IntKind} {w : World} {a : Option Addr} {len cap : Nat} {zs : List Int} (h : InRow k w a len cap zs) : len ≤ cap ∧ cap ≤ maxLen ∧ In w a len ((zs.take len).map (Value.int k)) ∧ ∀ n ∈ zs.take len, (Lit.int k n).wf = true := by
  rcases h with ⟨rfl, rfl, rfl, rfl⟩ | ⟨x, rfl, h1, h2, h3, h4, h5⟩
  · exact ⟨Nat.le_refl _, by unfold maxLen; omega, ⟨rfl, fun i hi => by omega⟩, fun n hn => by cases hn⟩
  · refine ⟨h1, h2, ⟨by rw [List.length_map, List.length_take]; omega, fun i hi => ?_⟩, fun n hn => h5 n (List.mem_of_mem_take hn)⟩
    have hc := h4 i (by omega)
    obtain ⟨b, o, sp⟩ := x
    have hsp : sp = none := by simpa [Addr.add] using World.cell?_spot (h4 0 (by omega))
    subst hsp
    refine ⟨b, o, rfl, ?_⟩
    have hc' : w.cell? ⟨b, o + i, none⟩ = some (.int k (zs.getD i 0)) := by rw [Addr.add_lit] at hc; exact hc
    rw [hc', List.getElem?_map, List.getElem?_take, if_pos hi]
    simp [List.getD, show i < zs.length by omega]

theorem byte_of (x : Int) (h : (Lit.int .u8 x).wf = true) : ∃ b : UInt8, x = (b.toNat : Int) := by
  have h2 := bounds_u8 h
  refine ⟨UInt8.ofNat x.toNat, ?_⟩
  rw [UInt8.toNat_ofNat_of_lt' (by have : UInt8.size = 256 := rfl; omega)]
  omega

theorem bytes_of : ∀ (l : List Int), (∀ n ∈ l, (Lit.int .u8 n).wf = true) → ∃ bs : List UInt8, l.map (Value.int .u8) = bv bs ∧ bs.length = l.length
  | [], _ => ⟨[], rfl, rfl⟩
  | n :: l, h => by
    obtain ⟨b, hb⟩ := byte_of n (h n (by simp))
    obtain ⟨bs, e, hl⟩ := bytes_of l (fun m hm => h m (by simp [hm]))
    exact ⟨b :: bs, by rw [List.map_cons, e, hb]; rfl, by simp [hl]⟩

/-- A []uint8 that came in, as bytes. -/
theorem in_bytes {w : World} {a : Option Addr} {len cap : Nat} {zs : List Int} (h : InRow .u8 w a len cap zs) : ∃ bs : List UInt8, bs.length = len ∧ In w a len (bv bs) := by
  obtain ⟨_, _, hi, hw⟩ := in_of_row h
  obtain ⟨bs, e, hl⟩ := bytes_of _ hw
  rw [e] at hi
  exact ⟨bs, by have := hi.len; simpa using this, hi⟩

theorem nat_of_u64 (x : Int) (h : (Lit.int .u64 x).wf = true) : ∃ n : Nat, x = (n : Int) ∧ n < 18446744073709551616 := by
  have h2 := bounds_u64 h
  exact ⟨x.toNat, by omega, by omega⟩

end Go.Proofs.Ytnchclleiccofaa
