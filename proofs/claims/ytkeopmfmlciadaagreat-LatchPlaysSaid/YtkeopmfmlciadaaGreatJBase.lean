/-
  Arguments that came in, as the walks take them. No statement is proved here; no condition.
-/
import Derived.Test.YtkeopmfmlciadaaGreatJBaseA
import Derived.OrdersHeld
import Derived.Deep.CutBlock
import Derived.Shelf.SlIterI.Nil
import Derived.Shelf.SlIter.Nil
import Derived.Shelf.SortM.Plain
import Derived.Shelf.SortM.SortNone
import Derived.Ground.GgzProg
import Derived.Ground.SlgmProg
import Derived.Shelf.SlMaps.Clone
import Derived.Ground.SlmcProg
import Derived.Test.YtkeopmfmlciadaaGreatProg
import Derived.Deep.OwnRows
import Derived.OpenShut
namespace Go.Proofs.YtkeopmfmlciadaaGreat
open Go.RowKit

section
variable {P : Program} {ops : Array Oper} {Q : Exit → Act → World → Prop} {md : Region.Mode} {S : World → Prop}

/-- Whatever order is picked from here on, and S holds behind every operation but number z. -/
def wpAnyT (P : Program) (md : Region.Mode) (ops : Array Oper) (Q : Exit → Act → World → Prop) (S : World → Prop) (z : Nat) : Nat → Array Bool → Act → World → Prop
  | 0, listed, a, w => Region.ready md ops listed = [] ∧ Q .normal a w
  | fuel + 1, listed, a, w =>
    (Region.ready md ops listed = [] → Q .normal a w) ∧
    ∀ i ∈ Region.ready md ops listed, wpOp P ops Q i (fun a' w' => (i ≠ z → S w') ∧ wpAnyT P md ops Q S z fuel (listed.setIfInBounds i true) a' w') a w

theorem wpAny_of_T {z : Nat} : ∀ (fuel : Nat) (listed : Array Bool) (a : Act) (w : World), wpAnyT P md ops Q S z fuel listed a w → wpAny P md ops Q fuel listed a w
  | 0, _, _, _, h => h
  | fuel + 1, _, _, _, h => ⟨h.1, fun i hi => wpOp_mono (fun a' w' h' => wpAny_of_T fuel _ a' w' h'.2) (h.2 i hi)⟩

theorem wpAnyT_first {z i : Nat} {oi oz : Oper} {v : Value} (hi : ops[i]? = some oi) (hz : ops[z]? = some oz) (hzi : ∃ e ∈ oz.after, Region.binds md e = true ∧ e.on = i) (hsel : ∀ (j : Nat) (o : Oper) cs b, ops[j]? = some o → o.op ≠ .select cs b)
    (hQ : ∀ c a w, Q (.panic c) (a.put oi.dst v) w → Q (.panic c) a w) :
    ∀ (fuel : Nat) (listed : Array Bool) (a : Act) (w : World),
      (∀ j oj, ops[j]? = some oj → j ≠ i → listed.getD j true = false → (∀ e ∈ oj.after, Region.binds md e = true → e.on ≠ i) → oi.apart ops oj = true) →
      i ∈ Region.ready md ops listed → YieldsIf P ops S oi v a → S w →
      wpAnyT P md ops Q S z fuel (listed.setIfInBounds i true) (a.put oi.dst v) w → wpAnyT P md ops Q S z (fuel + 1) listed a w := by
  intro fuel
  induction fuel with
  | zero =>
    intro listed a w _ hr hy hS H
    refine ⟨fun h => (by rw [h] at hr; cases hr), fun j hj => ?_⟩
    by_cases hji : j = i
    · subst hji; exact hy.wpOp hi hS ⟨fun _ => hS, H⟩
    · have := ready_mono hj hji
      rw [H.1] at this
      cases this
  | succ fuel ih =>
    intro listed a w hfree hr hy hS H
    refine ⟨fun h => (by rw [h] at hr; cases hr), fun j hj => ?_⟩
    by_cases hji : j = i
    · subst hji; exact hy.wpOp hi hS ⟨fun _ => hS, H⟩
    · have h1 := H.2 j (ready_mono hj hji)
      obtain ⟨hjun, oj, hoj, hall⟩ := mem_ready.1 hj
      have hnot : ∀ e ∈ oj.after, Region.binds md e = true → e.on ≠ i := fun e he hb heq => by
        have h1 := hall e he hb
        have h0 := (mem_ready.1 hr).1
        rw [heq] at h1
        rcases Nat.lt_or_ge i listed.size with h' | h'
        · simp [h'] at h0 h1; rw [h0] at h1; cases h1
        · simp [Array.getElem?_eq_none h'] at h1
      have hjz : j ≠ z := fun e => by
        subst e
        rw [hz] at hoj
        cases hoj
        obtain ⟨e, he, hb, heq⟩ := hzi
        exact hnot e he hb heq
      have h2 := wpOp_putIf hoj (hfree j oj hoj hji hjun hnot) (fun cs b => hsel i oi cs b hi) (fun cs b => hsel j oj cs b hoj) hQ hy h1
      have hfree' : ∀ k ok, ops[k]? = some ok → k ≠ i → (listed.setIfInBounds j true).getD k true = false →
          (∀ e ∈ ok.after, Region.binds md e = true → e.on ≠ i) → oi.apart ops ok = true := fun k ok hk hki hun hno => by
        refine hfree k ok hk hki ?_ hno
        by_cases hjk : j = k
        · subst hjk; exact hjun
        · rw [getD_set_ne true hjk] at hun; exact hun
      have hin : i ∈ Region.ready md ops (listed.setIfInBounds j true) := ready_mono hr (Ne.symm hji)
      refine wpOp_mono (fun a' w' h3 => ?_) h2
      have hS' : S w' := h3.2.1 hjz
      exact ⟨fun _ => hS', ih (listed.setIfInBounds j true) a' w' hfree' hin h3.1 hS' (by rw [Array.setIfInBounds_comm _ _ hji]; exact h3.2.2)⟩

/-- Does operation z wait for i by an edge of its own? -/
def waitsB (md : Region.Mode) (ops : Array Oper) (z i : Nat) : Bool :=
  match ops[z]? with
  | some o => o.after.any fun e => Region.binds md e && e.on == i
  | none => false

/-- Take number i first: it may come up, yields v in every world that meets S, nobody who could come before it touches its temporaries, and the last one waits for it. -/
theorem wpAnyT_take {z : Nat} (i : Nat) (d : Option Tmp) {oi : Oper} (v : Value) {fuel : Nat} {listed : Array Bool} {a : Act} {w : World} (hi : ops[i]? = some oi) (hd : oi.dst = d)
    (hs : (Region.noSelect ops && Region.free md ops listed i && (Region.ready md ops listed).contains i && waitsB md ops z i) = true)
    (hQ : ∀ c a w, Q (.panic c) (a.put oi.dst v) w → Q (.panic c) a w) (hS : S w) (hy : YieldsIf P ops S oi v a)
    (h : wpAnyT P md ops Q S z fuel (listed.setIfInBounds i true) (a.put d v) w) : wpAnyT P md ops Q S z (fuel + 1) listed a w := by
  subst hd
  simp only [Bool.and_eq_true] at hs
  obtain ⟨⟨⟨h1, h2⟩, h3⟩, h4⟩ := hs
  unfold waitsB at h4
  split at h4
  · rename_i oz hz
    obtain ⟨e, he, hb⟩ := Array.any_eq_true'.1 h4
    simp only [Bool.and_eq_true, beq_iff_eq] at hb
    exact wpAnyT_first hi hz ⟨e, he, hb⟩ (Region.noSelect_spec h1) hQ fuel listed a w (Region.free_spec hi h2) (by simpa using h3) hy hS h
  · cases h4

/-- Just one may come up. -/
theorem wpAnyT_one {z : Nat} (i : Nat) {oi : Oper} {fuel : Nat} {listed : Array Bool} {a : Act} {w : World} (hi : ops[i]? = some oi) (hr : Region.ready md ops listed = [i]) (hg : oi.guard = none)
    (h : ∀ K : Act → World → Prop, Hid (∀ a' w', (i ≠ z → S w') → wpAnyT P md ops Q S z fuel (listed.setIfInBounds i true) a' w' → K a' w') → oi.wp P a w K Q) : wpAnyT P md ops Q S z (fuel + 1) listed a w := by
  refine ⟨fun h0 => absurd (hr ▸ h0) (by simp), fun j hj => ?_⟩
  rw [hr] at hj
  obtain rfl : j = i := by simpa using hj
  unfold wpOp
  simp only [hi, Region.wanted, hg, if_true]
  exact .inl (h _ (Lib.hid fun a' w' hs hw => ⟨hs, hw⟩))

theorem wpAnyT_oneW {z : Nat} (i : Nat) {oi : Oper} {fuel : Nat} {listed : Array Bool} {a : Act} {w : World} (hi : ops[i]? = some oi) (hr : Region.ready md ops listed = [i]) (hg : Region.wanted oi (yielded ops a.tmps) = true)
    (h : ∀ K : Act → World → Prop, Hid (∀ a' w', (i ≠ z → S w') → wpAnyT P md ops Q S z fuel (listed.setIfInBounds i true) a' w' → K a' w') → oi.wp P a w K Q) : wpAnyT P md ops Q S z (fuel + 1) listed a w := by
  refine ⟨fun h0 => absurd (hr ▸ h0) (by simp), fun j hj => ?_⟩
  rw [hr] at hj
  obtain rfl : j = i := by simpa using hj
  unfold wpOp
  simp only [hi, hg, if_true]
  exact .inl (h _ (Lib.hid fun a' w' hs hw => ⟨hs, hw⟩))

/-- One of two may come up. -/
theorem wpAnyT_two {z : Nat} (i j : Nat) {oi oj : Oper} {fuel : Nat} {listed : Array Bool} {a : Act} {w : World} (hi : ops[i]? = some oi) (hj : ops[j]? = some oj) (hr : Region.ready md ops listed = [i, j]) (hgi : oi.guard = none) (hgj : oj.guard = none)
    (h1 : ∀ K : Act → World → Prop, Hid (∀ a' w', (i ≠ z → S w') → wpAnyT P md ops Q S z fuel (listed.setIfInBounds i true) a' w' → K a' w') → oi.wp P a w K Q)
    (h2 : ∀ K : Act → World → Prop, Hid (∀ a' w', (j ≠ z → S w') → wpAnyT P md ops Q S z fuel (listed.setIfInBounds j true) a' w' → K a' w') → oj.wp P a w K Q) : wpAnyT P md ops Q S z (fuel + 1) listed a w := by
  refine ⟨fun h0 => absurd (hr ▸ h0) (by simp), fun q hq => ?_⟩
  rw [hr] at hq
  have hq' : q = i ∨ q = j := by simpa using hq
  rcases hq' with rfl | rfl
  · unfold wpOp
    simp only [hi, Region.wanted, hgi, if_true]
    exact .inl (h1 _ (Lib.hid fun a' w' hs hw => ⟨hs, hw⟩))
  · unfold wpOp
    simp only [hj, Region.wanted, hgj, if_true]
    exact .inl (h2 _ (Lib.hid fun a' w' hs hw => ⟨hs, hw⟩))

/-- Whichever may come up. -/
theorem wpAnyT_all {z : Nat} (rs : List Nat) {fuel : Nat} {listed : Array Bool} {a : Act} {w : World} (hr : Region.ready md ops listed = rs) (hne : rs ≠ [])
    (h : ∀ i ∈ rs, wpOp P ops Q i (fun a' w' => (i ≠ z → S w') ∧ wpAnyT P md ops Q S z fuel (listed.setIfInBounds i true) a' w') a w) : wpAnyT P md ops Q S z (fuel + 1) listed a w :=
  ⟨fun h0 => absurd (hr ▸ h0) hne, hr ▸ h⟩

theorem wpAnyT_done {z : Nat} {listed : Array Bool} {a : Act} {w : World} (hr : Region.ready md ops listed = []) (h : Q .normal a w) :
    ∀ fuel, wpAnyT P md ops Q S z fuel listed a w
  | 0 => ⟨hr, h⟩
  | _ + 1 => ⟨fun _ => h, by rw [hr]; simp⟩

theorem wp_region_T (S : World → Prop) (z : Nat) {id : Nat} {a : Act} {w : World} (hm : P.follows .mixedOrders = true)
    (h : wpAnyT P .any ops Q S z ops.size (Array.replicate ops.size false) a w.drew) : (Code.region id ops true).wp P Q a w :=
  wp_region_any hm (wpAny_of_T _ _ _ _ h)

end
end Go.Proofs.YtkeopmfmlciadaaGreat
namespace Go.Proofs.YtkeopmfmlciadaaGreat
open Go.RowKit

/-- Block n of a code. -/
def blockAt (n : Nat) : Code → Option Code
  | .block m c => if m == n then some (.block m c) else blockAt n c
  | .seq a b => match blockAt n a with
    | some c => some c
    | none => blockAt n b
  | .loop c => blockAt n c
  | .scope c => blockAt n c
  | .cond _ a b => match blockAt n a with
    | some c => some c
    | none => blockAt n b
  | _ => none

/-- Whether a statement's end is block n. -/
def endsAt (n : Nat) : Code → Bool
  | .block m _ => m == n
  | .seq _ b => endsAt n b
  | _ => false

/-- What follows block n in its sequence. -/
def behind (n : Nat) : Code → Option Code
  | .seq a b => if endsAt n a then some b else match behind n a with
    | some c => some c
    | none => behind n b
  | .loop c => behind n c
  | .scope c => behind n c
  | .block _ c => behind n c
  | .cond _ a b => match behind n a with
    | some c => some c
    | none => behind n b
  | _ => none

/-- Whether a statement's beginning is region r. -/
def startsAt (r : Nat) : Code → Bool
  | .region m _ _ => m == r
  | .seq a _ => startsAt r a
  | _ => false

/-- The way of a test that begins with region r. -/
def wayAt (r : Nat) : Code → Option Code
  | .cond _ a b => if startsAt r a then some a else if startsAt r b then some b else match wayAt r a with
    | some c => some c
    | none => wayAt r b
  | .seq a b => match wayAt r a with
    | some c => some c
    | none => wayAt r b
  | .loop c => wayAt r c
  | .scope c => wayAt r c
  | .block _ c => wayAt r c
  | _ => none

/-- The slots that are known. -/
def Holds (t : Array Value) : List (Nat × Value) → Prop
  | [] => True
  | p :: l => t.getD p.1 undef = p.2 ∧ Holds t l

/-- A frame of n slots. -/
structure Fr (n : Nat) (l : List (Nat × Value)) (a : Act) : Prop where
  size : a.tmps.size = n
  defers : a.defers = []
  holds : Holds a.tmps l

theorem arr_lits (t : Array Value) : t = ((List.range t.size).map fun i => t.getD i undef).toArray := by
  apply Array.ext
  · simp
  · intro i h1 h2
    simp [Array.getD, h1]

theorem wp_then {P : Program} {s : Code} {R K : Act → World → Prop} {Q' : Exit → Act → World → Prop} {a : Act} {w : World} (h : s.wp P (Exit.then R Q') a w) (hR : ∀ a' w', R a' w' → K a' w') : s.wp P (Exit.then K Q') a w := by
  refine wp_mono h ?_
  intro e a' w' hq
  cases e with
  | normal => exact hR _ _ hq
  | exit id => exact hq
  | goto l => exact hq
  | ret => exact hq
  | panic ch => exact hq
  | outgrown => exact hq

/-- No other way out. -/
def Nope : Exit → Act → World → Prop := fun _ _ _ => False

theorem wp_only {P : Program} {s : Code} {R K : Act → World → Prop} {Q' : Exit → Act → World → Prop} {a : Act} {w : World} (h : s.wp P (Exit.then R Nope) a w) (hR : ∀ a' w', R a' w' → K a' w') : s.wp P (Exit.then K Q') a w := by
  refine wp_mono h ?_
  intro e a' w' hq
  cases e with
  | normal => exact hR _ _ hq
  | exit id => exact hq.elim
  | goto l => exact hq.elim
  | ret => exact hq.elim
  | panic ch => exact hq.elim
  | outgrown => exact hq.elim

theorem wp_way {P : Program} {s : Code} {R : Act → World → Prop} {Q : Exit → Act → World → Prop} {a : Act} {w : World} (h : s.wp P (Exit.then R Nope) a w) (hR : ∀ a' w', R a' w' → Q .normal a' w') : s.wp P Q a w := by
  refine wp_mono h ?_
  intro e a' w' hq
  cases e with
  | normal => exact hR _ _ hq
  | exit id => exact hq.elim
  | goto l => exact hq.elim
  | ret => exact hq.elim
  | panic ch => exact hq.elim
  | outgrown => exact hq.elim

/-- A part of a code, proved for whatever must hold behind it. -/
theorem wp_part {P : Program} {s : Code} {R : Act → World → Prop} {Q' : Exit → Act → World → Prop} {a : Act} {w : World}
    (first : ∀ (J K' : Act → World → Prop), (∀ a' w', R a' w' → J a' w') → (∀ a' w', Met J a' w' → K' a' w') → s.wp P (Exit.then K' Q') a w) : s.wp P (Exit.then R Q') a w :=
  wp_cut R (fun _ _ h => h) first

end Go.Proofs.YtkeopmfmlciadaaGreat
namespace Go.Proofs.YtkeopmfmlciadaaGreat
open Go.RowKit

section
variable {P : Program} {ops : Array Oper} {Q : Exit → Act → World → Prop} {md : Region.Mode} {S : World → Prop}

theorem wpAnyT_firstU {z i : Nat} {oi : Oper} {v : Value} (hi : ops[i]? = some oi) (hSa : ∀ w, S w) (hsel : ∀ (j : Nat) (o : Oper) cs b, ops[j]? = some o → o.op ≠ .select cs b)
    (hQ : ∀ c a w, Q (.panic c) (a.put oi.dst v) w → Q (.panic c) a w) :
    ∀ (fuel : Nat) (listed : Array Bool) (a : Act) (w : World),
      (∀ j oj, ops[j]? = some oj → j ≠ i → listed.getD j true = false → (∀ e ∈ oj.after, Region.binds md e = true → e.on ≠ i) → oi.apart ops oj = true) →
      i ∈ Region.ready md ops listed → YieldsIf P ops S oi v a → S w →
      wpAnyT P md ops Q S z fuel (listed.setIfInBounds i true) (a.put oi.dst v) w → wpAnyT P md ops Q S z (fuel + 1) listed a w := by
  intro fuel
  induction fuel with
  | zero =>
    intro listed a w _ hr hy hS H
    refine ⟨fun h => (by rw [h] at hr; cases hr), fun j hj => ?_⟩
    by_cases hji : j = i
    · subst hji; exact hy.wpOp hi hS ⟨fun _ => hS, H⟩
    · have := ready_mono hj hji
      rw [H.1] at this
      cases this
  | succ fuel ih =>
    intro listed a w hfree hr hy hS H
    refine ⟨fun h => (by rw [h] at hr; cases hr), fun j hj => ?_⟩
    by_cases hji : j = i
    · subst hji; exact hy.wpOp hi hS ⟨fun _ => hS, H⟩
    · have h1 := H.2 j (ready_mono hj hji)
      obtain ⟨hjun, oj, hoj, hall⟩ := mem_ready.1 hj
      have hnot : ∀ e ∈ oj.after, Region.binds md e = true → e.on ≠ i := fun e he hb heq => by
        have h1 := hall e he hb
        have h0 := (mem_ready.1 hr).1
        rw [heq] at h1
        rcases Nat.lt_or_ge i listed.size with h' | h'
        · simp [h'] at h0 h1; rw [h0] at h1; cases h1
        · simp [Array.getElem?_eq_none h'] at h1
      have h2 := wpOp_putIf hoj (hfree j oj hoj hji hjun hnot) (fun cs b => hsel i oi cs b hi) (fun cs b => hsel j oj cs b hoj) hQ hy h1
      have hfree' : ∀ k ok, ops[k]? = some ok → k ≠ i → (listed.setIfInBounds j true).getD k true = false →
          (∀ e ∈ ok.after, Region.binds md e = true → e.on ≠ i) → oi.apart ops ok = true := fun k ok hk hki hun hno => by
        refine hfree k ok hk hki ?_ hno
        by_cases hjk : j = k
        · subst hjk; exact hjun
        · rw [getD_set_ne true hjk] at hun; exact hun
      have hin : i ∈ Region.ready md ops (listed.setIfInBounds j true) := ready_mono hr (Ne.symm hji)
      refine wpOp_mono (fun a' w' h3 => ?_) h2
      have hS' : S w' := hSa w'
      exact ⟨fun _ => hS', ih (listed.setIfInBounds j true) a' w' hfree' hin h3.1 hS' (by rw [Array.setIfInBounds_comm _ _ hji]; exact h3.2.2)⟩


/-- Take number i first: it may come up, yields v in every world, nobody who could come before it touches its temporaries. -/
theorem wpAnyT_takeU {z : Nat} (i : Nat) (d : Option Tmp) {oi : Oper} (v : Value) {fuel : Nat} {listed : Array Bool} {a : Act} {w : World} (hi : ops[i]? = some oi) (hd : oi.dst = d)
    (hs : (Region.noSelect ops && Region.free md ops listed i && (Region.ready md ops listed).contains i) = true)
    (hQ : ∀ c a w, Q (.panic c) (a.put oi.dst v) w → Q (.panic c) a w) (hy : YieldsIf P ops (fun _ => True) oi v a)
    (h : wpAnyT P md ops Q (fun _ => True) z fuel (listed.setIfInBounds i true) (a.put d v) w) : wpAnyT P md ops Q (fun _ => True) z (fuel + 1) listed a w := by
  subst hd
  simp only [Bool.and_eq_true] at hs
  obtain ⟨⟨h1, h2⟩, h3⟩ := hs
  exact wpAnyT_firstU (z := z) hi (fun _ => trivial) (Region.noSelect_spec h1) hQ fuel listed a w (Region.free_spec hi h2) (by simpa using h3) hy trivial h

theorem wpAnyT_firstV {z i : Nat} {oi : Oper} {v : Value} (hi : ops[i]? = some oi) (hz : ops[z]? = none) (hsel : ∀ (j : Nat) (o : Oper) cs b, ops[j]? = some o → o.op ≠ .select cs b)
    (hQ : ∀ c a w, Q (.panic c) (a.put oi.dst v) w → Q (.panic c) a w) :
    ∀ (fuel : Nat) (listed : Array Bool) (a : Act) (w : World),
      (∀ j oj, ops[j]? = some oj → j ≠ i → listed.getD j true = false → (∀ e ∈ oj.after, Region.binds md e = true → e.on ≠ i) → oi.apart ops oj = true) →
      i ∈ Region.ready md ops listed → YieldsIf P ops S oi v a → S w →
      wpAnyT P md ops Q S z fuel (listed.setIfInBounds i true) (a.put oi.dst v) w → wpAnyT P md ops Q S z (fuel + 1) listed a w := by
  intro fuel
  induction fuel with
  | zero =>
    intro listed a w _ hr hy hS H
    refine ⟨fun h => (by rw [h] at hr; cases hr), fun j hj => ?_⟩
    by_cases hji : j = i
    · subst hji; exact hy.wpOp hi hS ⟨fun _ => hS, H⟩
    · have := ready_mono hj hji
      rw [H.1] at this
      cases this
  | succ fuel ih =>
    intro listed a w hfree hr hy hS H
    refine ⟨fun h => (by rw [h] at hr; cases hr), fun j hj => ?_⟩
    by_cases hji : j = i
    · subst hji; exact hy.wpOp hi hS ⟨fun _ => hS, H⟩
    · have h1 := H.2 j (ready_mono hj hji)
      obtain ⟨hjun, oj, hoj, hall⟩ := mem_ready.1 hj
      have hnot : ∀ e ∈ oj.after, Region.binds md e = true → e.on ≠ i := fun e he hb heq => by
        have h1 := hall e he hb
        have h0 := (mem_ready.1 hr).1
        rw [heq] at h1
        rcases Nat.lt_or_ge i listed.size with h' | h'
        · simp [h'] at h0 h1; rw [h0] at h1; cases h1
        · simp [Array.getElem?_eq_none h'] at h1
      have h2 := wpOp_putIf hoj (hfree j oj hoj hji hjun hnot) (fun cs b => hsel i oi cs b hi) (fun cs b => hsel j oj cs b hoj) hQ hy h1
      have hfree' : ∀ k ok, ops[k]? = some ok → k ≠ i → (listed.setIfInBounds j true).getD k true = false →
          (∀ e ∈ ok.after, Region.binds md e = true → e.on ≠ i) → oi.apart ops ok = true := fun k ok hk hki hun hno => by
        refine hfree k ok hk hki ?_ hno
        by_cases hjk : j = k
        · subst hjk; exact hjun
        · rw [getD_set_ne true hjk] at hun; exact hun
      have hin : i ∈ Region.ready md ops (listed.setIfInBounds j true) := ready_mono hr (Ne.symm hji)
      refine wpOp_mono (fun a' w' h3 => ?_) h2
      have hS' : S w' := h3.2.1 (fun e => by subst e; rw [hz] at hoj; cases hoj)
      exact ⟨fun _ => hS', ih (listed.setIfInBounds j true) a' w' hfree' hin h3.1 hS' (by rw [Array.setIfInBounds_comm _ _ hji]; exact h3.2.2)⟩



/-- Take number i first, where the condition holds behind whatever comes. -/
theorem wpAnyT_takeV {z : Nat} (i : Nat) (d : Option Tmp) {oi : Oper} (v : Value) {fuel : Nat} {listed : Array Bool} {a : Act} {w : World} (hi : ops[i]? = some oi) (hd : oi.dst = d)
    (hs : (Region.noSelect ops && Region.free md ops listed i && (Region.ready md ops listed).contains i && (ops[z]?).isNone) = true)
    (hQ : ∀ c a w, Q (.panic c) (a.put oi.dst v) w → Q (.panic c) a w) (hS : S w) (hy : YieldsIf P ops S oi v a)
    (h : wpAnyT P md ops Q S z fuel (listed.setIfInBounds i true) (a.put d v) w) : wpAnyT P md ops Q S z (fuel + 1) listed a w := by
  subst hd
  simp only [Bool.and_eq_true] at hs
  obtain ⟨⟨⟨h1, h2⟩, h3⟩, h4⟩ := hs
  exact wpAnyT_firstV (z := z) hi (by simpa using h4) (Region.noSelect_spec h1) hQ fuel listed a w (Region.free_spec hi h2) (by simpa using h3) hy hS h

end
end Go.Proofs.YtkeopmfmlciadaaGreat
namespace Go.Proofs
open Go.Shelf
def Tryz.keysI_ren : Go.Shelf.Ren := ⟨fun | 7 => 129 | 10 => 133 | n => n, fun | 23 => 80 | 26 => 3 | 3 => 45 | 28 => 185 | 0 => 0 | 27 => 184 | 33 => 191 | 4 => 4 | n => n, fun | n => n⟩
theorem Tryz.keysI : Go.Proofs.SlLaysZI.n7 Tryz.prog Tryz.keysI_ren := {
  mixed := by kernel_rfl
  f7 := ⟨Tryz.f129.name, by decide, Tryz.func129.trans (congrArg some (by kernel_rfl))⟩
  f10 := ⟨Tryz.f133.name, by decide, Tryz.func133.trans (congrArg some (by kernel_rfl))⟩
  t0 := Tryz.underlying0
  a0 := Tryz.isAgg0
  z0 := Tryz.sizeOf0
  v0 := Tryz.zeroValue0
  t4 := Tryz.underlying4
  a4 := Tryz.isAgg4
  z4 := Tryz.sizeOf4
  v4 := Tryz.zeroValue4
  t23 := Tryz.underlying80
  a23 := Tryz.isAgg80
  z23 := Tryz.sizeOf80
  v23 := Tryz.zeroValue80
  t26 := Tryz.underlying3
  a26 := Tryz.isAgg3
  z26 := Tryz.sizeOf3
  v26 := Tryz.zeroValue3
  t27 := Tryz.underlying184
  a27 := Tryz.isAgg184
  z27 := Tryz.sizeOf184
  v27 := Tryz.zeroValue184
  t28 := Tryz.underlying185
  a28 := Tryz.isAgg185
  z28 := Tryz.sizeOf185
  v28 := Tryz.zeroValue185
  t33 := Tryz.underlying191
  a33 := Tryz.isAgg191
  z33 := Tryz.sizeOf191
  v33 := Tryz.zeroValue191 }
def Tryz.sortedI_ren : Go.Shelf.Ren := ⟨fun | 6 => 128 | 8 => 131 | 9 => 132 | 11 => 134 | 13 => 95 | 12 => 135 | 23 => 116 | 24 => 117 | 14 => 136 | 15 => 137 | 16 => 138 | 17 => 139 | 18 => 140 | 19 => 141 | 20 => 142 | 21 => 143 | 22 => 144 | 25 => 145 | 26 => 123 | 27 => 124 | 28 => 146 | 29 => 147 | 30 => 148 | 31 => 149 | n => n, fun | 26 => 3 | 28 => 185 | 24 => 182 | 0 => 0 | 3 => 3 | 37 => 129 | 48 => 171 | 50 => 102 | 4 => 4 | 40 => 164 | 39 => 163 | 45 => 168 | 5 => 5 | 9 => 9 | 51 => 177 | 55 => 180 | 57 => 187 | 58 => 188 | 33 => 191 | n => n, fun | n => n⟩
theorem Tryz.sortedI : Go.Proofs.SlLaysZI.n6 Tryz.prog Tryz.sortedI_ren := {
  mixed := by kernel_rfl
  f6 := ⟨Tryz.f128.name, by decide, Tryz.func128.trans (congrArg some (by kernel_rfl))⟩
  f8 := ⟨Tryz.f131.name, by decide, Tryz.func131.trans (congrArg some (by kernel_rfl))⟩
  f11 := ⟨Tryz.f134.name, by decide, Tryz.func134.trans (congrArg some (by kernel_rfl))⟩
  t0 := Tryz.underlying0
  a0 := Tryz.isAgg0
  z0 := Tryz.sizeOf0
  v0 := Tryz.zeroValue0
  t24 := Tryz.underlying182
  a24 := Tryz.isAgg182
  z24 := Tryz.sizeOf182
  v24 := Tryz.zeroValue182
  t26 := Tryz.underlying3
  a26 := Tryz.isAgg3
  z26 := Tryz.sizeOf3
  v26 := Tryz.zeroValue3
  t28 := Tryz.underlying185
  a28 := Tryz.isAgg185
  z28 := Tryz.sizeOf185
  v28 := Tryz.zeroValue185
  i26 := by kernel_rfl }
def Tryz.sortI_ren : Go.Shelf.Ren := ⟨fun | 5 => 132 | 8 => 95 | 7 => 135 | 19 => 116 | 20 => 117 | 10 => 136 | 11 => 137 | 12 => 138 | 13 => 139 | 14 => 140 | 15 => 141 | 16 => 142 | 17 => 143 | 18 => 144 | 30 => 145 | 31 => 123 | 32 => 124 | 33 => 146 | 34 => 147 | 35 => 148 | 40 => 149 | n => n, fun | 23 => 182 | 25 => 3 | 3 => 3 | 32 => 129 | 22 => 182 | 0 => 0 | 44 => 171 | 46 => 102 | 4 => 4 | 36 => 164 | 35 => 163 | 41 => 168 | 5 => 5 | 9 => 9 | 53 => 177 | 57 => 180 | 63 => 187 | 64 => 188 | n => n, fun | n => n⟩
theorem Tryz.sortI : Go.Proofs.SlLaysM.n5 Tryz.prog Tryz.sortI_ren := {
  mixed := by kernel_rfl
  f5 := ⟨Tryz.f132.name, by decide, Tryz.func132.trans (congrArg some (by kernel_rfl))⟩
  f7 := ⟨Tryz.f135.name, by decide, Tryz.func135.trans (congrArg some (by kernel_rfl))⟩
  f8 := Tryz.func95.trans (congrArg some (by kernel_rfl))
  f10 := ⟨Tryz.f136.name, by decide, Tryz.func136.trans (congrArg some (by kernel_rfl))⟩
  f11 := ⟨Tryz.f137.name, by decide, Tryz.func137.trans (congrArg some (by kernel_rfl))⟩
  f12 := ⟨Tryz.f138.name, by decide, Tryz.func138.trans (congrArg some (by kernel_rfl))⟩
  f13 := ⟨Tryz.f139.name, by decide, Tryz.func139.trans (congrArg some (by kernel_rfl))⟩
  f14 := ⟨Tryz.f140.name, by decide, Tryz.func140.trans (congrArg some (by kernel_rfl))⟩
  f15 := ⟨Tryz.f141.name, by decide, Tryz.func141.trans (congrArg some (by kernel_rfl))⟩
  f16 := ⟨Tryz.f142.name, by decide, Tryz.func142.trans (congrArg some (by kernel_rfl))⟩
  f17 := ⟨Tryz.f143.name, by decide, Tryz.func143.trans (congrArg some (by kernel_rfl))⟩
  f18 := ⟨Tryz.f144.name, by decide, Tryz.func144.trans (congrArg some (by kernel_rfl))⟩
  f19 := Tryz.func116.trans (congrArg some (by kernel_rfl))
  f20 := Tryz.func117.trans (congrArg some (by kernel_rfl))
  f30 := ⟨Tryz.f145.name, by decide, Tryz.func145.trans (congrArg some (by kernel_rfl))⟩
  f31 := Tryz.func123.trans (congrArg some (by kernel_rfl))
  f32 := Tryz.func124.trans (congrArg some (by kernel_rfl))
  f33 := ⟨Tryz.f146.name, by decide, Tryz.func146.trans (congrArg some (by kernel_rfl))⟩
  f34 := ⟨Tryz.f147.name, by decide, Tryz.func147.trans (congrArg some (by kernel_rfl))⟩
  f35 := ⟨Tryz.f148.name, by decide, Tryz.func148.trans (congrArg some (by kernel_rfl))⟩
  f40 := ⟨Tryz.f149.name, by decide, Tryz.func149.trans (congrArg some (by kernel_rfl))⟩
  t0 := Tryz.underlying0
  a0 := Tryz.isAgg0
  z0 := Tryz.sizeOf0
  v0 := Tryz.zeroValue0
  t3 := Tryz.underlying3
  a3 := Tryz.isAgg3
  z3 := Tryz.sizeOf3
  v3 := Tryz.zeroValue3
  t4 := Tryz.underlying4
  a4 := Tryz.isAgg4
  z4 := Tryz.sizeOf4
  v4 := Tryz.zeroValue4
  t5 := Tryz.underlying5
  a5 := Tryz.isAgg5
  z5 := Tryz.sizeOf5
  v5 := Tryz.zeroValue5
  t9 := Tryz.underlying9
  a9 := Tryz.isAgg9
  z9 := Tryz.sizeOf9
  v9 := Tryz.zeroValue9
  t22 := Tryz.underlying182
  a22 := Tryz.isAgg182
  z22 := Tryz.sizeOf182
  v22 := Tryz.zeroValue182
  t23 := Tryz.underlying182
  a23 := Tryz.isAgg182
  z23 := Tryz.sizeOf182
  v23 := Tryz.zeroValue182
  t25 := Tryz.underlying3
  a25 := Tryz.isAgg3
  z25 := Tryz.sizeOf3
  v25 := Tryz.zeroValue3
  t32 := Tryz.underlying129
  a32 := Tryz.isAgg129
  z32 := Tryz.sizeOf129
  v32 := Tryz.zeroValue129
  t35 := Tryz.underlying163
  a35 := Tryz.isAgg163
  z35 := Tryz.sizeOf163
  v35 := Tryz.zeroValue163
  t36 := Tryz.underlying164
  a36 := Tryz.isAgg164
  z36 := Tryz.sizeOf164
  v36 := Tryz.zeroValue164
  t41 := Tryz.underlying168
  a41 := Tryz.isAgg168
  z41 := Tryz.sizeOf168
  v41 := Tryz.zeroValue168
  t44 := Tryz.underlying171
  a44 := Tryz.isAgg171
  z44 := Tryz.sizeOf171
  v44 := Tryz.zeroValue171
  t46 := Tryz.underlying102
  a46 := Tryz.isAgg102
  z46 := Tryz.sizeOf102
  v46 := Tryz.zeroValue102
  t53 := Tryz.underlying177
  a53 := Tryz.isAgg177
  z53 := Tryz.sizeOf177
  v53 := Tryz.zeroValue177
  t57 := Tryz.underlying180
  a57 := Tryz.isAgg180
  z57 := Tryz.sizeOf180
  v57 := Tryz.zeroValue180
  t63 := Tryz.underlying187
  a63 := Tryz.isAgg187
  z63 := Tryz.sizeOf187
  v63 := Tryz.zeroValue187
  t64 := Tryz.underlying188
  a64 := Tryz.isAgg188
  z64 := Tryz.sizeOf188
  v64 := Tryz.zeroValue188 }
def Tryz.keysS_ren : Go.Shelf.Ren := ⟨fun | 7 => 43 | 10 => 69 | n => n, fun | 23 => 40 | 26 => 9 | 3 => 9 | 28 => 93 | 0 => 0 | 27 => 92 | 33 => 124 | 4 => 4 | n => n, fun | n => n⟩
theorem Tryz.keysS : Go.Proofs.SlLaysZ.n7 Tryz.prog Tryz.keysS_ren := {
  mixed := by kernel_rfl
  f7 := ⟨Tryz.f43.name, by decide, Tryz.func43.trans (congrArg some (by kernel_rfl))⟩
  f10 := ⟨Tryz.f69.name, by decide, Tryz.func69.trans (congrArg some (by kernel_rfl))⟩
  t0 := Tryz.underlying0
  a0 := Tryz.isAgg0
  z0 := Tryz.sizeOf0
  v0 := Tryz.zeroValue0
  t4 := Tryz.underlying4
  a4 := Tryz.isAgg4
  z4 := Tryz.sizeOf4
  v4 := Tryz.zeroValue4
  t23 := Tryz.underlying40
  a23 := Tryz.isAgg40
  z23 := Tryz.sizeOf40
  v23 := Tryz.zeroValue40
  t26 := Tryz.underlying9
  a26 := Tryz.isAgg9
  z26 := Tryz.sizeOf9
  v26 := Tryz.zeroValue9
  t27 := Tryz.underlying92
  a27 := Tryz.isAgg92
  z27 := Tryz.sizeOf92
  v27 := Tryz.zeroValue92
  t28 := Tryz.underlying93
  a28 := Tryz.isAgg93
  z28 := Tryz.sizeOf93
  v28 := Tryz.zeroValue93
  t33 := Tryz.underlying124
  a33 := Tryz.isAgg124
  z33 := Tryz.sizeOf124
  v33 := Tryz.zeroValue124 }
def Tryz.sortedS_ren : Go.Shelf.Ren := ⟨fun | 6 => 42 | 8 => 67 | 9 => 68 | 11 => 93 | 13 => 95 | 12 => 94 | 23 => 116 | 24 => 117 | 14 => 107 | 15 => 108 | 16 => 109 | 17 => 110 | 18 => 111 | 19 => 112 | 20 => 113 | 21 => 114 | 22 => 115 | 25 => 122 | 26 => 123 | 27 => 124 | 28 => 125 | 29 => 126 | 30 => 127 | 31 => 130 | n => n, fun | 26 => 9 | 28 => 93 | 24 => 22 | 0 => 0 | 3 => 3 | 37 => 129 | 48 => 171 | 50 => 102 | 4 => 4 | 40 => 164 | 39 => 163 | 45 => 168 | 5 => 5 | 9 => 9 | 51 => 177 | 55 => 180 | 57 => 187 | 58 => 188 | 33 => 124 | n => n, fun | n => n⟩
theorem Tryz.sortedS : Go.Proofs.SlLaysZ.n6 Tryz.prog Tryz.sortedS_ren := {
  mixed := by kernel_rfl
  f6 := ⟨Tryz.f42.name, by decide, Tryz.func42.trans (congrArg some (by kernel_rfl))⟩
  f8 := ⟨Tryz.f67.name, by decide, Tryz.func67.trans (congrArg some (by kernel_rfl))⟩
  f11 := ⟨Tryz.f93.name, by decide, Tryz.func93.trans (congrArg some (by kernel_rfl))⟩
  t0 := Tryz.underlying0
  a0 := Tryz.isAgg0
  z0 := Tryz.sizeOf0
  v0 := Tryz.zeroValue0
  t24 := Tryz.underlying22
  a24 := Tryz.isAgg22
  z24 := Tryz.sizeOf22
  v24 := Tryz.zeroValue22
  t26 := Tryz.underlying9
  a26 := Tryz.isAgg9
  z26 := Tryz.sizeOf9
  v26 := Tryz.zeroValue9
  t28 := Tryz.underlying93
  a28 := Tryz.isAgg93
  z28 := Tryz.sizeOf93
  v28 := Tryz.zeroValue93
  i26 := by kernel_rfl }
def Tryz.sortS_ren : Go.Shelf.Ren := ⟨fun | 6 => 68 | 8 => 95 | 9 => 94 | 19 => 116 | 20 => 117 | 21 => 107 | 22 => 108 | 23 => 109 | 24 => 110 | 25 => 111 | 26 => 112 | 27 => 113 | 28 => 114 | 29 => 115 | 36 => 122 | 31 => 123 | 32 => 124 | 37 => 125 | 38 => 126 | 39 => 127 | 41 => 130 | n => n, fun | 27 => 22 | 29 => 9 | 3 => 3 | 32 => 129 | 26 => 22 | 0 => 0 | 44 => 171 | 46 => 102 | 4 => 4 | 36 => 164 | 35 => 163 | 41 => 168 | 5 => 5 | 9 => 9 | 53 => 177 | 57 => 180 | 63 => 187 | 64 => 188 | n => n, fun | n => n⟩
theorem Tryz.sortS : Go.Proofs.SlLaysM.n6 Tryz.prog Tryz.sortS_ren := {
  mixed := by kernel_rfl
  f6 := ⟨Tryz.f68.name, by decide, Tryz.func68.trans (congrArg some (by kernel_rfl))⟩
  f8 := Tryz.func95.trans (congrArg some (by kernel_rfl))
  f9 := ⟨Tryz.f94.name, by decide, Tryz.func94.trans (congrArg some (by kernel_rfl))⟩
  f19 := Tryz.func116.trans (congrArg some (by kernel_rfl))
  f20 := Tryz.func117.trans (congrArg some (by kernel_rfl))
  f21 := ⟨Tryz.f107.name, by decide, Tryz.func107.trans (congrArg some (by kernel_rfl))⟩
  f22 := ⟨Tryz.f108.name, by decide, Tryz.func108.trans (congrArg some (by kernel_rfl))⟩
  f23 := ⟨Tryz.f109.name, by decide, Tryz.func109.trans (congrArg some (by kernel_rfl))⟩
  f24 := ⟨Tryz.f110.name, by decide, Tryz.func110.trans (congrArg some (by kernel_rfl))⟩
  f25 := ⟨Tryz.f111.name, by decide, Tryz.func111.trans (congrArg some (by kernel_rfl))⟩
  f26 := ⟨Tryz.f112.name, by decide, Tryz.func112.trans (congrArg some (by kernel_rfl))⟩
  f27 := ⟨Tryz.f113.name, by decide, Tryz.func113.trans (congrArg some (by kernel_rfl))⟩
  f28 := ⟨Tryz.f114.name, by decide, Tryz.func114.trans (congrArg some (by kernel_rfl))⟩
  f29 := ⟨Tryz.f115.name, by decide, Tryz.func115.trans (congrArg some (by kernel_rfl))⟩
  f31 := Tryz.func123.trans (congrArg some (by kernel_rfl))
  f32 := Tryz.func124.trans (congrArg some (by kernel_rfl))
  f36 := ⟨Tryz.f122.name, by decide, Tryz.func122.trans (congrArg some (by kernel_rfl))⟩
  f37 := ⟨Tryz.f125.name, by decide, Tryz.func125.trans (congrArg some (by kernel_rfl))⟩
  f38 := ⟨Tryz.f126.name, by decide, Tryz.func126.trans (congrArg some (by kernel_rfl))⟩
  f39 := ⟨Tryz.f127.name, by decide, Tryz.func127.trans (congrArg some (by kernel_rfl))⟩
  f41 := ⟨Tryz.f130.name, by decide, Tryz.func130.trans (congrArg some (by kernel_rfl))⟩
  t0 := Tryz.underlying0
  a0 := Tryz.isAgg0
  z0 := Tryz.sizeOf0
  v0 := Tryz.zeroValue0
  t3 := Tryz.underlying3
  a3 := Tryz.isAgg3
  z3 := Tryz.sizeOf3
  v3 := Tryz.zeroValue3
  t4 := Tryz.underlying4
  a4 := Tryz.isAgg4
  z4 := Tryz.sizeOf4
  v4 := Tryz.zeroValue4
  t5 := Tryz.underlying5
  a5 := Tryz.isAgg5
  z5 := Tryz.sizeOf5
  v5 := Tryz.zeroValue5
  t9 := Tryz.underlying9
  a9 := Tryz.isAgg9
  z9 := Tryz.sizeOf9
  v9 := Tryz.zeroValue9
  t26 := Tryz.underlying22
  a26 := Tryz.isAgg22
  z26 := Tryz.sizeOf22
  v26 := Tryz.zeroValue22
  t27 := Tryz.underlying22
  a27 := Tryz.isAgg22
  z27 := Tryz.sizeOf22
  v27 := Tryz.zeroValue22
  t29 := Tryz.underlying9
  a29 := Tryz.isAgg9
  z29 := Tryz.sizeOf9
  v29 := Tryz.zeroValue9
  t32 := Tryz.underlying129
  a32 := Tryz.isAgg129
  z32 := Tryz.sizeOf129
  v32 := Tryz.zeroValue129
  t35 := Tryz.underlying163
  a35 := Tryz.isAgg163
  z35 := Tryz.sizeOf163
  v35 := Tryz.zeroValue163
  t36 := Tryz.underlying164
  a36 := Tryz.isAgg164
  z36 := Tryz.sizeOf164
  v36 := Tryz.zeroValue164
  t41 := Tryz.underlying168
  a41 := Tryz.isAgg168
  z41 := Tryz.sizeOf168
  v41 := Tryz.zeroValue168
  t44 := Tryz.underlying171
  a44 := Tryz.isAgg171
  z44 := Tryz.sizeOf171
  v44 := Tryz.zeroValue171
  t46 := Tryz.underlying102
  a46 := Tryz.isAgg102
  z46 := Tryz.sizeOf102
  v46 := Tryz.zeroValue102
  t53 := Tryz.underlying177
  a53 := Tryz.isAgg177
  z53 := Tryz.sizeOf177
  v53 := Tryz.zeroValue177
  t57 := Tryz.underlying180
  a57 := Tryz.isAgg180
  z57 := Tryz.sizeOf180
  v57 := Tryz.zeroValue180
  t63 := Tryz.underlying187
  a63 := Tryz.isAgg187
  z63 := Tryz.sizeOf187
  v63 := Tryz.zeroValue187
  t64 := Tryz.underlying188
  a64 := Tryz.isAgg188
  z64 := Tryz.sizeOf188
  v64 := Tryz.zeroValue188 }
def Tryz.cloneM_ren : Go.Shelf.Ren := ⟨fun | 5 => 38 | 7 => 64 | n => n, fun | 23 => 40 | 25 => 9 | 3 => 9 | 4 => 4 | 20 => 20 | n => n, fun | n => n⟩
theorem Tryz.cloneM : Go.Proofs.SlLaysW.n5 Tryz.prog Tryz.cloneM_ren := {
  mixed := by kernel_rfl
  f5 := ⟨Tryz.f38.name, by decide, Tryz.func38.trans (congrArg some (by kernel_rfl))⟩
  f7 := Tryz.func64.trans (congrArg some (by kernel_rfl))
  t4 := Tryz.underlying4
  a4 := Tryz.isAgg4
  z4 := Tryz.sizeOf4
  v4 := Tryz.zeroValue4
  t20 := Tryz.underlying20
  a20 := Tryz.isAgg20
  z20 := Tryz.sizeOf20
  v20 := Tryz.zeroValue20
  t23 := Tryz.underlying40
  a23 := Tryz.isAgg40
  z23 := Tryz.sizeOf40
  v23 := Tryz.zeroValue40 }
end Go.Proofs
namespace Go.Proofs.YtkeopmfmlciadaaGreat
open Go.RowKit Go.Maps Go.Sort Go.Shelf

theorem sortsI (m : Nat) : AnyZI.SortsIn Tryz.prog Tryz.sortedI_ren Fence.wide m :=
  ⟨fun blk off cap ss W hH hblk hsz => callsIn_wide.2 (AnyM.slices_Sort_int Tryz.sortI blk off cap ss W hH hblk hsz),
   fun p cap W => callsIn_wide.2 (AnyM.slices_Sort_int_none Tryz.sortI p cap W)⟩

theorem keysI_any (mb : Option Nat) (w : World) :
    Calls Tryz.prog 129 #[.map mb] w fun e w' => e = .returned (.func (.func 133) #[] #[.pointer (some ⟨w.heap.size, 0, none⟩)]) ∧ w' = w.alloc (.cells #[.map mb] 80) :=
  callsIn_wide.1 (AnyZI.keys_in Tryz.keysI Fence.wide 5 trivial rfl mb w)

set_option maxRecDepth 100000 in
set_option maxHeartbeats 1000000 in
theorem sortedI_any (b : Nat) (D : DataW Value) (w : World) (h : Mp w 3 b D) (hmax : Maps.size D ≤ 1000000) :
    Calls Tryz.prog 128 #[.func (.func 133) #[] #[.pointer (some ⟨w.heap.size, 0, none⟩)]] (w.alloc (.cells #[.map (some b)] 80)) fun e w' =>
      ∃ (v : Value) (ss : List Int), e = .returned v ∧ ss.Perm (intKeys D) ∧ w'.ownsRow (w.heap.size + 1) 3 1 v ss.length ((ss.mergeSort (fun x y => decide (x ≤ y))).map encZ) ∧ Mod No (w.alloc (.cells #[.map (some b)] 80)) w' := by
  have hbl := World.ownsMap.lt h
  have hseq : SeqGives Fence.wide 2 Tryz.prog 133 #[.pointer (some ⟨w.heap.size, 0, none⟩)] encZ (fun ss => ss.Perm (intKeys D)) (Maps.size D) (w.alloc (.cells #[.map (some b)] 80)) :=
    AnyZI.keys_gives (ρ := Tryz.keysI_ren) { Tryz.keysI with } Fence.wide _ trivial rfl (by omega) w.heap.size b _ D _ (by simp) (by simp) (by
      obtain ⟨es, clock, hb, Ft, hs, hD⟩ := h
      exact ⟨es, clock, (Below.heap_alloc _ _ b hbl).trans hb, Ft, hs, hD⟩)
  have cS := AnyZI.sorted_in Tryz.sortedI Fence.wide 5 trivial trivial trivial trivial rfl (by omega) (sortsI _) (enters_of Tryz.func132 (by kernel_rfl) rfl) 133 #[.pointer (some ⟨w.heap.size, 0, none⟩)] trivial (enters_of Tryz.func133 (by kernel_rfl) rfl) _ _ (by unfold maxLen; omega) (by omega) _ hseq
  change CallsIn _ _ Tryz.prog 128 _ _ _ at cS
  refine (callsIn_wide.1 cS).mono ?_
  rintro e w' ⟨v, ss, rfl, hS, hrow, hnil, hb⟩
  refine ⟨v, ss, rfl, hS, ?_, Mod.of_below hb⟩
  have := hrow
  rw [World.size_alloc] at this
  exact this

/-- The sectors that were written, rising. -/
def dirtyList (n : Nat) (dirty : Nat → Option (List UInt8)) : List Nat := (List.range n).filter fun i => (dirty i).isSome

theorem dirty_sorted {X : Nat → Prop} {w : World} {mb n sz : Nat} {dirty : Nat → Option (List UInt8)} {D : DataW Value} (h : DirtyAt w X mb n sz dirty D) {ss : List Int} (hs : ss.Perm (intKeys D)) :
    ss.mergeSort (fun x y => decide (x ≤ y)) = (dirtyList n dirty).map fun i : Nat => (i : Int) := by
  obtain ⟨es, hD, hp⟩ := h.mp.tidy key_int
  obtain ⟨es', hD', hk⟩ := World.ownsMap.keysOf h.mp
  rw [hD] at hD'
  cases hD'
  have hkey : ∀ p ∈ es, ∃ i : Nat, i < n ∧ p.1 = .int .i64 (i : Int) := fun p hpm => by
    obtain ⟨v, hv⟩ := hk p hpm
    obtain ⟨x, _, hx, _⟩ := Maps.keyOf_int_inv Tryz.underlying3 hv
    exact h.keys p.1 (by rw [hD]; exact has_iff.2 ⟨p, hpm, by rw [hx]; exact sameKey_self_int _ _⟩)
  have hmem : ∀ x : Int, x ∈ intKeys D ↔ ∃ i : Nat, x = i ∧ i < n ∧ (dirty i).isSome = true := fun x => by
    rw [hD]
    simp only [intKeys, List.mem_map]
    constructor
    · rintro ⟨p, hpm, rfl⟩
      obtain ⟨i, hi, e⟩ := hkey p hpm
      refine ⟨i, by rw [e]; rfl, hi, ?_⟩
      cases hd : dirty i with
      | none =>
        have h1 := h.gone i hi hd
        rw [hD] at h1
        have h2 : Maps.has (.map es) (.int .i64 (i : Int)) = true := has_iff.2 ⟨p, hpm, by rw [e]; exact sameKey_self_int _ _⟩
        rw [h2] at h1
        cases h1
      | some l => rfl
    · rintro ⟨i, rfl, hi, hs⟩
      obtain ⟨l, hl⟩ := Option.isSome_iff_exists.1 hs
      obtain ⟨hh, _⟩ := h.here i l hi hl
      rw [hD] at hh
      obtain ⟨p, hpm, hsame⟩ := has_iff.1 hh
      obtain ⟨j, hj, e⟩ := hkey p hpm
      refine ⟨p, hpm, ?_⟩
      rw [e] at hsame ⊢
      show (j : Int) = i
      simpa [Lit.sameKey] using hsame
  have hnd : (intKeys D).Nodup := by
    rw [hD]
    simp only [intKeys]
    rw [List.nodup_iff_pairwise_ne, List.pairwise_map]
    refine hp.imp_of_mem fun {p q} hpm hqm hne e => hne ?_
    obtain ⟨i, _, e1⟩ := hkey p hpm
    obtain ⟨j, _, e2⟩ := hkey q hqm
    rw [e1, e2] at e ⊢
    have e3 : (i : Int) = j := e
    rw [e3]
  have hl : ((dirtyList n dirty).map fun i : Nat => (i : Int)).Pairwise (· ≤ ·) := by
    rw [List.pairwise_map]
    refine List.Pairwise.imp (R := (· < ·)) (fun h => by omega) ?_
    exact List.Pairwise.sublist List.filter_sublist List.pairwise_lt_range
  have hperm : (ss.mergeSort (fun x y => decide (x ≤ y))).Perm ((dirtyList n dirty).map fun i : Nat => (i : Int)) := by
    refine (List.mergeSort_perm _ _).trans (hs.trans ?_)
    refine (List.perm_ext_iff_of_nodup hnd ?_).2 fun x => ?_
    · rw [List.nodup_iff_pairwise_ne, List.pairwise_map]
      refine List.Pairwise.imp (R := (· < ·)) (fun h => by omega) ?_
      exact List.Pairwise.sublist List.filter_sublist List.pairwise_lt_range
    · rw [hmem]
      simp only [dirtyList, List.mem_map, List.mem_filter, List.mem_range]
      constructor
      · rintro ⟨i, rfl, h1, h2⟩; exact ⟨i, ⟨h1, h2⟩, rfl⟩
      · rintro ⟨i, ⟨h1, h2⟩, rfl⟩; exact ⟨i, rfl, h1, h2⟩
  have hsort : (ss.mergeSort (fun x y => decide (x ≤ y))).Pairwise (· ≤ ·) := by
    have := List.pairwise_mergeSort (le := fun x y : Int => decide (x ≤ y)) (fun a b c h1 h2 => by simp at *; omega) (fun a b => by simp; omega) ss
    exact this.imp fun h => by simpa using h
  exact List.Perm.eq_of_pairwise (fun a b _ _ h1 h2 => by omega) hsort hl hperm

end Go.Proofs.YtkeopmfmlciadaaGreat
namespace Go.Proofs.YtkeopmfmlciadaaGreat
open Go.RowKit Go.Maps

/-- How many written sectors lie ahead of one. -/
def rank (dirty : Nat → Option (List UInt8)) (i : Nat) : Nat := (dirtyList i dirty).length

/-- The sure sectors, when those of the first k written ones are settled. -/
def settleTo (g : Nat → List UInt8 → List UInt8 → List UInt8) (sure : Nat → List UInt8) (dirty : Nat → Option (List UInt8)) (k : Nat) (i : Nat) : List UInt8 :=
  match dirty i with
  | some l => if rank dirty i < k then g (rank dirty i) (sure i) l else sure i
  | none => sure i

def Dk.settle (d : Dk) (g : Nat → List UInt8 → List UInt8 → List UInt8) : Dk :=
  { d with sure := fun i => match d.dirty i with | some l => g (rank d.dirty i) (d.sure i) l | none => d.sure i, dirty := fun _ => none }

theorem dirtyList_succ (n : Nat) (dirty : Nat → Option (List UInt8)) : dirtyList (n + 1) dirty = dirtyList n dirty ++ if (dirty n).isSome then [n] else [] := by
  unfold dirtyList
  rw [List.range_succ, List.filter_append]
  by_cases h : (dirty n).isSome = true <;> simp [h]

theorem rank_lt {dirty : Nat → Option (List UInt8)} {i n : Nat} (h : i < n) (hs : (dirty i).isSome = true) : rank dirty i < (dirtyList n dirty).length := by
  induction n with
  | zero => omega
  | succ n ih =>
    rw [dirtyList_succ, List.length_append]
    by_cases e : i = n
    · subst e; simp [rank, hs]
    · have := ih (by omega); omega

theorem rank_at {dirty : Nat → Option (List UInt8)} {n k i : Nat} (h : (dirtyList n dirty)[k]? = some i) : i < n ∧ (dirty i).isSome = true ∧ rank dirty i = k := by
  induction n with
  | zero => simp [dirtyList] at h
  | succ n ih =>
    rw [dirtyList_succ] at h
    rcases Nat.lt_or_ge k (dirtyList n dirty).length with hk | hk
    · rw [List.getElem?_append_left hk] at h
      obtain ⟨h1, h2, h3⟩ := ih h
      exact ⟨by omega, h2, h3⟩
    · rw [List.getElem?_append_right hk] at h
      by_cases hs : (dirty n).isSome = true
      · simp only [hs, if_true] at h
        have hk2 : k - (dirtyList n dirty).length = 0 := by
          rcases Nat.eq_zero_or_pos (k - (dirtyList n dirty).length) with h0 | h0
          · exact h0
          · rw [List.getElem?_eq_none (by simp; omega)] at h; cases h
        rw [hk2] at h
        simp at h
        subst h
        exact ⟨by omega, hs, by unfold rank; omega⟩
      · simp [hs] at h

theorem rank_inj {dirty : Nat → Option (List UInt8)} {i j : Nat} (hi : (dirty i).isSome = true) (hj : (dirty j).isSome = true) (h : rank dirty i = rank dirty j) : i = j := by
  rcases Nat.lt_trichotomy i j with h1 | h1 | h1
  · have := rank_lt h1 hi; unfold rank at *; omega
  · exact h1
  · have := rank_lt h1 hj; unfold rank at *; omega

theorem settleTo_zero (g : Nat → List UInt8 → List UInt8 → List UInt8) (sure : Nat → List UInt8) (dirty : Nat → Option (List UInt8)) (i : Nat) : settleTo g sure dirty 0 i = sure i := by
  unfold settleTo; split <;> simp
theorem settleTo_succ (g : Nat → List UInt8 → List UInt8 → List UInt8) (sure : Nat → List UInt8) (dirty : Nat → Option (List UInt8)) {k i : Nat} {l : List UInt8} (hd : dirty i = some l) (hr : rank dirty i = k) (j : Nat) :
    settleTo g sure dirty (k + 1) j = if j = i then g k (sure i) l else settleTo g sure dirty k j := by
  unfold settleTo
  by_cases e : j = i
  · subst e; simp [hd, hr]
  · simp only [if_neg e]
    cases hj : dirty j with
    | none => rfl
    | some l' =>
      have : rank dirty j ≠ k := fun h => e (rank_inj (by simp [hj]) (by simp [hd]) (h.trans hr.symm))
      simp only
      by_cases h : rank dirty j < k
      · rw [if_pos h, if_pos (by omega)]
      · rw [if_neg h, if_neg (by omega)]
theorem settleTo_all (g : Nat → List UInt8 → List UInt8 → List UInt8) (sure : Nat → List UInt8) (dirty : Nat → Option (List UInt8)) {n i : Nat} (h : i < n) :
    settleTo g sure dirty (dirtyList n dirty).length i = match dirty i with | some l => g (rank dirty i) (sure i) l | none => sure i := by
  unfold settleTo
  cases hd : dirty i with
  | none => rfl
  | some l => simp only; rw [if_pos (rank_lt h (by simp [hd]))]

/-- The written sectors' numbers, as the program sorts them. -/
theorem sortedD_any {X : Nat → Prop} {w : World} {mb n sz : Nat} {dirty : Nat → Option (List UInt8)} {D : DataW Value} (h : DirtyAt w X mb n sz dirty D) (hn : n ≤ 4096) :
    Calls Tryz.prog 128 #[.func (.func 133) #[] #[.pointer (some ⟨w.heap.size, 0, none⟩)]] (w.alloc (.cells #[.map (some mb)] 80)) fun e w' =>
      ∃ ka kc, e = .returned (.slice ka (dirtyList n dirty).length kc) ∧ w'.ownsRow (w.heap.size + 1) 3 1 (.slice ka (dirtyList n dirty).length kc) (dirtyList n dirty).length ((dirtyList n dirty).map fun i : Nat => .int .i64 (i : Int)) ∧ Mod No (w.alloc (.cells #[.map (some mb)] 80)) w' := by
  have hsz := h.size
  refine (sortedI_any mb D w h.mp (by omega)).mono ?_
  rintro e w' ⟨v, ss, rfl, hS, hrow, hm⟩
  have hL := dirty_sorted h hS
  have hlen : ss.length = (dirtyList n dirty).length := by rw [← List.length_mergeSort (le := fun x y => decide (x ≤ y)) ss, hL, List.length_map]
  rw [hL, hlen] at hrow
  obtain ⟨ka, kc, rfl⟩ := own_len hrow
  refine ⟨ka, kc, rfl, ?_, hm⟩
  simpa [List.map_map, Function.comp_def] using hrow

/-- Settle's loop, behind k keys. -/
structure SetInv (w0 wr : World) (X : Nat → Prop) (sb : Nat) (d : Dk) (g : Nat → List UInt8 → List UInt8 → List UInt8) (k : Nat) : Prop where
  sure : ∃ cur, SureAt wr X sb d.n d.sz (settleTo g d.sure d.dirty k) cur
  mod : Mod (· = sb) w0 wr


/-- What settle asks of its closure. -/
def settleFAsks (w0 : World) (X : Nat → Prop) (sb sz : Nat) (g : Nat → List UInt8 → List UInt8 → List UInt8) : Prop :=
  ∀ (k : Nat) (vs vl : Value) (s l : List UInt8) (W : World), k ≤ 4096 → Mod (· = sb) w0 W → Sl W X 5 vs sz (bv s) → Sl W X 5 vl sz (bv l) → s.length = sz → l.length = sz →
    Calls Tryz.prog 121 #[.int .i64 (k : Int), vs, vl] W fun e w' => ∃ v, e = .returned v ∧ Sl w' X 5 v sz (bv (g k s l)) ∧ Mod No W w'

set_option maxRecDepth 100000 in
set_option maxHeartbeats 4000000 in
theorem settleF (X : Nat → Prop) (b sb mb : Nat) (d : Dk) (g : Nat → List UInt8 → List UInt8 → List UInt8) (w : World) (h : DkAt w X b sb mb d)
    (hC : settleFAsks w X sb d.sz g) (hG : ∀ k s l, s.length = d.sz → l.length = d.sz → (g k s l).length = d.sz) :
    Calls Tryz.prog 120 #[.pointer (some ⟨b, 0, none⟩), .func (.func 121) #[] #[]] w fun e w' => e = .returned (.tuple #[]) ∧ DkAt w' X b sb mb (d.settle g) ∧ Mod (fun q => q = sb ∨ q = mb) w w' := by
  obtain ⟨hn1, hn2, hn3⟩ := h.mb_ne
  obtain ⟨sc, ho, hsc1, hsc2⟩ := h.obj
  obtain ⟨D, hD⟩ := h.dirty
  have c0 := cell_of (i := 0) ho rfl
  have c1 := cell_of (i := 1) ho rfl
  have hDsz := hD.size
  have hn2' : d.n ≤ 4096 := h.n2
  have HK := Lib.hid (keysI_any (some mb) w)
  have HC := Lib.hid hC
  have HG := Lib.hid hG
  have HH := Lib.hid h
  have HD := Lib.hid hD
  have HO := Lib.hid ho
  have N1 := Lib.hid hn1
  have N2 := Lib.hid hn2
  have N3 := Lib.hid hn3
  obtain ⟨L, hLd⟩ : ∃ L, L = dirtyList d.n d.dirty := ⟨_, rfl⟩
  have hLlen : L.length ≤ 4096 := by
    have := List.length_filter_le (fun i => (d.dirty i).isSome) (List.range d.n)
    rw [hLd]; unfold dirtyList; simp at this; omega
  have HL := Lib.hid hLd
  clear h hD ho hC hG hn1 hn2 hn3 hsc1 hsc2 hLd
  have HS := Lib.hid (sortedD_any HD.out hn2')
  rw [← HL.out] at HS
  refine calls_hide fun R hR => ?_
  go_enter Tryz.func120, Tryz.ntmps120
  go_wp2_with (first | (go_at_call 129; refine HK.out.mono ?_; rintro e w' ⟨rfl, rfl⟩) | (go_at_call 128; refine HS.out.mono ?_; rintro e w1 ⟨ka, kc, rfl, hrow, hm1⟩; have HR := Lib.hid hrow; have M1 := Lib.hid (((Mod.refl No w).alloc _).trans hm1); clear hrow hm1))
  have hk0 : ∀ q : Nat, (0 : Int) ≤ (q : Int) := fun q => Int.natCast_nonneg q
  go_loopw [13] (fun i wr => ∃ k : Nat, k ≤ L.length ∧ i = .int .i64 k ∧ SetInv w1 wr X sb d g k) (fun i _ => L.length - (intOf i).toNat)
  case atStart =>
    obtain ⟨cur, hc⟩ := HH.out.sure
    refine ⟨0, Nat.zero_le _, rfl, ⟨cur, ?_⟩, Mod.refl _ _⟩
    have hc1 := hc.keep M1.out (fun f => f) (beside_no _ _)
    exact ⟨hc1.heap, hc1.len, fun i hi => by rw [settleTo_zero]; exact hc1.cell i hi⟩
  case round =>
    obtain ⟨k, hk, rfl, ⟨cur, hcur⟩, hmod⟩ := hrel
    by_cases hlt : k < L.length
    · obtain ⟨kb, hka⟩ : ∃ kb, ka = some ⟨kb, 0, none⟩ ∧ w.heap.size + 1 ≤ kb := by
        obtain ⟨g', cap, hv, hg'⟩ := own_shape HR.out (by omega)
        cases hv
        exact ⟨g', rfl, hg'⟩
      obtain ⟨hka, hkb⟩ := hka
      subst hka
      obtain ⟨i, hi⟩ : ∃ i, L[k]? = some i := ⟨L[k], by simp [hlt]⟩
      have hi' : (dirtyList d.n d.dirty)[k]? = some i := by rw [← HL.out]; exact hi
      obtain ⟨hin, hsome, hrank⟩ := rank_at hi'
      obtain ⟨l, hl⟩ := Option.isSome_iff_exists.1 hsome
      have hmA : Mod (· = sb) w wr := (M1.out.weaken fun _ _ f => f.elim).trans hmod
      have hbs : Beside w X (· = sb) := fun q hq => .inr fun cur fz e => by
        obtain ⟨cur', hc'⟩ := HH.out.sure
        have := hc'.heap
        subst hq; rw [this] at e; cases e
      have hDr : DirtyAt wr X mb d.n d.sz d.dirty D := HD.out.keep hmA (fun e => N3.out e.symm) hbs
      obtain ⟨hhas, vl, hat, hvl⟩ := hDr.here i l hin hl
      obtain ⟨vs, hvs, hsl⟩ := hcur.cell i hin
      have hsi : settleTo g d.sure d.dirty k i = d.sure i := by unfold settleTo; simp [hl, hrank]
      rw [hsi] at hsl
      have ck : wr.cell? ⟨kb, k, none⟩ = some (.int .i64 (i : Int)) := by
        have h1 := HR.out.cells (g := kb) rfl k (.int .i64 (i : Int)) (by simp [hi])
        simp only [Addr.add_lit, Nat.zero_add] at h1
        refine hmod.cell h1 (fun e => ?_)
        have h2 := lt_of_heap HO.out
        obtain ⟨cur', hc'⟩ := HH.out.sure
        have h3 := lt_of_heap hc'.heap
        have e' : kb = sb := e
        omega
      have d0 := hmA.cell c0 (fun e => N1.out e)
      have d1 := hmA.cell c1 (fun e => N1.out e)
      have ds := cell_ofA hcur.heap hvs
      have fs := frozen_of i hcur.heap
      have hkey := keyOf_nat i (by omega)
      have hlook := hDr.mp.get_hit key_int Tryz.underlying80 (zero_bs wr) hkey hat
      have hi0 : (0 : Int) ≤ (i : Int) := Int.natCast_nonneg _
      have hi1 : (i : Int) < (d.n : Int) := by omega
      have hk1 : (k : Int) < (L.length : Int) := by omega
      have CUR := Lib.hid hcur
      have MA := Lib.hid hmA
      have MO := Lib.hid hmod
      have DR := Lib.hid hDr
      have VL := Lib.hid hvl
      have VS := Lib.hid hsl
      have HI := Lib.hid hi
      have RK := Lib.hid hrank
      have DL := Lib.hid hl
      have HKY := Lib.hid hkey
      have HAT := Lib.hid hat
      have hsz0 : 0 < d.sz := by have := HH.out.s1; omega
      clear hcur hmA hmod hDr hvl hsl hi hi' hrank hl hkey hsome hhas hat hvs hsi hbs
      go_wp2_with fail
      have hS0 : wr.drew.cell? ⟨b, 0, none⟩ = some (.slice (some ⟨sb, 0, none⟩) d.n sc) ∧ wr.drew.cell? ⟨b, 1, none⟩ = some (.map (some mb)) ∧ wr.drew.cell? ⟨sb, i, none⟩ = some vs ∧ (Instr.lookup 80 (.map (some mb)) (.int .i64 (i : Int)) false).run Tryz.prog wr.drew = .ok vl wr.drew :=
        ⟨d0, d1, ds, (DR.out.mp.keep (S := No) (Mod.refl No wr).drew (fun f => f)).get_hit key_int Tryz.underlying80 (zero_bs _) HKY.out HAT.out⟩
      refine wp_region_T (fun w' => w'.cell? ⟨b, 0, none⟩ = some (.slice (some ⟨sb, 0, none⟩) d.n sc) ∧ w'.cell? ⟨b, 1, none⟩ = some (.map (some mb)) ∧ w'.cell? ⟨sb, i, none⟩ = some vs ∧ (Instr.lookup 80 (.map (some mb)) (.int .i64 (i : Int)) false).run Tryz.prog w' = .ok vl w') 22 (by kernel_rfl) ?_
      refine wpAnyT_take 0 (some 18) ?_ rfl rfl (by kernel_rfl) (fun _ _ _ h => h) hS0 (Or.inl ⟨by rfl, ?_⟩) ?_
      rotate_left
      · (intro w' hSw; (try dsimp only at hSw); go_simp; try with_reducible rfl)
      simp only [Act.put, List.setIfInBounds_toArray, List.set_cons_zero, List.set_cons_succ]
      refine wpAnyT_take 1 (some 19) ?_ rfl rfl (by kernel_rfl) (fun _ _ _ h => h) hS0 (Or.inl ⟨by rfl, ?_⟩) ?_
      rotate_left
      · (intro w' hSw; (try dsimp only at hSw); go_simp; try with_reducible rfl)
      simp only [Act.put, List.setIfInBounds_toArray, List.set_cons_zero, List.set_cons_succ]
      refine wpAnyT_take 2 (some 20) ?_ rfl rfl (by kernel_rfl) (fun _ _ _ h => h) hS0 (Or.inl ⟨by rfl, ?_⟩) ?_
      rotate_left
      · (intro w' hSw; (try dsimp only at hSw); go_simp; try with_reducible rfl)
      simp only [Act.put, List.setIfInBounds_toArray, List.set_cons_zero, List.set_cons_succ]
      refine wpAnyT_take 3 (some 21) ?_ rfl rfl (by kernel_rfl) (fun _ _ _ h => h) hS0 (Or.inl ⟨by rfl, ?_⟩) ?_
      rotate_left
      · (intro w' hSw; (try dsimp only at hSw); go_simp; try with_reducible rfl)
      simp only [Act.put, List.setIfInBounds_toArray, List.set_cons_zero, List.set_cons_succ]
      refine wpAnyT_take 4 (some 22) ?_ rfl rfl (by kernel_rfl) (fun _ _ _ h => h) hS0 (Or.inl ⟨by rfl, ?_⟩) ?_
      rotate_left
      · (intro w' hSw; (try dsimp only at hSw); go_simp; try with_reducible rfl)
      simp only [Act.put, List.setIfInBounds_toArray, List.set_cons_zero, List.set_cons_succ]
      refine wpAnyT_take 5 (some 23) ?_ rfl rfl (by kernel_rfl) (fun _ _ _ h => h) hS0 (Or.inl ⟨by rfl, ?_⟩) ?_
      rotate_left
      · (intro w' hSw; (try dsimp only at hSw); go_simp; try with_reducible rfl)
      simp only [Act.put, List.setIfInBounds_toArray, List.set_cons_zero, List.set_cons_succ]
      refine wpAnyT_take 6 (some 24) ?_ rfl rfl (by kernel_rfl) (fun _ _ _ h => h) hS0 (Or.inl ⟨by rfl, ?_⟩) ?_
      rotate_left
      · (intro w' hSw; (try dsimp only at hSw); go_simp; try with_reducible rfl)
      simp only [Act.put, List.setIfInBounds_toArray, List.set_cons_zero, List.set_cons_succ]
      refine wpAnyT_take 7 (some 25) ?_ rfl rfl (by kernel_rfl) (fun _ _ _ h => h) hS0 (Or.inl ⟨by rfl, ?_⟩) ?_
      rotate_left
      · (intro w' hSw; (try dsimp only at hSw); go_simp; try with_reducible rfl)
      simp only [Act.put, List.setIfInBounds_toArray, List.set_cons_zero, List.set_cons_succ]
      refine wpAnyT_take 8 (some 26) ?_ rfl rfl (by kernel_rfl) (fun _ _ _ h => h) hS0 (Or.inl ⟨by rfl, ?_⟩) ?_
      rotate_left
      · (intro w' hSw; (try dsimp only at hSw); go_simp; try with_reducible rfl)
      simp only [Act.put, List.setIfInBounds_toArray, List.set_cons_zero, List.set_cons_succ]
      refine wpAnyT_take 9 (some 27) ?_ rfl rfl (by kernel_rfl) (fun _ _ _ h => h) hS0 (Or.inl ⟨by rfl, ?_⟩) ?_
      rotate_left
      · (intro w' hSw; (try dsimp only at hSw); go_simp; try with_reducible rfl)
      simp only [Act.put, List.setIfInBounds_toArray, List.set_cons_zero, List.set_cons_succ]
      refine wpAnyT_take 10 (some 28) ?_ rfl rfl (by kernel_rfl) (fun _ _ _ h => h) hS0 (Or.inl ⟨by rfl, ?_⟩) ?_
      rotate_left
      · (intro w' hSw; (try dsimp only at hSw); go_simp; try with_reducible rfl)
      simp only [Act.put, List.setIfInBounds_toArray, List.set_cons_zero, List.set_cons_succ]
      refine wpAnyT_take 11 (some 29) ?_ rfl rfl (by kernel_rfl) (fun _ _ _ h => h) hS0 (Or.inl ⟨by rfl, ?_⟩) ?_
      rotate_left
      · (intro w' hSw; (try dsimp only at hSw); go_simp; try with_reducible rfl)
      simp only [Act.put, List.setIfInBounds_toArray, List.set_cons_zero, List.set_cons_succ]
      refine wpAnyT_take 12 (some 30) ?_ rfl rfl (by kernel_rfl) (fun _ _ _ h => h) hS0 (Or.inl ⟨by rfl, ?_⟩) ?_
      rotate_left
      · (intro w' hSw; (try dsimp only at hSw); go_simp; try with_reducible rfl)
      simp only [Act.put, List.setIfInBounds_toArray, List.set_cons_zero, List.set_cons_succ]
      refine wpAnyT_take 13 (some 31) ?_ rfl rfl (by kernel_rfl) (fun _ _ _ h => h) hS0 (Or.inl ⟨by rfl, ?_⟩) ?_
      rotate_left
      · (intro w' hSw; (try dsimp only at hSw); go_simp; try with_reducible rfl)
      simp only [Act.put, List.setIfInBounds_toArray, List.set_cons_zero, List.set_cons_succ]
      refine wpAnyT_take 14 (some 32) ?_ rfl rfl (by kernel_rfl) (fun _ _ _ h => h) hS0 (Or.inl ⟨by rfl, ?_⟩) ?_
      rotate_left
      · (intro w' hSw; (try dsimp only at hSw); go_simp; try with_reducible rfl)
      simp only [Act.put, List.setIfInBounds_toArray, List.set_cons_zero, List.set_cons_succ]
      refine wpAnyT_take 15 (some 33) ?_ rfl rfl (by kernel_rfl) (fun _ _ _ h => h) hS0 (Or.inl ⟨by rfl, ?_⟩) ?_
      rotate_left
      · (intro w' hSw; (try dsimp only at hSw); go_simp; try with_reducible rfl)
      simp only [Act.put, List.setIfInBounds_toArray, List.set_cons_zero, List.set_cons_succ]
      refine wpAnyT_take 16 (some 34) ?_ rfl rfl (by kernel_rfl) (fun _ _ _ h => h) hS0 (Or.inl ⟨by rfl, ?_⟩) ?_
      rotate_left
      · (intro w' hSw; (try dsimp only at hSw); go_simp; try with_reducible rfl)
      simp only [Act.put, List.setIfInBounds_toArray, List.set_cons_zero, List.set_cons_succ]
      refine wpAnyT_take 17 (some 35) ?_ rfl rfl (by kernel_rfl) (fun _ _ _ h => h) hS0 (Or.inl ⟨by rfl, ?_⟩) ?_
      rotate_left
      · (intro w' hSw; (try dsimp only at hSw); go_simp; try with_reducible rfl)
      simp only [Act.put, List.setIfInBounds_toArray, List.set_cons_zero, List.set_cons_succ]
      refine wpAnyT_take 18 (some 36) ?_ rfl rfl (by kernel_rfl) (fun _ _ _ h => h) hS0 (Or.inl ⟨by rfl, ?_⟩) ?_
      rotate_left
      · (intro w' hSw; (try dsimp only at hSw); go_simp; try with_reducible rfl)
      simp only [Act.put, List.setIfInBounds_toArray, List.set_cons_zero, List.set_cons_succ]
      refine wpAnyT_take 19 (some 37) ?_ rfl rfl (by kernel_rfl) (fun _ _ _ h => h) hS0 (Or.inl ⟨by rfl, ?_⟩) ?_
      rotate_left
      · (intro w' hSw; (try dsimp only at hSw); go_simp; try with_reducible rfl)
      simp only [Act.put, List.setIfInBounds_toArray, List.set_cons_zero, List.set_cons_succ]
      refine wpAnyT_one 20 rfl (by kernel_rfl) rfl ?_
      intro K hK
      go_simp
      refine (HC.out k vs vl (d.sure i) l _ (by omega) (MA.out.drew) (VS.out.keep (S := No) (Mod.refl No wr).drew (fun _ _ _ f => f.elim)) (VL.out.keep (S := No) (Mod.refl No wr).drew (fun _ _ _ f => f.elim)) (HH.out.lenS i hin) (HH.out.lenD i l hin DL.out)).mono ?_
      rintro e w4 ⟨v, rfl, hv, hm4⟩
      obtain ⟨vb, vo, vc, rfl, _⟩ := hv.shape hsz0
      have e0 := hm4.cell (show wr.drew.cell? _ = _ from d0) (fun f => f)
      have e1 := hm4.cell (show wr.drew.cell? _ = _ from d1) (fun f => f)
      have es := hm4.cell (show wr.drew.cell? _ = _ from ds) (fun f => f)
      have h4 := hm4.keep (show wr.drew.heap[sb]? = _ from CUR.out.heap) (fun f => f)
      have fs4 := frozen_of i h4
      have hS4 : w4.cell? ⟨b, 0, none⟩ = some (.slice (some ⟨sb, 0, none⟩) d.n sc) ∧ w4.cell? ⟨b, 1, none⟩ = some (.map (some mb)) ∧ w4.cell? ⟨sb, i, none⟩ = some vs ∧ (Instr.lookup 80 (.map (some mb)) (.int .i64 (i : Int)) false).run Tryz.prog w4 = .ok vl w4 := ⟨e0, e1, es, ((DR.out.mp.keep (S := No) (Mod.refl No wr).drew (fun f => f)).keep hm4 (fun f => f)).get_hit key_int Tryz.underlying80 (zero_bs _) HKY.out HAT.out⟩
      have HV := Lib.hid hv
      have M4 := Lib.hid hm4
      have H4 := Lib.hid h4
      clear hv hm4 h4
      show K _ _
      refine hK.out _ _ (fun _ => hS4) ?_
      clear hK K
      refine wpAnyT_one 21 rfl (by kernel_rfl) rfl ?_
      intro K hK
      go_simp
      show K _ _
      refine hK.out _ _ (fun _ => hS4) ?_
      clear hK K
      refine wpAnyT_one 22 rfl (by kernel_rfl) rfl ?_
      intro K hK
      go_simp
      show K _ _
      refine hK.out _ _ (fun h => absurd rfl h) ?_
      clear hK K
      refine wpAnyT_done (by kernel_rfl) ?_ _
      go_wp2
      refine ⟨⟨k + 1, by omega, by go_num, ?_⟩, by simp [intOf]; omega⟩
      have hmS : Mod (· = sb) wr (w4.setCell ⟨sb, i, none⟩ (.slice (some ⟨vb, vo, none⟩) d.sz vc)) := ((Mod.refl (· = sb) wr).drew.trans (M4.out.weaken fun _ _ f => f.elim)).setCell (fun _ => rfl) _
      have hbs : ∀ cur fz, wr.heap[sb]? ≠ some (.cells cur 5 fz) := fun cur' fz e => by rw [CUR.out.heap] at e; cases e
      have hcl : i < cur.size := by have := CUR.out.len; omega
      refine ⟨⟨cur.setIfInBounds i (.slice (some ⟨vb, vo, none⟩) d.sz vc), heap_setCell H4.out _, by rw [Array.size_setIfInBounds]; exact CUR.out.len, fun j hj => ?_⟩, MO.out.trans hmS⟩
      rw [settleTo_succ g d.sure d.dirty DL.out RK.out]
      by_cases e : j = i
      · subst e
        rw [if_pos rfl]
        refine ⟨_, by rw [Array.getElem?_setIfInBounds_self_of_lt hcl], ?_⟩
        have h1 := HV.out
        have hmX : Mod (· = sb) w4 (w4.setCell ⟨sb, j, none⟩ (.slice (some ⟨vb, vo, none⟩) d.sz vc)) := (Mod.refl (· = sb) w4).setCell (fun _ => rfl) _
        refine h1.keep hmX fun q cur' fz hq _ e => ?_
        subst hq; rw [H4.out] at e; cases e
      · rw [if_neg e]
        obtain ⟨u, hu, hs⟩ := CUR.out.cell j hj
        exact ⟨u, by rw [Array.getElem?_setIfInBounds_ne (Ne.symm e)]; exact hu, hs.beside hmS fun q hq => .inr fun cur' fz => by subst hq; exact hbs cur' fz⟩
    · have hkL : k = L.length := by omega
      subst hkL
      have hmA : Mod (· = sb) w wr := (M1.out.weaken fun _ _ f => f.elim).trans hmod
      have hbs : Beside w X (· = sb) := fun q hq => .inr fun cur' fz e => by
        obtain ⟨cur', hc'⟩ := HH.out.sure
        have := hc'.heap
        subst hq; rw [this] at e; cases e
      have hDr : DirtyAt wr X mb d.n d.sz d.dirty D := HD.out.keep hmA (fun e => N3.out e.symm) hbs
      obtain ⟨w5, hclr, hmp5, hm5, _⟩ := hDr.mp.clear Tryz.underlying80
      have d1 := hmA.cell c1 (fun e => N1.out e)
      have CUR := Lib.hid hcur
      have MA := Lib.hid hmA
      have DR := Lib.hid hDr
      have MP5 := Lib.hid hmp5
      have M5 := Lib.hid hm5
      clear hcur hmA hmod hDr hmp5 hm5 hbs
      go_wp2
      go_end0
      have hobj := MA.out.keep HO.out N1.out
      have hb5 : Beside wr X (· = mb) := fun q hq => .inr fun cur' fz e => by
        obtain ⟨es, clock, hh⟩ := DR.out.mp.heap
        subst hq; rw [hh] at e; cases e
      obtain ⟨sc', ho', r1, r2⟩ := HH.out.obj
      rw [HO.out] at ho'
      cases ho'
      have hsure : SureAt w5 X sb d.n d.sz (d.settle g).sure cur := by
        have h5 := CUR.out.keep M5.out N3.out hb5
        refine ⟨h5.heap, h5.len, fun i hi => ?_⟩
        have := h5.cell i hi
        rw [HL.out, settleTo_all g d.sure d.dirty hi] at this
        exact this
      refine fin hR ⟨rfl, ⟨⟨sc, M5.out.keep hobj N2.out, r1, r2⟩, ⟨cur, hsure⟩, ⟨.map [], MP5.out, (fun kl h => by simp [Maps.has_eq] at h), (fun _ _ _ => by simp [Maps.has_eq]), (fun _ _ _ h => by cases h)⟩, (fun i hi => ?_), (fun _ _ _ h => by cases h), HH.out.n1, HH.out.n2, HH.out.s1, HH.out.s2, HH.out.c1, HH.out.c2⟩, ?_⟩
      · show (match d.dirty i with | some l => g (rank d.dirty i) (d.sure i) l | none => d.sure i).length = d.sz
        cases hd : d.dirty i with
        | none => exact HH.out.lenS i hi
        | some l => exact HG.out _ _ _ (HH.out.lenS i hi) (HH.out.lenD i l hi hd)
      · exact (MA.out.weaken fun _ _ e => .inl e).trans (M5.out.weaken fun _ _ e => .inr e)

end Go.Proofs.YtkeopmfmlciadaaGreat
namespace Go.Proofs.YtkeopmfmlciadaaGreat
open Go.RowKit Go.Maps

def Own3 (b sb mb : Nat) : Nat → Prop := fun k => k = b ∨ k = sb ∨ k = mb

/-- What Flush answers, and what the disk is behind it. -/
def Dk.flushE (d : Dk) : Int := if d.dead = true ∨ d.cut = 0 then 32 else 0
def Dk.flush (d : Dk) : Dk := if d.dead = true then d else if d.cut = 0 then d.power else d.power.settle fun _ _ l => l

theorem DkAt.obj_eq {X : Nat → Prop} {w : World} {b sb mb : Nat} {d : Dk} (h : DkAt w X b sb mb d) {w' : World} {cut : Int} {dead : Bool} {sc : Nat}
    (ho : w.heap[b]? = some (.cells #[.slice (some ⟨sb, 0, none⟩) d.n sc, .map (some mb), .int .i64 d.cut, .bool d.dead] 84 (0, 0)))
    (h' : w'.heap[b]? = some (.cells #[.slice (some ⟨sb, 0, none⟩) d.n sc, .map (some mb), .int .i64 cut, .bool dead] 84 (0, 0)))
    (hm : Mod (· = b) w w') (h1 : -1 ≤ cut) (h2 : cut ≤ 9223372036854775807) : DkAt w' X b sb mb { d with cut := cut, dead := dead } :=
  h.turned hm h1 h2 fun sc' ho' => by
    rw [ho] at ho'
    cases ho'
    exact h'

theorem flush_asks (w0 : World) (X : Nat → Prop) (sb sz : Nat) : settleFAsks w0 X sb sz fun _ _ l => l := by
  intro k vs vl s l W _ _ _ hl _ _
  have HL := Lib.hid hl
  clear hl
  refine calls_hide fun R hR => ?_
  go_enter Tryz.func121, Tryz.ntmps121
  go_wp2
  exact fin hR ⟨vl, rfl, HL.out, Mod.refl _ _⟩

set_option maxRecDepth 100000 in
set_option maxHeartbeats 800000 in
theorem flush_any (X : Nat → Prop) (b sb mb : Nat) (d : Dk) (w : World) (h : DkAt w X b sb mb d) :
    Calls Tryz.prog 105 #[.pointer (some ⟨b, 0, none⟩)] w fun e w' => e = .returned (.int .i64 d.flushE) ∧ DkAt w' X b sb mb d.flush ∧ Mod (Own3 b sb mb) w w' := by
  obtain ⟨sc, ho, hsc1, hsc2⟩ := h.obj
  have c3 := cell_of (i := 3) ho rfl
  refine calls_hide fun R hR => ?_
  cases hd : d.dead with
  | true =>
    have HD := Lib.hid h
    have Hd := Lib.hid hd
    rw [hd] at c3
    clear ho h hd
    go_enter Tryz.func105, Tryz.ntmps105
    go_wp2
    refine fin hR ⟨by simp [Dk.flushE, Hd.out], ?_, Mod.refl _ _⟩
    simp only [Dk.flush, Hd.out, if_true]
    exact HD.out
  | false =>
    have HP := Lib.hid (powered_any b _ _ d.cut d.dead w h.c1 h.c2 ho)
    have HD := Lib.hid h
    have Hd := Lib.hid hd
    have HO := Lib.hid ho
    rw [hd] at c3
    by_cases hcut : d.cut = 0
    · rw [if_pos hcut] at HP
      have Hc := Lib.hid hcut
      clear ho h hd hcut
      go_enter Tryz.func105, Tryz.ntmps105
      go_wp2_with (go_at_call 119; refine HP.out.mono ?_; rintro e w1 ⟨rfl, hb1, hm1, hz1⟩; have HB := Lib.hid hb1; have HM := Lib.hid hm1; clear hb1 hm1 hz1)
      refine fin hR ⟨by simp [Dk.flushE, Hc.out], ?_, HM.out.weaken fun _ _ e => .inl e⟩
      have h1 := HD.out.obj_eq HO.out HB.out HM.out (by have := HD.out.c1; split <;> omega) (by have := HD.out.c2; split <;> omega)
      simp only [Dk.flush, Hd.out, Hc.out, if_true, Bool.false_eq_true, if_false]
      exact h1
    · rw [if_neg hcut] at HP
      have Hc := Lib.hid hcut
      clear ho h hd hcut
      go_enter Tryz.func105, Tryz.ntmps105
      go_wp2_with (first | (go_at_call 119; refine HP.out.mono ?_; rintro e w1 ⟨rfl, hb1, hm1, hz1⟩; have HB := Lib.hid hb1; have HM := Lib.hid hm1; have HD1 := Lib.hid (HD.out.obj_eq HO.out hb1 hm1 (by have := HD.out.c1; split <;> omega) (by have := HD.out.c2; split <;> omega)); clear hb1 hm1 hz1) | (go_at_call 120; refine (settleF X b sb mb _ (fun _ _ l => l) _ HD1.out (flush_asks _ _ _ _) (fun _ _ _ _ h => h)).mono ?_; rintro e w2 ⟨rfl, hd2, hm2⟩; have HD2 := Lib.hid hd2; have HM2 := Lib.hid hm2; clear hd2 hm2))
      refine fin hR ⟨by simp [Dk.flushE, Hc.out, Hd.out], ?_, (HM.out.weaken fun _ _ e => .inl e).trans (HM2.out.weaken fun _ _ e => .inr e)⟩
      have h2 := HD2.out
      simp only [Dk.flush, Hd.out, Hc.out, Bool.false_eq_true, if_false]
      exact h2

end Go.Proofs.YtkeopmfmlciadaaGreat
namespace Go.Proofs.YtkeopmfmlciadaaGreat
open Go.RowKit Go.Maps

/-- New's loop, behind k sectors. -/
def NewInv (w0 : World) (m : Nat) (wr : World) (k : Nat) : Prop :=
  ∃ v xs, wr.heap[w0.heap.size + 1]? = some (.cells #[v, .map (some w0.heap.size), .int .i64 (-1), .bool false] 84 (0, 0)) ∧ wr.ownsRow (w0.heap.size + 2) 45 1 v k xs ∧
    Mp wr 3 w0.heap.size (.map []) ∧ (∀ j, j < k → ∃ u, xs[j]? = some u ∧ Sl wr (fun q => q < w0.heap.size) 5 u m (bv (List.replicate m 0))) ∧ Mod No w0 wr ∧ w0.heap.size + 2 ≤ wr.heap.size

theorem madeBytes (m : Nat) : madeCells #[.int .u8 0] m = (bv (List.replicate m 0)).toArray := by
  apply Array.toList_inj.1
  rw [toList_madeCells_one]
  simp [bv]

theorem NewInv.start (w : World) (m : Nat) :
    NewInv w m ((w.alloc (.map #[] 0)).alloc (.cells #[.slice none 0 0, .map (some w.heap.size), .int .i64 (-1), .bool false] 84)) 0 := by
  refine ⟨.slice none 0 0, [], ?_, World.ownsRow_nil _ _ _ _, ?_, fun j hj => by omega, ((Mod.refl No w).alloc _).alloc _, by simp⟩
  · have := heap_alloc_new (w.alloc (.map #[] 0)) (.cells #[.slice none 0 0, .map (some w.heap.size), .int .i64 (-1), .bool false] 84)
    simpa using this
  · exact (Mp.made w _).keep (S := No) ((Mod.refl No _).alloc _) (fun f => f)

set_option maxRecDepth 100000 in
set_option maxHeartbeats 2000000 in
theorem new_any (n size : Int) (w : World) :
    Calls Tryz.prog 13 #[.int .i64 n, .int .i64 size] w fun e w' => ∃ N m : Nat, e = .returned (.pointer (some ⟨w.heap.size + 1, 0, none⟩)) ∧ (N : Int) = min (max n 1) 4096 ∧ (m : Int) = min (max size 64) 4096 ∧ NewInv w m w' N := by
  have hmm := @run_makeMap Tryz.prog
  obtain ⟨N, hN⟩ : ∃ N : Nat, min (max n 1) 4096 = (N : Int) := Int.eq_ofNat_of_zero_le (by omega)
  obtain ⟨m, hm⟩ : ∃ m : Nat, min (max size 64) 4096 = (m : Int) := Int.eq_ofNat_of_zero_le (by omega)
  have hN1 : N ≤ 4096 := by omega
  have hm1 : m ≤ 4096 := by omega
  have HW : ∀ w, Calls Tryz.prog 36 #[.int .i64 n, .int .i64 1, .int .i64 4096] w fun e w' => e = .returned (.int .i64 (N : Int)) ∧ w = w' := fun w => by rw [← hN]; exact within_any n 1 4096 w
  have HZ : ∀ w, Calls Tryz.prog 36 #[.int .i64 size, .int .i64 64, .int .i64 4096] w fun e w' => e = .returned (.int .i64 (m : Int)) ∧ w = w' := fun w => by rw [← hm]; exact within_any size 64 4096 w
  have HWH := Lib.hid HW
  have HZH := Lib.hid HZ
  have HN := Lib.hid hN
  have HM := Lib.hid hm
  have hmk := fun w => run_make_row' (P := Tryz.prog) 45 5 (.int .u8 0) 1 Tryz.underlying45 info_u8 rfl .i64 .i64 m (by omega) (by omega) w
  clear HW HZ hN hm
  obtain ⟨i0, hi, hz0, hz1, hz2⟩ := info_parts info_bs
  refine calls_hide fun R hR => ?_
  go_enter Tryz.func13, Tryz.ntmps13
  go_wp2_with (go_at_call 36; refine (HWH.out _).mono ?_; rintro e w' ⟨rfl, rfl⟩)
  go_loopw [12] (fun i wr => ∃ k : Nat, k ≤ N ∧ i = .int .i64 k ∧ NewInv w m wr k) (fun i _ => N - (intOf i).toNat)
  case atStart => exact ⟨0, Nat.zero_le _, rfl, NewInv.start w m⟩
  case round =>
    obtain ⟨k, hk, rfl, hinv⟩ := hrel
    by_cases hlt : k < N
    · obtain ⟨v, xs, hb, hown, hmp, hxs, hmod, hsz⟩ := hinv
      have c0 := cell_of (i := 0) hb rfl
      have f0 := frozen_of 0 hb
      have HB := Lib.hid hb
      have HO := Lib.hid hown
      have HMp := Lib.hid hmp
      have HX := Lib.hid hxs
      have HMod := Lib.hid hmod
      clear hb hown hmp hxs hmod
      go_wp2_with fail
      have hS0 : wr.drew.cell? ⟨w.heap.size + 1, 0, none⟩ = some v := c0
      have m1 : Mod No wr (wr.alloc (.cells (madeCells #[.int .u8 0] m) 5)).drew := ((Mod.refl No wr).alloc _).drew
      have m2 : Mod No wr ((wr.alloc (.cells (madeCells #[.int .u8 0] m) 5)).alloc (.cells #[.slice (some ⟨wr.heap.size, 0, none⟩) m m] 45)).drew := (((Mod.refl No wr).alloc _).alloc _).drew
      have hS1 := m1.cell c0 (fun f => f)
      have hS2 := m2.cell c0 (fun f => f)
      have hown2 : (((wr.alloc (.cells (madeCells #[.int .u8 0] m) 5)).alloc (.cells #[.slice (some ⟨wr.heap.size, 0, none⟩) m m] 45)).drew).ownsRow (w.heap.size + 2) 45 1 v k xs := ((HO.out.alloc _).alloc _).drew
      have hslU : Sl (((wr.alloc (.cells (madeCells #[.int .u8 0] m) 5)).alloc (.cells #[.slice (some ⟨wr.heap.size, 0, none⟩) m m] 45)).drew) No 45 (.slice (some ⟨wr.heap.size + 1, 0, none⟩) 1 1) 1 [.slice (some ⟨wr.heap.size, 0, none⟩) m m] := by
        refine .inr ⟨wr.heap.size + 1, 0, 1, #[.slice (some ⟨wr.heap.size, 0, none⟩) m m], (0, 0), rfl, Nat.le_refl _, by unfold maxLen; omega, fun f => f, ?_, by simp, fun i hi => by simp at hi; subst hi; rfl⟩
        exact heap_at_new _ _ (by simp)
      have hbase : w.heap.size + 2 ≤ (((wr.alloc (.cells (madeCells #[.int .u8 0] m) 5)).alloc (.cells #[.slice (some ⟨wr.heap.size, 0, none⟩) m m] 45)).drew).heap.size := by simp; omega
      have HS := Lib.hid hslU
      have HO2 := Lib.hid hown2
      have HM2 := Lib.hid m2
      have HBa := Lib.hid hbase
      clear hslU hown2 m1 m2 hbase
      refine wp_region_T (fun w' => w'.cell? ⟨w.heap.size + 1, 0, none⟩ = some v) 14 (by kernel_rfl) ?_
      refine wpAnyT_take 0 (some 14) ?_ rfl rfl (by kernel_rfl) (fun _ _ _ h => h) hS0 (Or.inl ⟨by rfl, ?_⟩) ?_
      rotate_left
      · (intro w' hSw; (try dsimp only at hSw); go_simp; try with_reducible rfl)
      simp only [Act.put, List.setIfInBounds_toArray, List.set_cons_zero, List.set_cons_succ]
      refine wpAnyT_take 1 (some 15) ?_ rfl rfl (by kernel_rfl) (fun _ _ _ h => h) hS0 (Or.inl ⟨by rfl, ?_⟩) ?_
      rotate_left
      · (intro w' hSw; (try dsimp only at hSw); go_simp; try with_reducible rfl)
      simp only [Act.put, List.setIfInBounds_toArray, List.set_cons_zero, List.set_cons_succ]
      refine wpAnyT_take 2 (some 16) ?_ rfl rfl (by kernel_rfl) (fun _ _ _ h => h) hS0 (Or.inl ⟨by rfl, ?_⟩) ?_
      rotate_left
      · (intro w' hSw; (try dsimp only at hSw); go_simp; try with_reducible rfl)
      simp only [Act.put, List.setIfInBounds_toArray, List.set_cons_zero, List.set_cons_succ]
      refine wpAnyT_take 3 (some 17) ?_ rfl rfl (by kernel_rfl) (fun _ _ _ h => h) hS0 (Or.inl ⟨by rfl, ?_⟩) ?_
      rotate_left
      · (intro w' hSw; (try dsimp only at hSw); go_simp; try with_reducible rfl)
      simp only [Act.put, List.setIfInBounds_toArray, List.set_cons_zero, List.set_cons_succ]
      refine wpAnyT_take 4 (some 18) ?_ rfl rfl (by kernel_rfl) (fun _ _ _ h => h) hS0 (Or.inl ⟨by rfl, ?_⟩) ?_
      rotate_left
      · (intro w' hSw; (try dsimp only at hSw); go_simp; try with_reducible rfl)
      simp only [Act.put, List.setIfInBounds_toArray, List.set_cons_zero, List.set_cons_succ]
      refine wpAnyT_take 5 (some 19) ?_ rfl rfl (by kernel_rfl) (fun _ _ _ h => h) hS0 (Or.inl ⟨by rfl, ?_⟩) ?_
      rotate_left
      · (intro w' hSw; (try dsimp only at hSw); go_simp; try with_reducible rfl)
      simp only [Act.put, List.setIfInBounds_toArray, List.set_cons_zero, List.set_cons_succ]
      refine wpAnyT_take 6 (some 20) ?_ rfl rfl (by kernel_rfl) (fun _ _ _ h => h) hS0 (Or.inl ⟨by rfl, ?_⟩) ?_
      rotate_left
      · (intro w' hSw; (try dsimp only at hSw); go_simp; try with_reducible rfl)
      simp only [Act.put, List.setIfInBounds_toArray, List.set_cons_zero, List.set_cons_succ]
      refine wpAnyT_one 7 rfl (by kernel_rfl) rfl ?_
      intro K hK
      go_simp
      (go_at_call 36; refine (HZH.out _).mono ?_; rintro e w' ⟨rfl, rfl⟩)
      show K _ _
      refine hK.out _ _ (fun _ => hS0) ?_
      clear hK K
      refine wpAnyT_one 8 rfl (by kernel_rfl) rfl ?_
      intro K hK
      go_simp
      show K _ _
      refine hK.out _ _ (fun _ => hS1) ?_
      clear hK K
      refine wpAnyT_one 9 rfl (by kernel_rfl) rfl ?_
      intro K hK
      go_simp
      show K _ _
      refine hK.out _ _ (fun _ => hS2) ?_
      clear hK K
      refine wpAnyT_one 10 rfl (by kernel_rfl) rfl ?_
      intro K hK
      refine wp_app_sl _ (.tmp 19) (.tmp 23) 72 (by rfl) (w.heap.size + 2) 45 i0 (.slice none 0 0) 1 24 Tryz.underlying72 hi hz0 hz1 hz2 rfl (by decide) v k xs (by rfl) HO2.out No 45 _ 1 [.slice (some ⟨wr.heap.size, 0, none⟩) m m] (by rfl) HS.out rfl (by simp [Value.oneCell']) (by unfold maxLen; omega) (by omega) HBa.out ?_
      intro v' w4 hown4 hgr4 _
      obtain ⟨g4, cap4, rfl, hg4⟩ := own_shape hown4 (by omega)
      have hne4 : v.ownBlock ≠ some (w.heap.size + 1) := fun e => by have := (HO.out.lt _ e).1; omega
      have h4 := HM2.out.keep HB.out (fun f => f)
      have m4 : Mod (fun q => v.ownBlock = some q) wr w4 := (HM2.out.weaken (fun _ _ f => f.elim)).trans (Mod.of_grown hgr4 (fun q e _ => e))
      have h4 := m4.keep HB.out hne4
      have c4 := cell_of (i := 0) h4 rfl
      have f4 := frozen_of 0 h4
      have H4 := Lib.hid h4
      have HM4 := Lib.hid m4
      have HO4 := Lib.hid hown4
      have HG4 := Lib.hid hgr4
      clear h4 m4 hown4 hgr4 hne4
      refine hK.out _ _ (fun _ => c4) ?_
      clear hK K
      refine wpAnyT_one 11 rfl (by kernel_rfl) rfl ?_
      intro K hK
      go_simp
      show K _ _
      refine hK.out _ _ (fun _ => c4) ?_
      clear hK K
      refine wpAnyT_one 12 rfl (by kernel_rfl) rfl ?_
      intro K hK
      go_simp
      show K _ _
      refine hK.out _ _ (fun _ => c4) ?_
      clear hK K
      refine wpAnyT_one 13 rfl (by kernel_rfl) rfl ?_
      intro K hK
      go_simp
      show K _ _
      refine hK.out _ _ (fun _ => c4) ?_
      clear hK K
      refine wpAnyT_one 14 rfl (by kernel_rfl) rfl ?_
      intro K hK
      go_simp
      show K _ _
      refine hK.out _ _ (fun h => absurd rfl h) ?_
      clear hK K
      refine wpAnyT_done (by kernel_rfl) ?_ _
      go_wp2
      refine ⟨⟨k + 1, by omega, by go_num, ?_⟩, by simp [intOf]; omega⟩
      have hne4 : (Value.slice (some ⟨g4, 0, none⟩) (k + 1) cap4).ownBlock ≠ some (w.heap.size + 1) := fun e => by
        have := (HO4.out.lt _ e).1; omega
      have hother : ∀ q, q < wr.heap.size → v.ownBlock ≠ some q → q ≠ w.heap.size + 1 → (w4.setCell ⟨w.heap.size + 1, 0, none⟩ (.slice (some ⟨g4, 0, none⟩) (k + 1) cap4)).heap[q]? = wr.heap[q]? := fun q hq h1 h2 => by
        rw [heap_setCell_ne _ h2, HM4.out.block q hq h1]
      have hmodS : Mod (fun q => v.ownBlock = some q ∨ q = w.heap.size + 1) wr (w4.setCell ⟨w.heap.size + 1, 0, none⟩ (.slice (some ⟨g4, 0, none⟩) (k + 1) cap4)) :=
        (HM4.out.weaken fun _ _ e => .inl e).setCell (fun _ => .inr rfl) _
      have hvB : ∀ q, v.ownBlock = some q → w.heap.size + 2 ≤ q := fun q e => (HO.out.lt _ e).1
      have hnb : Beside wr (fun q => q < w.heap.size) (fun q => v.ownBlock = some q ∨ q = w.heap.size + 1) := fun q hq => .inr fun cur fz e => by
        rcases hq with hq | hq
        · obtain ⟨_, ⟨rfl, _⟩ | ⟨g, cap, cur', rfl, _, hh, _⟩⟩ := HO.out
          · simp [Value.ownBlock] at hq
          · simp [Value.ownBlock] at hq
            subst hq; rw [hh] at e; cases e
        · have := HB.out
          subst hq; rw [this] at e; cases e
      refine ⟨.slice (some ⟨g4, 0, none⟩) (k + 1) cap4, xs ++ [.slice (some ⟨wr.heap.size, 0, none⟩) m m], ?_, ?_, ?_, fun j hj => ?_, ?_, ?_⟩
      · rw [heap_setCell H4.out]; rfl
      · exact ownsRow_setCell_other HO4.out hne4 _
      · exact HMp.out.keep hmodS (fun e => e.elim (fun e => by have := hvB _ e; omega) (fun e => by omega))
      · have hxl : xs.length = k := by have := HO.out.1; simpa using this
        by_cases e : k = j
        · subst e
          refine ⟨.slice (some ⟨wr.heap.size, 0, none⟩) m m, by rw [List.getElem?_append_right (by omega)]; simp [hxl], ?_⟩
          have hU : Sl (((wr.alloc (.cells (madeCells #[.int .u8 0] m) 5)).alloc (.cells #[.slice (some ⟨wr.heap.size, 0, none⟩) m m] 45)).drew) (fun q => q < w.heap.size) 5 (.slice (some ⟨wr.heap.size, 0, none⟩) m m) m (bv (List.replicate m 0)) := by
            refine .inr ⟨wr.heap.size, 0, m, (bv (List.replicate m 0)).toArray, (0, 0), rfl, Nat.le_refl _, by unfold maxLen; omega, by omega, ?_, by simp, fun i hi => by simp⟩
            show ((wr.alloc _).alloc _).heap[wr.heap.size]? = _
            rw [← madeBytes]
            exact heap_alloc_old _ (heap_alloc_new _ _)
          have hm5 : Mod (fun q => v.ownBlock = some q ∨ q = w.heap.size + 1) (((wr.alloc (.cells (madeCells #[.int .u8 0] m) 5)).alloc (.cells #[.slice (some ⟨wr.heap.size, 0, none⟩) m m] 45)).drew) (w4.setCell ⟨w.heap.size + 1, 0, none⟩ (.slice (some ⟨g4, 0, none⟩) (k + 1) cap4)) :=
            (Mod.of_grown HG4.out (fun q e _ => .inl e)).setCell (fun _ => .inr rfl) _
          refine hU.keep hm5 fun q cur fz hq _ e => ?_
          rcases hq with hq | hq
          · obtain ⟨_, ⟨rfl, _⟩ | ⟨g, cap, cur', rfl, _, hh, _⟩⟩ := HO2.out
            · simp [Value.ownBlock] at hq
            · simp [Value.ownBlock] at hq
              subst hq; rw [hh] at e; cases e
          · have hb2 := HM2.out.keep HB.out (fun f => f)
            subst hq; rw [hb2] at e; cases e
        · obtain ⟨u, hu, hsl⟩ := HX.out j (by omega)
          exact ⟨u, by rw [List.getElem?_append_left (by omega)]; exact hu, hsl.beside hmodS hnb⟩
      · exact HMod.out.then hmodS (fun q hq e => e.elim (fun e => by have := hvB _ e; omega) (fun e => by omega))
      · have := hmodS.size; omega
    · have hk2 : k = N := by omega
      have HI := Lib.hid hinv
      have HK := Lib.hid hk2
      clear hinv hk2
      go_wp2
      refine fin hR ⟨N, m, rfl, HN.out.symm, HM.out.symm, ?_⟩
      rw [← HK.out]
      exact HI.out

/-- A new disk, as the document has it. -/
def Dk.new (n size : Int) : Dk := { n := (min (max n 1) 4096).toNat, sz := (min (max size 64) 4096).toNat, sure := fun _ => List.replicate (min (max size 64) 4096).toNat 0, dirty := fun _ => none, cut := -1, dead := false }

/-- New: a disk of its own, in new memory. -/
theorem disk_new (X : Nat → Prop) (n size : Int) (w : World) (hX : ∀ k, X k → k < w.heap.size) :
    Calls Tryz.prog 13 #[.int .i64 n, .int .i64 size] w fun e w' => ∃ b sb mb, e = .returned (.pointer (some ⟨b, 0, none⟩)) ∧ w.heap.size ≤ b ∧ w.heap.size ≤ sb ∧ w.heap.size ≤ mb ∧ DkAt w' X b sb mb (Dk.new n size) ∧ Mod No w w' := by
  refine (new_any n size w).mono ?_
  rintro e w' ⟨N, m, rfl, hN, hm, v, xs, hb, hown, hmp, hxs, hmod, hsz⟩
  have e1 : (min (max n 1) 4096).toNat = N := by omega
  have e2 : (min (max size 64) 4096).toNat = m := by omega
  have hN0 : 0 < N := by omega
  have hN2 : N ≤ 4096 := by omega
  have hm1 : 64 ≤ m := by omega
  have hm2 : m ≤ 4096 := by omega
  clear hN hm
  obtain ⟨hlen, ⟨_, h0⟩ | ⟨g, cap, cur, rfl, hg, hh, hcap, hmax, hcur, htake⟩⟩ := hown
  · omega
  refine ⟨w.heap.size + 1, g, w.heap.size, rfl, by omega, by omega, Nat.le_refl _, ?_, hmod⟩
  unfold Dk.new
  rw [e1, e2]
  refine ⟨⟨cap, hb, hcap, hmax⟩, ⟨cur, hh, by rw [hcur]; show N ≤ cap * 1; omega, fun i hi => ?_⟩, ⟨.map [], hmp, (fun kl h => by simp [Maps.has_eq] at h), (fun _ _ _ => by simp [Maps.has_eq]), (fun _ _ _ h => by cases h)⟩, (fun _ _ => by simp),
    (fun _ _ _ h => by cases h), hN0, hN2, hm1, hm2, by simp, by simp⟩
  obtain ⟨u, hu, hsl⟩ := hxs i hi
  refine ⟨u, ?_, hsl.shrink fun k _ hk => hX k hk⟩
  rw [← htake, List.getElem?_take] at hu
  split at hu
  · simpa using hu
  · cases hu

end Go.Proofs.YtkeopmfmlciadaaGreat
namespace Go.Proofs.YtkeopmfmlciadaaGreat
open Go.RowKit Go.Maps

theorem DkAt.not_bytes {w : World} {X : Nat → Prop} {b sb mb : Nat} {d : Dk} (h : DkAt w X b sb mb d) {q : Nat} (hq : Own3 b sb mb q) (cur : Array Value) (fz : Nat × Nat) : w.heap[q]? ≠ some (.cells cur 5 fz) := fun e => by
  obtain ⟨sc, ho, _⟩ := h.obj
  obtain ⟨cur', hc⟩ := h.sure
  obtain ⟨D, hD⟩ := h.dirty
  obtain ⟨es, clock, hm⟩ := hD.mp.heap
  have hs := hc.heap
  rcases hq with rfl | rfl | rfl
  · rw [ho] at e; cases e
  · rw [hs] at e; cases e
  · rw [hm] at e; cases e

/-- Read, where it is let: a new slice that reads so. -/
theorem read_ok {X : Nat → Prop} {b sb mb : Nat} {d : Dk} {i : Int} {w : World} {n : Nat} {L : List UInt8} (h : DkAt w X b sb mb d) (hE : atE d.dead i d.n = 0) (hn : d.sz = n) (hL : d.last i.toNat = L) :
    Calls Tryz.prog 100 #[.pointer (some ⟨b, 0, none⟩), .int .i64 i] w fun e w' => ∃ g c, e = .returned (.tuple #[.slice (some ⟨g, 0, none⟩) n c, .int .i64 0]) ∧ w'.ownsRow w.heap.size 5 1 (.slice (some ⟨g, 0, none⟩) n c) n (bv L) ∧
      (∀ j u, (bv L)[j]? = some u → w'.cell? ⟨g, j, none⟩ = some u) ∧ Mod No w w' ∧ w.heap.size ≤ g := by
  refine (read_any X b sb mb d i w h).mono ?_
  rintro e w' ⟨v, rfl, hm, _, ho⟩
  have h1 := ho hE
  rw [hn, hL] at h1
  obtain ⟨g, c, rfl, hg⟩ := own_shape h1 (by have := h.s1; omega)
  rw [hE]
  refine ⟨g, c, rfl, h1, fun j u hu => ?_, hm, hg⟩
  have h2 := h1.cells (g := g) rfl j u hu
  simpa [Addr.add_lit] using h2

theorem sectors_ok {X : Nat → Prop} {b sb mb : Nat} {d : Dk} {w : World} (h : DkAt w X b sb mb d) :
    Calls Tryz.prog 53 #[.pointer (some ⟨b, 0, none⟩)] w fun e w' => e = .returned (.int .i64 (d.n : Int)) ∧ w = w' := by
  obtain ⟨sc, ho, _⟩ := h.obj
  exact sectors_any ⟨b, 0, none⟩ _ _ _ w (cell_of (i := 0) ho rfl)

theorem size_ok {X : Nat → Prop} {b sb mb : Nat} {d : Dk} {w : World} (h : DkAt w X b sb mb d) :
    Calls Tryz.prog 54 #[.pointer (some ⟨b, 0, none⟩)] w fun e w' => e = .returned (.int .i64 (d.sz : Int)) ∧ w = w' := by
  obtain ⟨sc, ho, _⟩ := h.obj
  obtain ⟨cur, hc⟩ := h.sure
  obtain ⟨v0, hv0, hs0⟩ := hc.cell 0 h.n1
  obtain ⟨a0, o0, k0, rfl, _⟩ := hs0.shape (by have := h.s1; omega)
  exact size_any ⟨b, 0, none⟩ sb _ _ _ _ _ w h.n1 (cell_of (i := 0) ho rfl) (cell_ofA hc.heap hv0)

theorem own3_old {B b sb mb : Nat} (h : B ≤ b ∧ B ≤ mb ∧ B ≤ sb) : ∀ i, i < B → Own3 b sb mb i → No i := fun i hi e => by
  rcases e with e | e | e <;> omega

theorem DkAt.lt {w : World} {X : Nat → Prop} {b sb mb : Nat} {d : Dk} (h : DkAt w X b sb mb d) {q : Nat} (hq : Own3 b sb mb q) : q < w.heap.size := by
  obtain ⟨sc, ho, _⟩ := h.obj
  obtain ⟨cur', hc⟩ := h.sure
  obtain ⟨D, hD⟩ := h.dirty
  obtain ⟨es, clock, hm⟩ := hD.mp.heap
  rcases hq with rfl | rfl | rfl
  · exact lt_of_heap ho
  · exact lt_of_heap hc.heap
  · exact lt_of_heap hm

theorem DkAt.avoid {w : World} {X : Nat → Prop} {b sb mb : Nat} {d : Dk} (h : DkAt w X b sb mb d) : DkAt w (fun q => X q ∨ w.heap.size ≤ q) b sb mb d := by
  obtain ⟨cur, hc⟩ := h.sure
  obtain ⟨D, hD⟩ := h.dirty
  exact ⟨h.obj, ⟨cur, hc.heap, hc.len, fun i hi => let ⟨v, e, s⟩ := hc.cell i hi; ⟨v, e, s.avoid⟩⟩, ⟨D, hD.mp, hD.keys, hD.gone, fun i l hi hd => let ⟨a, v, e, s⟩ := hD.here i l hi hd; ⟨a, v, e, s.avoid⟩⟩,
    h.lenS, h.lenD, h.n1, h.n2, h.s1, h.s2, h.c1, h.c2⟩
theorem DkAt.shrink {w : World} {X Y : Nat → Prop} {b sb mb : Nat} {d : Dk} (h : DkAt w X b sb mb d) (hy : ∀ k, k < w.heap.size → Y k → X k) : DkAt w Y b sb mb d := by
  obtain ⟨cur, hc⟩ := h.sure
  obtain ⟨D, hD⟩ := h.dirty
  exact ⟨h.obj, ⟨cur, hc.heap, hc.len, fun i hi => let ⟨v, e, s⟩ := hc.cell i hi; ⟨v, e, s.shrink hy⟩⟩, ⟨D, hD.mp, hD.keys, hD.gone, fun i l hi hd => let ⟨a, v, e, s⟩ := hD.here i l hi hd; ⟨a, v, e, s.shrink hy⟩⟩,
    h.lenS, h.lenD, h.n1, h.n2, h.s1, h.s2, h.c1, h.c2⟩

/-- Another disk beside: its calls turn nothing of this one. -/
theorem DkAt.beside {w w' : World} {X Y : Nat → Prop} {b sb mb b' sb' mb' : Nat} {d d' : Dk} (h : DkAt w X b sb mb d) (h' : DkAt w Y b' sb' mb' d') (hm : Mod (Own3 b' sb' mb') w w') (hn : ∀ q, Own3 b sb mb q → ¬ Own3 b' sb' mb' q) : DkAt w' X b sb mb d :=
  h.keep hm (hn b (.inl rfl)) (hn sb (.inr (.inl rfl))) (hn mb (.inr (.inr rfl))) fun _ hq => .inr fun cur fz => h'.not_bytes hq cur fz

theorem own2_own3 {b sb mb : Nat} : ∀ q, Own2 b mb q → Own3 b sb mb q := fun _ h => h.elim .inl fun e => .inr (.inr e)

end Go.Proofs.YtkeopmfmlciadaaGreat
namespace Go.Proofs.YtkeopmfmlciadaaGreat
open Go.RowKit

/-- A slice of integers that came in: nil, or a row of cap cells. -/
def InRow (k : IntKind) (w : World) (a : Option Addr) (len cap : Nat) (zs : List Int) : Prop :=
  (a = none ∧ len = 0 ∧ cap = 0 ∧ zs = []) ∨
  ∃ x, a = some x ∧ len ≤ cap ∧ cap ≤ maxLen ∧ zs.length = cap ∧ (∀ i, i < zs.length → w.cell? (x.add i) = some (.int k (zs.getD i 0))) ∧ ∀ n ∈ zs, (Lit.int k n).wf = true

/-- .. as a list of values that are read at an address. -/
structure In (w : World) (a : Option Addr) (n : Nat) (xs : List Value) : Prop where
  len : xs.length = n
  cell : ∀ i, i < n → ∃ b o, a = some ⟨b, o, none⟩ ∧ w.cell? ⟨b, o + i, none⟩ = xs[i]?

theorem In.keep {S : Nat → Prop} {w w' : World} {a : Option Addr} {n : Nat} {xs : List Value} (h : In w a n xs) (hm : Mod S w w') (hs : ∀ b o, a = some ⟨b, o, none⟩ → ¬ S b) : In w' a n xs := by
  refine ⟨h.len, fun i hi => ?_⟩
  obtain ⟨b, o, rfl, hc⟩ := h.cell i hi
  obtain ⟨v, hv⟩ : ∃ v, xs[i]? = some v := ⟨xs[i]'(by rw [h.len]; exact hi), by simp⟩
  rw [hv] at hc
  exact ⟨b, o, rfl, by rw [hm.cell hc (hs b o rfl), hv]⟩

theorem in_of_row {k : IntKind} {w : World} {a : Option Addr} {len cap : Nat} {zs : List Int} (h : InRow k w a len cap zs) : len ≤ cap ∧ cap ≤ maxLen ∧ In w a len ((zs.take len).map (Value.int k)) ∧ ∀ n ∈ zs.take len, (Lit.int k n).wf = true := by
  rcases h with ⟨rfl, rfl, rfl, rfl⟩ | ⟨x, rfl, h1, h2, h3, h4, h5⟩
  · exact ⟨Nat.le_refl _, by unfold maxLen; omega, ⟨rfl, fun i hi => by omega⟩, fun n hn => by cases hn⟩
  · refine ⟨h1, h2, ⟨by rw [List.length_map, List.length_take]; omega, fun i hi => ?_⟩, fun n hn => h5 n (List.mem_of_mem_take hn)⟩
    have hc := h4 i (by omega)
    obtain ⟨b, o, sp⟩ := x
    have hsp : sp = none := by simpa [Addr.add] using World.cell?_spot (h4 0 (by omega))
    subst hsp
    refine ⟨b, o, rfl, ?_⟩
    have hc' : w.cell? ⟨b, o + i, none⟩ = some (.int k (zs.getD i 0)) := by rw [Addr.add_lit] at hc; exact hc
    rw [hc', List.getElem?_map, List.getElem?_take, if_pos hi]
    simp [List.getD, show i < zs.length by omega]

theorem byte_of (x : Int) (h : (Lit.int .u8 x).wf = true) : ∃ b : UInt8, x = (b.toNat : Int) := by
  have h2 := bounds_u8 h
  refine ⟨UInt8.ofNat x.toNat, ?_⟩
  rw [UInt8.toNat_ofNat_of_lt' (by have : UInt8.size = 256 := rfl; omega)]
  omega

theorem bytes_of : ∀ (l : List Int), (∀ n ∈ l, (Lit.int .u8 n).wf = true) → ∃ bs : List UInt8, l.map (Value.int .u8) = bv bs ∧ bs.length = l.length
  | [], _ => ⟨[], rfl, rfl⟩
  | n :: l, h => by
    obtain ⟨b, hb⟩ := byte_of n (h n (by simp))
    obtain ⟨bs, e, hl⟩ := bytes_of l (fun m hm => h m (by simp [hm]))
    exact ⟨b :: bs, by rw [List.map_cons, e, hb]; rfl, by simp [hl]⟩

/-- A []uint8 that came in, as bytes. -/
theorem in_bytes {w : World} {a : Option Addr} {len cap : Nat} {zs : List Int} (h : InRow .u8 w a len cap zs) : ∃ bs : List UInt8, bs.length = len ∧ In w a len (bv bs) := by
  obtain ⟨_, _, hi, hw⟩ := in_of_row h
  obtain ⟨bs, e, hl⟩ := bytes_of _ hw
  rw [e] at hi
  exact ⟨bs, by have := hi.len; simpa using this, hi⟩

theorem nat_of_u64 (x : Int) (h : (Lit.int .u64 x).wf = true) : ∃ n : Nat, x = (n : Int) ∧ n < 18446744073709551616 := by
  have h2 := bounds_u64 h
  exact ⟨x.toNat, by omega, by omega⟩

end Go.Proofs.YtkeopmfmlciadaaGreat
