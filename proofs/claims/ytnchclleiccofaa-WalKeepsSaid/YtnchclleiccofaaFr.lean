/-
  Great functions, part by part: a part of a function's code, and a frame of which some slots are known. No statement is proved here; no condition.
-/
import Derived.Test.YtnchclleiccofaaReg
import Derived.Deep.CutBlock
namespace Go.Proofs.Ytnchclleiccofaa
open Go.RowKit

/-- Block n of a code. -/
def blockAt (n : Nat) : Code → Option Code
  | .block m c => if m == n then some (.block m c) else blockAt n c
  | .seq a b => match blockAt n a with
    | some c => some c
    | none => blockAt n b
  | .loop c => blockAt n c
  | .scope c => blockAt n c
  | .cond _ a b => match blockAt n a with
    | some c => some c
    | none => blockAt n b
  | _ => none

/-- Whether a statement's end is block n. -/
def endsAt (n : Nat) : Code → Bool
  | .block m _ => m == n
  | .seq _ b => endsAt n b
  | _ => false

/-- What follows block n in its sequence. -/
def behind (n : Nat) : Code → Option Code
  | .seq a b => if endsAt n a then some b else match behind n a with
    | some c => some c
    | none => behind n b
  | .loop c => behind n c
  | .scope c => behind n c
  | .block _ c => behind n c
  | .cond _ a b => match behind n a with
    | some c => some c
    | none => behind n b
  | _ => none

/-- Whether a statement's beginning is region r. -/
def startsAt (r : Nat) : Code → Bool
  | .region m _ _ => m == r
  | .seq a _ => startsAt r a
  | _ => false

/-- The way of a test that begins with region r. -/
def wayAt (r : Nat) : Code → Option Code
  | .cond _ a b => if startsAt r a then some a else if startsAt r b then some b else match wayAt r a with
    | some c => some c
    | none => wayAt r b
  | .seq a b => match wayAt r a with
    | some c => some c
    | none => wayAt r b
  | .loop c => wayAt r c
  | .scope c => wayAt r c
  | .block _ c => wayAt r c
  | _ => none

/-- The slots that are known. -/
def Holds (t : Array Value) : List (Nat × Value) → Prop
  | [] => True
  | p :: l => t.getD p.1 undef = p.2 ∧ Holds t l

/-- A frame of n slots. -/
structure Fr (n : Nat) (l : List (Nat × Value)) (a : Act) : Prop where
  size : a.tmps.size = n
  defers : a.defers = []
  holds : Holds a.tmps l

theorem arr_lits (t : Array Value) : t = ((List.range t.size).map fun i => t.getD i undef).toArray := by
  apply Array.ext
  · simp
  · intro i h1 h2
    simp [Array.getD, h1]

theorem wp_then {P : Program} {s : Code} {R K : Act → World → Prop} {Q' : Exit → Act → World → Prop} {a : Act} {w : World} (h : s.wp P (Exit.then R Q') a w) (hR : ∀ a' w', R a' w' → K a' w') : s.wp P (Exit.then K Q') a w := by
  refine wp_mono h ?_
  intro e a' w' hq
  cases e with
  | normal => exact hR _ _ hq
  | exit id => exact hq
  | goto l => exact hq
  | ret => exact hq
  | panic ch => exact hq
  | outgrown => exact hq

/-- No other way out. -/
def Nope : Exit → Act → World → Prop := fun _ _ _ => False

theorem wp_only {P : Program} {s : Code} {R K : Act → World → Prop} {Q' : Exit → Act → World → Prop} {a : Act} {w : World} (h : s.wp P (Exit.then R Nope) a w) (hR : ∀ a' w', R a' w' → K a' w') : s.wp P (Exit.then K Q') a w := by
  refine wp_mono h ?_
  intro e a' w' hq
  cases e with
  | normal => exact hR _ _ hq
  | exit id => exact hq.elim
  | goto l => exact hq.elim
  | ret => exact hq.elim
  | panic ch => exact hq.elim
  | outgrown => exact hq.elim

theorem wp_way {P : Program} {s : Code} {R : Act → World → Prop} {Q : Exit → Act → World → Prop} {a : Act} {w : World} (h : s.wp P (Exit.then R Nope) a w) (hR : ∀ a' w', R a' w' → Q .normal a' w') : s.wp P Q a w := by
  refine wp_mono h ?_
  intro e a' w' hq
  cases e with
  | normal => exact hR _ _ hq
  | exit id => exact hq.elim
  | goto l => exact hq.elim
  | ret => exact hq.elim
  | panic ch => exact hq.elim
  | outgrown => exact hq.elim

/-- A part of a code, proved for whatever must hold behind it. -/
theorem wp_part {P : Program} {s : Code} {R : Act → World → Prop} {Q' : Exit → Act → World → Prop} {a : Act} {w : World}
    (first : ∀ (J K' : Act → World → Prop), (∀ a' w', R a' w' → J a' w') → (∀ a' w', Met J a' w' → K' a' w') → s.wp P (Exit.then K' Q') a w) : s.wp P (Exit.then R Q') a w :=
  wp_cut R (fun _ _ h => h) first

end Go.Proofs.Ytnchclleiccofaa
