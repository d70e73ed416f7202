/-
  Layer 4, the log: that what was laid is read, in plain Lean. No statement is proved here; no condition.
-/
import Derived.Test.YtnchclleiccofaaWalP
namespace Go.Proofs.Ytnchclleiccofaa

/-- The numbers at a sector's end. -/
def tlT (S : Nat → List UInt8) (size i : Nat) : Nat := getN (((S i).drop size).take 8)
def tlN (S : Nat → List UInt8) (size i : Nat) : Nat := getN (((S i).drop size).drop 8)

theorem rd_some {S : Nat → List UInt8} {h size side at_ next t beh : Nat} {rs : List (List UInt8)} (hs : 0 < size) (e : rd S h size side at_ next = some (t, rs, beh)) :
    at_ < h ∧ at_ < beh ∧ beh ≤ h ∧ tlT S size (side * h + at_) = t ∧ tlN S size (side * h + at_) = (next + 1) % 18446744073709551616 := by
  unfold rd at e
  split at e
  · rename_i h1
    split at e
    · rename_i h2
      obtain ⟨p, _, hq⟩ := Option.map_eq_some_iff.1 e
      simp only [Prod.mk.injEq] at hq
      obtain ⟨q1, _, q3⟩ := hq
      have hp := secs_pos (size := size) (n := 32 + getN ((((S (side * h + at_)).take size).drop 24).take 8)) (by omega)
      have hl := secs_le (size := size) (n := 32 + getN ((((S (side * h + at_)).take size).drop 24).take 8)) (k := h - at_) hs (by have := h2.2.2.2.2; omega)
      refine ⟨h1, by omega, by omega, ?_, ?_⟩
      · unfold tlT; rw [h2.2.2.1, q1]
      · unfold tlN; exact h2.2.2.2.1
    · cases e
  · cases e

theorem rd_congr {S S' : Nat → List UInt8} {h size side at_ next t beh : Nat} {rs : List (List UInt8)} (hs : 0 < size) (e : rd S h size side at_ next = some (t, rs, beh))
    (ag : ∀ j, at_ ≤ j → j < beh → S' (side * h + j) = S (side * h + j)) : rd S' h size side at_ next = some (t, rs, beh) := by
  obtain ⟨h1, h2, _⟩ := rd_some hs e
  have h0 := ag at_ (Nat.le_refl _) h2
  rw [← e]
  unfold rd at e ⊢
  rw [h0]
  rw [if_pos h1] at e
  split at e
  · rename_i h3
    obtain ⟨p, _, hq⟩ := Option.map_eq_some_iff.1 e
    simp only [Prod.mk.injEq] at hq
    obtain ⟨_, _, q3⟩ := hq
    have hall : rdAll S' (side * h + at_) size (secs size (32 + getN ((((S (side * h + at_)).take size).drop 24).take 8))) = rdAll S (side * h + at_) size (secs size (32 + getN ((((S (side * h + at_)).take size).drop 24).take 8))) := by
      unfold rdAll
      rw [List.flatMap_def, List.flatMap_def]
      congr 1
      refine List.map_congr_left fun i hi => ?_
      have := List.mem_range.1 hi
      rw [Nat.add_assoc, ag (at_ + i) (by omega) (by omega)]
    rw [hall]
  · cases e

/-- What is read from a side's beginning on, frame behind frame. -/
inductive Chain (S : Nat → List UInt8) (h size side turn : Nat) : Nat → Nat → List (List UInt8) → Prop
  | zero : Chain S h size side turn 0 0 []
  | step {at_ next beh : Nat} {all rs : List (List UInt8)} : Chain S h size side turn at_ next all → rd S h size side at_ next = some (turn, rs, beh) → Chain S h size side turn beh (next + 1) (all ++ rs)

theorem Chain.le {S : Nat → List UInt8} {h size side turn at_ next : Nat} {all : List (List UInt8)} (hs : 0 < size) (c : Chain S h size side turn at_ next all) : at_ ≤ h := by
  cases c with
  | zero => omega
  | step _ e => exact (rd_some hs e).2.2.1

theorem Chain.congr {S S' : Nat → List UInt8} {h size side turn at_ next : Nat} {all : List (List UInt8)} (hs : 0 < size) (c : Chain S h size side turn at_ next all) : (∀ j, j < at_ → S' (side * h + j) = S (side * h + j)) → Chain S' h size side turn at_ next all := by
  induction c with
  | zero => exact fun _ => .zero
  | step _ e ih =>
    intro ag
    have hb := rd_some hs e
    exact .step (ih fun j hj => ag j (by omega)) (rd_congr hs e fun j _ hj => ag j hj)

theorem Chain.same {S : Nat → List UInt8} {h size side turn : Nat} : ∀ {next a b : Nat} {xs ys : List (List UInt8)}, Chain S h size side turn a next xs → Chain S h size side turn b next ys → a = b ∧ xs = ys := by
  intro next
  induction next with
  | zero => intro a b xs ys c d; cases c; cases d; exact ⟨rfl, rfl⟩
  | succ n ih =>
    intro a b xs ys c d
    cases c with
    | step c1 e1 =>
      cases d with
      | step d1 e2 =>
        obtain ⟨rfl, rfl⟩ := ih c1 d1
        rw [e1] at e2
        simp only [Option.some.injEq, Prod.mk.injEq, true_and] at e2
        obtain ⟨rfl, rfl⟩ := e2
        exact ⟨rfl, rfl⟩

/-- There is no further frame. -/
def Stop (S : Nat → List UInt8) (h size side turn at_ next : Nat) : Prop := ∀ rs beh, rd S h size side at_ next ≠ some (turn, rs, beh)

theorem Chain.upto {S : Nat → List UInt8} {h size side turn : Nat} : ∀ {m b : Nat} {ys : List (List UInt8)}, Chain S h size side turn b m ys → ∀ n, n < m → ∃ a xs rs beh, Chain S h size side turn a n xs ∧ rd S h size side a n = some (turn, rs, beh) := by
  intro m
  induction m with
  | zero => intro b ys _ n hn; omega
  | succ m ih =>
    intro b ys c n hn
    cases c with
    | step c1 e1 =>
      by_cases e : n = m
      · subst e; exact ⟨_, _, _, _, c1, e1⟩
      · exact ih c1 n (by omega)

theorem Chain.unique {S : Nat → List UInt8} {h size side turn a b n m : Nat} {xs ys : List (List UInt8)} (c : Chain S h size side turn a n xs) (d : Chain S h size side turn b m ys) (sc : Stop S h size side turn a n) (sd : Stop S h size side turn b m) : a = b ∧ n = m ∧ xs = ys := by
  rcases Nat.lt_trichotomy n m with g | g | g
  · obtain ⟨a', xs', rs, beh, c', e⟩ := d.upto n g
    obtain ⟨rfl, _⟩ := c.same c'
    exact absurd e (sc rs beh)
  · subst g
    obtain ⟨h1, h2⟩ := c.same d
    exact ⟨h1, rfl, h2⟩
  · obtain ⟨a', xs', rs, beh, c', e⟩ := c.upto m g
    obtain ⟨rfl, _⟩ := d.same c'
    exact absurd e (sd rs beh)

/-- A log's state. -/
structure Lg where
  turn : Nat
  next : Nat
  at_ : Nat
  all : List (List UInt8)

structure LogOK (S : Nat → List UInt8) (h size : Nat) (L : Lg) : Prop where
  chain : Chain S h size (L.turn % 2) L.turn L.at_ L.next L.all
  free : ∀ j, L.at_ ≤ j → j < h → tlT S size (L.turn % 2 * h + j) = L.turn → tlN S size (L.turn % 2 * h + j) ≤ L.next
  top : ∀ i, i < 2 * h → tlT S size i ≤ L.turn
  first : L.turn = 0 ∨ 0 < L.next
  bT : L.turn < 4611686018427387904
  bN : L.next < 4611686018427387904

theorem LogOK.stop {S : Nat → List UInt8} {h size : Nat} {L : Lg} (hs : 0 < size) (o : LogOK S h size L) : Stop S h size (L.turn % 2) L.turn L.at_ L.next := by
  intro rs beh e
  obtain ⟨h1, _, _, h2, h3⟩ := rd_some hs e
  have := o.free L.at_ (Nat.le_refl _) h1 h2
  have := o.bN
  rw [h3, Nat.mod_eq_of_lt (by omega)] at *
  omega

theorem tl_laid {S' : Nat → List UInt8} {size turn next i j : Nat} {b : List UInt8} (ht : turn < 18446744073709551616) (hn : next + 1 < 18446744073709551616) (e : S' j = laidAt size turn next b i) :
    (i = 0 ∧ tlT S' size j = turn ∧ tlN S' size j = next + 1) ∨ (i ≠ 0 ∧ tlT S' size j = 0 ∧ tlN S' size j = 0) := by
  have e8 : ∀ n, (be 8 n).length = 8 := fun n => be_len 8 n
  by_cases h : i = 0
  · refine .inl ⟨h, ?_, ?_⟩
    · unfold tlT
      rw [e, laidAt_drop, if_pos h, List.take_append_of_le_length (by rw [e8]; omega), List.take_of_length_le (by rw [e8]; omega), getN_be 8 _ (by omega) (by omega)]
    · unfold tlN
      rw [e, laidAt_drop, if_pos h, List.drop_append_of_le_length (by rw [e8]; omega), List.drop_of_length_le (by rw [e8]; omega), List.nil_append, getN_be 8 _ (by omega) (by omega)]
  · refine .inr ⟨h, ?_, ?_⟩
    · unfold tlT
      rw [e, laidAt_drop, if_neg h, List.take_replicate, getN_zeros]
    · unfold tlN
      rw [e, laidAt_drop, if_neg h, List.drop_replicate, getN_zeros]

/-- What was laid: k sectors from base on, and nothing else. -/
structure Laid (S S' : Nat → List UInt8) (size turn next base k : Nat) (b : List UInt8) : Prop where
  here : ∀ i, i < k → S' (base + i) = laidAt size turn next b i
  else_ : ∀ j, j < base ∨ base + k ≤ j → S' j = S j

theorem Laid.tails {S S' : Nat → List UInt8} {size turn next base k : Nat} {b : List UInt8} (l : Laid S S' size turn next base k b) (ht : turn < 18446744073709551616) (hn : next + 1 < 18446744073709551616) (i : Nat) :
    (tlT S' size i = turn ∨ tlT S' size i = 0) ∨ tlT S' size i = tlT S size i := by
  by_cases h : i < base ∨ base + k ≤ i
  · right; unfold tlT; rw [l.else_ i h]
  · left
    have e := l.here (i - base) (by omega)
    rw [show base + (i - base) = i by omega] at e
    rcases tl_laid ht hn e with ⟨_, h1, _⟩ | ⟨_, h1, _⟩
    · exact .inl h1
    · exact .inr h1

theorem LogOK.commit {S S' : Nat → List UInt8} {h size : Nat} {L : Lg} {rs : List (List UInt8)} (hsz : 32 ≤ size) (o : LogOK S h size L) (hr : ∀ r ∈ rs, r.length < 4294967296) (hb : (bodyB rs).length < 18446744073709551616)
    (hk : L.at_ + secs size (32 + (bodyB rs).length) ≤ h) (hn : L.next + 1 < 4611686018427387904) (l : Laid S S' size L.turn L.next (L.turn % 2 * h + L.at_) (secs size (32 + (bodyB rs).length)) (frameB L.turn L.next rs)) :
    LogOK S' h size ⟨L.turn, L.next + 1, L.at_ + secs size (32 + (bodyB rs).length), L.all ++ rs⟩ := by
  have bT := o.bT
  have ht : L.turn < 18446744073709551616 := by omega
  have hn1 : L.next + 1 < 18446744073709551616 := by omega
  have hc : Chain S' h size (L.turn % 2) L.turn (L.at_ + secs size (32 + (bodyB rs).length)) (L.next + 1) (L.all ++ rs) :=
    .step (o.chain.congr (by omega) fun j hj => l.else_ _ (.inl (Nat.add_lt_add_left hj _))) (rd_laid hsz ht hn1 hr hb hk l.here)
  refine ⟨hc, fun j h1 h2 h3 => ?_, fun i hi => ?_, .inr (Nat.succ_pos _), bT, hn⟩
  · dsimp only at h1 h2 h3 ⊢
    have e := l.else_ (L.turn % 2 * h + j) (.inr (by rw [Nat.add_assoc]; exact Nat.add_le_add_left h1 _))
    unfold tlT at h3
    unfold tlN
    rw [e] at h3 ⊢
    have := o.free j (by omega) h2 h3
    unfold tlN at this
    omega
  · have := o.top i hi
    dsimp only
    rcases l.tails ht hn1 i with (e | e) | e <;> omega

theorem LogOK.reset {S S' : Nat → List UInt8} {h size : Nat} {L : Lg} {rs : List (List UInt8)} (hsz : 32 ≤ size) (o : LogOK S h size L) (hr : ∀ r ∈ rs, r.length < 4294967296) (hb : (bodyB rs).length < 18446744073709551616)
    (hk : secs size (32 + (bodyB rs).length) ≤ h) (ht : L.turn + 1 < 4611686018427387904) (l : Laid S S' size (L.turn + 1) 0 ((L.turn + 1) % 2 * h) (secs size (32 + (bodyB rs).length)) (frameB (L.turn + 1) 0 rs)) :
    LogOK S' h size ⟨L.turn + 1, 1, secs size (32 + (bodyB rs).length), rs⟩ := by
  have hrd := rd_laid (side := (L.turn + 1) % 2) (at_ := 0) (h := h) hsz (show L.turn + 1 < 18446744073709551616 by omega) (show 0 + 1 < 18446744073709551616 by omega) hr hb (by omega) (by simpa using l.here)
  rw [Nat.zero_add] at hrd
  have hc : Chain S' h size ((L.turn + 1) % 2) (L.turn + 1) (secs size (32 + (bodyB rs).length)) 1 rs := .step .zero hrd
  have ht1 : L.turn + 1 < 18446744073709551616 := by omega
  refine ⟨hc, fun j h1 h2 h3 => ?_, fun i hi => ?_, .inr Nat.one_pos, ht, (by decide : (1 : Nat) < 4611686018427387904)⟩
  · dsimp only at h1 h2 h3 ⊢
    have e := l.else_ ((L.turn + 1) % 2 * h + j) (.inr (Nat.add_le_add_left h1 _))
    have hj : (L.turn + 1) % 2 * h + j < 2 * h := by
      rcases Nat.mod_two_eq_zero_or_one (L.turn + 1) with g | g <;> rw [g] <;> omega
    have := o.top _ hj
    unfold tlT at h3 this
    rw [e] at h3
    omega
  · have := o.top i hi
    dsimp only
    rcases l.tails ht1 (show 0 + 1 < 18446744073709551616 by omega) i with (e | e) | e <;> omega

/-- A side's first turn. -/
def firstT (S : Nat → List UInt8) (h size side : Nat) : Option Nat := match rd S h size side 0 0 with
  | some (t, _, _) => if t % 2 = side then some t else none
  | none => none

/-- Is a turn behind another one? -/
def later (a b : Nat) : Bool := decide (0 < (a + 18446744073709551616 - b) % 18446744073709551616 ∧ (a + 18446744073709551616 - b) % 18446744073709551616 < 9223372036854775808)

def bgStep (S : Nat → List UInt8) (h size : Nat) (p : Bool × Nat) (side : Nat) : Bool × Nat := match firstT S h size side with
  | some t => if !p.1 || later t p.2 then (true, t) else p
  | none => p

/-- The turn that a log is opened at. -/
def turnOf (S : Nat → List UInt8) (h size : Nat) : Nat := (bgStep S h size (bgStep S h size (false, 0) 0) 1).2

theorem LogOK.firstTop {S : Nat → List UInt8} {h size side t : Nat} {L : Lg} (hs : 0 < size) (o : LogOK S h size L) (hside : side < 2) (e : firstT S h size side = some t) : t ≤ L.turn ∧ t % 2 = side := by
  unfold firstT at e
  split at e
  · rename_i t' rs beh hrd
    split at e
    · rename_i hp
      cases e
      obtain ⟨h1, _, _, h2, _⟩ := rd_some hs hrd
      have hi : side * h + 0 < 2 * h := by
        have : side = 0 ∨ side = 1 := by omega
        rcases this with g | g
        · subst g; omega
        · subst g; omega
      have := o.top (side * h + 0) hi
      exact ⟨by omega, hp⟩
    · cases e
  · cases e

theorem LogOK.turnOf {S : Nat → List UInt8} {h size : Nat} {L : Lg} (hs : 0 < size) (hh : 0 < h) (o : LogOK S h size L) : turnOf S h size = L.turn := by
  have bT := o.bT
  have l1 : ∀ t, t < L.turn → later L.turn t = true := fun t ht => by
    unfold later
    have : (L.turn + 18446744073709551616 - t) % 18446744073709551616 = L.turn - t := by
      rw [show L.turn + 18446744073709551616 - t = (L.turn - t) + 18446744073709551616 by omega, Nat.add_mod_right, Nat.mod_eq_of_lt (by omega)]
    rw [this]
    exact decide_eq_true (by omega)
  have l2 : ∀ t, t < L.turn → later t L.turn = false := fun t ht => by
    unfold later
    have : (t + 18446744073709551616 - L.turn) % 18446744073709551616 = t + 18446744073709551616 - L.turn := Nat.mod_eq_of_lt (by omega)
    rw [this]
    exact decide_eq_false (by omega)
  have f0 := fun t => o.firstTop (side := 0) (t := t) hs (by omega)
  have f1 := fun t => o.firstTop (side := 1) (t := t) hs (by omega)
  have hmy : L.next = 0 ∨ firstT S h size (L.turn % 2) = some L.turn := by
    rcases Nat.eq_zero_or_pos L.next with g | g
    · exact .inl g
    · right
      obtain ⟨a, xs, rs, beh, c, e⟩ := o.chain.upto 0 g
      cases c
      unfold firstT
      rw [e]
      exact if_pos rfl
  unfold Go.Proofs.Ytnchclleiccofaa.turnOf bgStep
  rcases hmy with g | g
  · have ht : L.turn = 0 := by have := o.first; omega
    have hat : L.at_ = 0 := by
      have hz : ∀ a n xs, Chain S h size (L.turn % 2) L.turn a n xs → n = 0 → a = 0 := fun a n xs c e => by
        cases c with
        | zero => rfl
        | step _ _ => cases e
      exact hz _ _ _ o.chain g
    have n0 : firstT S h size 0 = none := by
      cases e : firstT S h size 0 with
      | none => rfl
      | some t =>
        unfold firstT at e
        split at e
        · rename_i t' rs beh hrd
          obtain ⟨h1, _, _, h2, h3⟩ := rd_some hs hrd
          have h4 := o.top (0 * h + 0) (by omega)
          have h5 := o.free 0 (by omega) hh (by rw [ht] at h4 ⊢; simpa using h4)
          rw [ht, g] at h5
          simp at h5 h3
          omega
        · cases e
    have n1 : firstT S h size 1 = none := by
      cases e : firstT S h size 1 with
      | none => rfl
      | some t => have := f1 t e; omega
    rw [n0, n1]
    exact ht.symm
  · rcases Nat.mod_two_eq_zero_or_one L.turn with p | p
    · rw [p] at g
      rw [g]
      cases e : firstT S h size 1 with
      | none => rfl
      | some t =>
        have := f1 t e
        simp only [Bool.not_false, Bool.true_or, if_true, Bool.not_true, Bool.false_or]
        rw [l2 t (by omega)]
        rfl
    · rw [p] at g
      rw [g]
      cases e : firstT S h size 0 with
      | none => rfl
      | some t =>
        have := f0 t e
        simp only [Bool.not_false, Bool.true_or, if_true, Bool.not_true, Bool.false_or]
        rw [l1 t (by omega)]
        rfl

end Go.Proofs.Ytnchclleiccofaa
