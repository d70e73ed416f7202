/-
  The law DiskPlays: a round of the loop that makes its model, in whatever order its effects come. No statement is proved here; no condition.
-/
import Derived.Test.YtjmnpfbinjlegaaBag
import Derived.Test.YtjmnpfbinjlegaaPlayC
import Derived.Deep.AppendLies
namespace Go.Proofs.Ytjmnpfbinjlegaa
open Go.RowKit Go.Maps

theorem own_keep {S : Nat → Prop} {w w' : World} {base : Nat} {e : TypeId} {size : Nat} {v : Value} {n : Nat} {xs : List Value} (h : w.ownsRow base e size v n xs) (hm : Mod S w w') (hs : ∀ k, v.ownBlock = some k → ¬ S k) : w'.ownsRow base e size v n xs := by
  obtain ⟨hl, h | ⟨g, cap, cur, hv, hg, hh, r⟩⟩ := h
  · exact ⟨hl, .inl h⟩
  · exact ⟨hl, .inr ⟨g, cap, cur, hv, hg, hm.keep hh (hs g (by rw [hv]; rfl)), r⟩⟩

theorem own_heap {w : World} {base : Nat} {e : TypeId} {size : Nat} {v : Value} {n : Nat} {xs : List Value} (h : w.ownsRow base e size v n xs) {k : Nat} (hk : v.ownBlock = some k) : ∃ cur, w.heap[k]? = some (.cells cur e (0, 0)) := by
  obtain ⟨_, ⟨hv, _⟩ | ⟨g, cap, cur, hv, hg, hh, r⟩⟩ := h
  · rw [hv] at hk; cases hk
  · rw [hv] at hk; cases hk; exact ⟨_, hh⟩

/-- A row of one's own whose elements are P. -/
structure RowAt (w : World) (base : Nat) (e : TypeId) (P : World → Value → Prop) (v : Value) (n : Nat) : Prop where
  row : ∃ xs : List Value, w.ownsRow base e 1 v n xs ∧ ∀ (j : Nat) (x : Value), xs[j]? = some x → P w x

def Zs (sz : Nat) (w : World) (x : Value) : Prop := Sl w No 5 x sz (bv (List.replicate sz 0))
def Fs (_ : World) (x : Value) : Prop := x = .bool false

theorem Zs.keep {S : Nat → Prop} {w w' : World} {sz : Nat} {x : Value} (h : Zs sz w x) (hm : Mod S w w') (hs : Beside w No S) : Zs sz w' x := Sl.beside h hm hs

theorem RowAt.keepZ {S : Nat → Prop} {w w' : World} {base sz n : Nat} {e : TypeId} {v : Value} (h : RowAt w base e (Zs sz) v n) (hm : Mod S w w') (hs : Beside w No S) (ho : ∀ k, v.ownBlock = some k → ¬ S k) : RowAt w' base e (Zs sz) v n := by
  obtain ⟨xs, h1, h2⟩ := h.row
  exact ⟨xs, own_keep h1 hm ho, fun j x hx => (h2 j x hx).keep hm hs⟩
theorem RowAt.keepF {S : Nat → Prop} {w w' : World} {base n : Nat} {e : TypeId} {v : Value} (h : RowAt w base e Fs v n) (hm : Mod S w w') (ho : ∀ k, v.ownBlock = some k → ¬ S k) : RowAt w' base e Fs v n := by
  obtain ⟨xs, h1, h2⟩ := h.row
  exact ⟨xs, own_keep h1 hm ho, fun j x hx => h2 j x hx⟩
theorem RowAt.lt {w : World} {base n : Nat} {e : TypeId} {P : World → Value → Prop} {v : Value} (h : RowAt w base e P v n) {k : Nat} (hk : v.ownBlock = some k) : base ≤ k ∧ k < w.heap.size := by
  obtain ⟨xs, h1, _⟩ := h.row
  exact h1.lt k hk
theorem RowAt.heap {w : World} {base n : Nat} {e : TypeId} {P : World → Value → Prop} {v : Value} (h : RowAt w base e P v n) {k : Nat} (hk : v.ownBlock = some k) : ∃ cur, w.heap[k]? = some (.cells cur e (0, 0)) := by
  obtain ⟨xs, h1, _⟩ := h.row
  exact own_heap h1 hk

/-- A new block that holds one value. -/
def Box (w : World) (e : TypeId) (v u : Value) : Prop := ∃ g, v = .slice (some ⟨g, 0, none⟩) 1 1 ∧ w.heap[g]? = some (.cells #[u] e (0, 0))

theorem Box.keep {S : Nat → Prop} {w w' : World} {e : TypeId} {v u : Value} (h : Box w e v u) (hm : Mod S w w') (ho : ∀ k, v.ownBlock = some k → ¬ S k) : Box w' e v u := by
  obtain ⟨g, rfl, hh⟩ := h
  exact ⟨g, rfl, hm.keep hh (ho g rfl)⟩
theorem Box.lt {w : World} {e : TypeId} {v u : Value} (h : Box w e v u) {k : Nat} (hk : v.ownBlock = some k) : k < w.heap.size ∧ w.heap[k]? = some (.cells #[u] e (0, 0)) := by
  obtain ⟨g, rfl, hh⟩ := h
  cases hk
  exact ⟨lt_of_heap hh, hh⟩

def now (o : Option Value) (v : Value) : Value := o.getD v
def cnt (o : Option Value) (k : Nat) : Nat := if o.isSome then k + 1 else k

/-- Two slices do not share a block. -/
def Off (u v : Value) : Prop := ∀ k, u.ownBlock = some k → v.ownBlock ≠ some k

/-- Within a round: σ tells what each operation has yielded. -/
structure BG (w0 : World) (q sz k : Nat) (vl vs vf : Value) (σ : Nat → Option Value) (w : World) : Prop where
  mod : Mod No w0 w
  q : w.heap[q]? = some (.cells #[vl, vs, vf, .bool false, .bool false, .int .i64 0] 48 (0, 0))
  l : RowAt w w0.heap.size 33 (Zs sz) (now (σ 11) vl) (cnt (σ 11) k)
  s : RowAt w w0.heap.size 33 (Zs sz) (now (σ 20) vs) (cnt (σ 20) k)
  f : RowAt w w0.heap.size 4 Fs (now (σ 26) vf) (cnt (σ 26) k)
  l6 : ∀ v, σ 6 = some v → v = vl
  l15 : ∀ v, σ 15 = some v → v = vs
  l24 : ∀ v, σ 24 = some v → v = vf
  m9 : ∀ v, σ 9 = some v → Zs sz w v
  m18 : ∀ v, σ 18 = some v → Zs sz w v
  g10 : ∀ v, σ 10 = some v → ∃ u, Zs sz w u ∧ Box w 33 v u
  g19 : ∀ v, σ 19 = some v → ∃ u, Zs sz w u ∧ Box w 33 v u
  g25 : ∀ v, σ 25 = some v → Box w 4 v (.bool false)
  d1 : Off (now (σ 11) vl) (now (σ 20) vs)
  d2 : ∀ v, σ 10 = some v → Off v (now (σ 11) vl) ∧ Off v (now (σ 20) vs)
  d3 : ∀ v, σ 19 = some v → Off v (now (σ 11) vl) ∧ Off v (now (σ 20) vs)
  d4 : ∀ v, σ 25 = some v → Off v (now (σ 26) vf)

theorem BG.stay {w0 : World} {q sz k : Nat} {vl vs vf : Value} {σ : Nat → Option Value} {w w' : World} (h : BG w0 q sz k vl vs vf σ w) (hm : Mod No w w') : BG w0 q sz k vl vs vf σ w' :=
  have n : ∀ (v : Value) k, v.ownBlock = some k → ¬ No k := fun _ _ _ f => f
  have b := beside_no w No
  ⟨h.mod.trans hm, hm.keep h.q (fun f => f), h.l.keepZ hm b (n _), h.s.keepZ hm b (n _), h.f.keepF hm (n _), h.l6, h.l15, h.l24, fun v e => (h.m9 v e).keep hm b, fun v e => (h.m18 v e).keep hm b,
    fun v e => let ⟨u, a, c⟩ := h.g10 v e; ⟨u, a.keep hm b, c.keep hm (n _)⟩, fun v e => let ⟨u, a, c⟩ := h.g19 v e; ⟨u, a.keep hm b, c.keep hm (n _)⟩, fun v e => (h.g25 v e).keep hm (n _), h.d1, h.d2, h.d3, h.d4⟩

theorem upd_ne {σ : Nat → Option Value} {i j : Nat} (v : Value) (h : j ≠ i) : upd σ i v j = σ j := if_neg h
theorem upd_eq (σ : Nat → Option Value) (i : Nat) (v : Value) : upd σ i v i = some v := if_pos rfl

theorem off_new {w : World} {v x : Value} (hv : ∀ k, v.ownBlock = some k → k = w.heap.size) (hx : ∀ k, x.ownBlock = some k → k < w.heap.size) : Off v x := fun k h1 h2 => by
  have := hv k h1
  have := hx k h2
  omega

section
variable {w0 : World} {q sz k : Nat} {vl vs vf : Value} {σ : Nat → Option Value} {w : World}
theorem BG.put6 (h : BG w0 q sz k vl vs vf σ w) (v : Value) (hv : v = vl) : BG w0 q sz k vl vs vf (upd σ 6 v) w :=
  ⟨h.mod, h.q, by rw [upd_ne v (show (11 : Nat) ≠ 6 by decide)]; exact h.l, by rw [upd_ne v (show (20 : Nat) ≠ 6 by decide)]; exact h.s, by rw [upd_ne v (show (26 : Nat) ≠ 6 by decide)]; exact h.f, fun x e => by rw [upd_eq] at e; cases e; exact hv, by rw [upd_ne v (show (15 : Nat) ≠ 6 by decide)]; exact h.l15, by rw [upd_ne v (show (24 : Nat) ≠ 6 by decide)]; exact h.l24, by rw [upd_ne v (show (9 : Nat) ≠ 6 by decide)]; exact h.m9, by rw [upd_ne v (show (18 : Nat) ≠ 6 by decide)]; exact h.m18, by rw [upd_ne v (show (10 : Nat) ≠ 6 by decide)]; exact h.g10, by rw [upd_ne v (show (19 : Nat) ≠ 6 by decide)]; exact h.g19, by rw [upd_ne v (show (25 : Nat) ≠ 6 by decide)]; exact h.g25, by rw [upd_ne v (show (11 : Nat) ≠ 6 by decide), upd_ne v (show (20 : Nat) ≠ 6 by decide)]; exact h.d1, by rw [upd_ne v (show (10 : Nat) ≠ 6 by decide), upd_ne v (show (11 : Nat) ≠ 6 by decide), upd_ne v (show (20 : Nat) ≠ 6 by decide)]; exact h.d2, by rw [upd_ne v (show (19 : Nat) ≠ 6 by decide), upd_ne v (show (11 : Nat) ≠ 6 by decide), upd_ne v (show (20 : Nat) ≠ 6 by decide)]; exact h.d3, by rw [upd_ne v (show (25 : Nat) ≠ 6 by decide), upd_ne v (show (26 : Nat) ≠ 6 by decide)]; exact h.d4⟩
theorem BG.put15 (h : BG w0 q sz k vl vs vf σ w) (v : Value) (hv : v = vs) : BG w0 q sz k vl vs vf (upd σ 15 v) w :=
  ⟨h.mod, h.q, by rw [upd_ne v (show (11 : Nat) ≠ 15 by decide)]; exact h.l, by rw [upd_ne v (show (20 : Nat) ≠ 15 by decide)]; exact h.s, by rw [upd_ne v (show (26 : Nat) ≠ 15 by decide)]; exact h.f, by rw [upd_ne v (show (6 : Nat) ≠ 15 by decide)]; exact h.l6, fun x e => by rw [upd_eq] at e; cases e; exact hv, by rw [upd_ne v (show (24 : Nat) ≠ 15 by decide)]; exact h.l24, by rw [upd_ne v (show (9 : Nat) ≠ 15 by decide)]; exact h.m9, by rw [upd_ne v (show (18 : Nat) ≠ 15 by decide)]; exact h.m18, by rw [upd_ne v (show (10 : Nat) ≠ 15 by decide)]; exact h.g10, by rw [upd_ne v (show (19 : Nat) ≠ 15 by decide)]; exact h.g19, by rw [upd_ne v (show (25 : Nat) ≠ 15 by decide)]; exact h.g25, by rw [upd_ne v (show (11 : Nat) ≠ 15 by decide), upd_ne v (show (20 : Nat) ≠ 15 by decide)]; exact h.d1, by rw [upd_ne v (show (10 : Nat) ≠ 15 by decide), upd_ne v (show (11 : Nat) ≠ 15 by decide), upd_ne v (show (20 : Nat) ≠ 15 by decide)]; exact h.d2, by rw [upd_ne v (show (19 : Nat) ≠ 15 by decide), upd_ne v (show (11 : Nat) ≠ 15 by decide), upd_ne v (show (20 : Nat) ≠ 15 by decide)]; exact h.d3, by rw [upd_ne v (show (25 : Nat) ≠ 15 by decide), upd_ne v (show (26 : Nat) ≠ 15 by decide)]; exact h.d4⟩
theorem BG.put24 (h : BG w0 q sz k vl vs vf σ w) (v : Value) (hv : v = vf) : BG w0 q sz k vl vs vf (upd σ 24 v) w :=
  ⟨h.mod, h.q, by rw [upd_ne v (show (11 : Nat) ≠ 24 by decide)]; exact h.l, by rw [upd_ne v (show (20 : Nat) ≠ 24 by decide)]; exact h.s, by rw [upd_ne v (show (26 : Nat) ≠ 24 by decide)]; exact h.f, by rw [upd_ne v (show (6 : Nat) ≠ 24 by decide)]; exact h.l6, by rw [upd_ne v (show (15 : Nat) ≠ 24 by decide)]; exact h.l15, fun x e => by rw [upd_eq] at e; cases e; exact hv, by rw [upd_ne v (show (9 : Nat) ≠ 24 by decide)]; exact h.m9, by rw [upd_ne v (show (18 : Nat) ≠ 24 by decide)]; exact h.m18, by rw [upd_ne v (show (10 : Nat) ≠ 24 by decide)]; exact h.g10, by rw [upd_ne v (show (19 : Nat) ≠ 24 by decide)]; exact h.g19, by rw [upd_ne v (show (25 : Nat) ≠ 24 by decide)]; exact h.g25, by rw [upd_ne v (show (11 : Nat) ≠ 24 by decide), upd_ne v (show (20 : Nat) ≠ 24 by decide)]; exact h.d1, by rw [upd_ne v (show (10 : Nat) ≠ 24 by decide), upd_ne v (show (11 : Nat) ≠ 24 by decide), upd_ne v (show (20 : Nat) ≠ 24 by decide)]; exact h.d2, by rw [upd_ne v (show (19 : Nat) ≠ 24 by decide), upd_ne v (show (11 : Nat) ≠ 24 by decide), upd_ne v (show (20 : Nat) ≠ 24 by decide)]; exact h.d3, by rw [upd_ne v (show (25 : Nat) ≠ 24 by decide), upd_ne v (show (26 : Nat) ≠ 24 by decide)]; exact h.d4⟩
theorem BG.put9 (h : BG w0 q sz k vl vs vf σ w) (v : Value) (hv : Zs sz w v) : BG w0 q sz k vl vs vf (upd σ 9 v) w :=
  ⟨h.mod, h.q, by rw [upd_ne v (show (11 : Nat) ≠ 9 by decide)]; exact h.l, by rw [upd_ne v (show (20 : Nat) ≠ 9 by decide)]; exact h.s, by rw [upd_ne v (show (26 : Nat) ≠ 9 by decide)]; exact h.f, by rw [upd_ne v (show (6 : Nat) ≠ 9 by decide)]; exact h.l6, by rw [upd_ne v (show (15 : Nat) ≠ 9 by decide)]; exact h.l15, by rw [upd_ne v (show (24 : Nat) ≠ 9 by decide)]; exact h.l24, fun x e => by rw [upd_eq] at e; cases e; exact hv, by rw [upd_ne v (show (18 : Nat) ≠ 9 by decide)]; exact h.m18, by rw [upd_ne v (show (10 : Nat) ≠ 9 by decide)]; exact h.g10, by rw [upd_ne v (show (19 : Nat) ≠ 9 by decide)]; exact h.g19, by rw [upd_ne v (show (25 : Nat) ≠ 9 by decide)]; exact h.g25, by rw [upd_ne v (show (11 : Nat) ≠ 9 by decide), upd_ne v (show (20 : Nat) ≠ 9 by decide)]; exact h.d1, by rw [upd_ne v (show (10 : Nat) ≠ 9 by decide), upd_ne v (show (11 : Nat) ≠ 9 by decide), upd_ne v (show (20 : Nat) ≠ 9 by decide)]; exact h.d2, by rw [upd_ne v (show (19 : Nat) ≠ 9 by decide), upd_ne v (show (11 : Nat) ≠ 9 by decide), upd_ne v (show (20 : Nat) ≠ 9 by decide)]; exact h.d3, by rw [upd_ne v (show (25 : Nat) ≠ 9 by decide), upd_ne v (show (26 : Nat) ≠ 9 by decide)]; exact h.d4⟩
theorem BG.put18 (h : BG w0 q sz k vl vs vf σ w) (v : Value) (hv : Zs sz w v) : BG w0 q sz k vl vs vf (upd σ 18 v) w :=
  ⟨h.mod, h.q, by rw [upd_ne v (show (11 : Nat) ≠ 18 by decide)]; exact h.l, by rw [upd_ne v (show (20 : Nat) ≠ 18 by decide)]; exact h.s, by rw [upd_ne v (show (26 : Nat) ≠ 18 by decide)]; exact h.f, by rw [upd_ne v (show (6 : Nat) ≠ 18 by decide)]; exact h.l6, by rw [upd_ne v (show (15 : Nat) ≠ 18 by decide)]; exact h.l15, by rw [upd_ne v (show (24 : Nat) ≠ 18 by decide)]; exact h.l24, by rw [upd_ne v (show (9 : Nat) ≠ 18 by decide)]; exact h.m9, fun x e => by rw [upd_eq] at e; cases e; exact hv, by rw [upd_ne v (show (10 : Nat) ≠ 18 by decide)]; exact h.g10, by rw [upd_ne v (show (19 : Nat) ≠ 18 by decide)]; exact h.g19, by rw [upd_ne v (show (25 : Nat) ≠ 18 by decide)]; exact h.g25, by rw [upd_ne v (show (11 : Nat) ≠ 18 by decide), upd_ne v (show (20 : Nat) ≠ 18 by decide)]; exact h.d1, by rw [upd_ne v (show (10 : Nat) ≠ 18 by decide), upd_ne v (show (11 : Nat) ≠ 18 by decide), upd_ne v (show (20 : Nat) ≠ 18 by decide)]; exact h.d2, by rw [upd_ne v (show (19 : Nat) ≠ 18 by decide), upd_ne v (show (11 : Nat) ≠ 18 by decide), upd_ne v (show (20 : Nat) ≠ 18 by decide)]; exact h.d3, by rw [upd_ne v (show (25 : Nat) ≠ 18 by decide), upd_ne v (show (26 : Nat) ≠ 18 by decide)]; exact h.d4⟩
theorem BG.put10 (h : BG w0 q sz k vl vs vf σ w) (v : Value) (hv : ∃ u, Zs sz w u ∧ Box w 33 v u) (hd : Off v (now (σ 11) vl) ∧ Off v (now (σ 20) vs)) : BG w0 q sz k vl vs vf (upd σ 10 v) w :=
  ⟨h.mod, h.q, by rw [upd_ne v (show (11 : Nat) ≠ 10 by decide)]; exact h.l, by rw [upd_ne v (show (20 : Nat) ≠ 10 by decide)]; exact h.s, by rw [upd_ne v (show (26 : Nat) ≠ 10 by decide)]; exact h.f, by rw [upd_ne v (show (6 : Nat) ≠ 10 by decide)]; exact h.l6, by rw [upd_ne v (show (15 : Nat) ≠ 10 by decide)]; exact h.l15, by rw [upd_ne v (show (24 : Nat) ≠ 10 by decide)]; exact h.l24, by rw [upd_ne v (show (9 : Nat) ≠ 10 by decide)]; exact h.m9, by rw [upd_ne v (show (18 : Nat) ≠ 10 by decide)]; exact h.m18, fun x e => by rw [upd_eq] at e; cases e; exact hv, by rw [upd_ne v (show (19 : Nat) ≠ 10 by decide)]; exact h.g19, by rw [upd_ne v (show (25 : Nat) ≠ 10 by decide)]; exact h.g25, by rw [upd_ne v (show (11 : Nat) ≠ 10 by decide), upd_ne v (show (20 : Nat) ≠ 10 by decide)]; exact h.d1, fun x e => by rw [upd_eq] at e; cases e; rw [upd_ne v (show (11 : Nat) ≠ 10 by decide), upd_ne v (show (20 : Nat) ≠ 10 by decide)]; exact hd, by rw [upd_ne v (show (19 : Nat) ≠ 10 by decide), upd_ne v (show (11 : Nat) ≠ 10 by decide), upd_ne v (show (20 : Nat) ≠ 10 by decide)]; exact h.d3, by rw [upd_ne v (show (25 : Nat) ≠ 10 by decide), upd_ne v (show (26 : Nat) ≠ 10 by decide)]; exact h.d4⟩
theorem BG.put19 (h : BG w0 q sz k vl vs vf σ w) (v : Value) (hv : ∃ u, Zs sz w u ∧ Box w 33 v u) (hd : Off v (now (σ 11) vl) ∧ Off v (now (σ 20) vs)) : BG w0 q sz k vl vs vf (upd σ 19 v) w :=
  ⟨h.mod, h.q, by rw [upd_ne v (show (11 : Nat) ≠ 19 by decide)]; exact h.l, by rw [upd_ne v (show (20 : Nat) ≠ 19 by decide)]; exact h.s, by rw [upd_ne v (show (26 : Nat) ≠ 19 by decide)]; exact h.f, by rw [upd_ne v (show (6 : Nat) ≠ 19 by decide)]; exact h.l6, by rw [upd_ne v (show (15 : Nat) ≠ 19 by decide)]; exact h.l15, by rw [upd_ne v (show (24 : Nat) ≠ 19 by decide)]; exact h.l24, by rw [upd_ne v (show (9 : Nat) ≠ 19 by decide)]; exact h.m9, by rw [upd_ne v (show (18 : Nat) ≠ 19 by decide)]; exact h.m18, by rw [upd_ne v (show (10 : Nat) ≠ 19 by decide)]; exact h.g10, fun x e => by rw [upd_eq] at e; cases e; exact hv, by rw [upd_ne v (show (25 : Nat) ≠ 19 by decide)]; exact h.g25, by rw [upd_ne v (show (11 : Nat) ≠ 19 by decide), upd_ne v (show (20 : Nat) ≠ 19 by decide)]; exact h.d1, by rw [upd_ne v (show (10 : Nat) ≠ 19 by decide), upd_ne v (show (11 : Nat) ≠ 19 by decide), upd_ne v (show (20 : Nat) ≠ 19 by decide)]; exact h.d2, fun x e => by rw [upd_eq] at e; cases e; rw [upd_ne v (show (11 : Nat) ≠ 19 by decide), upd_ne v (show (20 : Nat) ≠ 19 by decide)]; exact hd, by rw [upd_ne v (show (25 : Nat) ≠ 19 by decide), upd_ne v (show (26 : Nat) ≠ 19 by decide)]; exact h.d4⟩
theorem BG.put25 (h : BG w0 q sz k vl vs vf σ w) (v : Value) (hv : Box w 4 v (.bool false)) (hd : Off v (now (σ 26) vf)) : BG w0 q sz k vl vs vf (upd σ 25 v) w :=
  ⟨h.mod, h.q, by rw [upd_ne v (show (11 : Nat) ≠ 25 by decide)]; exact h.l, by rw [upd_ne v (show (20 : Nat) ≠ 25 by decide)]; exact h.s, by rw [upd_ne v (show (26 : Nat) ≠ 25 by decide)]; exact h.f, by rw [upd_ne v (show (6 : Nat) ≠ 25 by decide)]; exact h.l6, by rw [upd_ne v (show (15 : Nat) ≠ 25 by decide)]; exact h.l15, by rw [upd_ne v (show (24 : Nat) ≠ 25 by decide)]; exact h.l24, by rw [upd_ne v (show (9 : Nat) ≠ 25 by decide)]; exact h.m9, by rw [upd_ne v (show (18 : Nat) ≠ 25 by decide)]; exact h.m18, by rw [upd_ne v (show (10 : Nat) ≠ 25 by decide)]; exact h.g10, by rw [upd_ne v (show (19 : Nat) ≠ 25 by decide)]; exact h.g19, fun x e => by rw [upd_eq] at e; cases e; exact hv, by rw [upd_ne v (show (11 : Nat) ≠ 25 by decide), upd_ne v (show (20 : Nat) ≠ 25 by decide)]; exact h.d1, by rw [upd_ne v (show (10 : Nat) ≠ 25 by decide), upd_ne v (show (11 : Nat) ≠ 25 by decide), upd_ne v (show (20 : Nat) ≠ 25 by decide)]; exact h.d2, by rw [upd_ne v (show (19 : Nat) ≠ 25 by decide), upd_ne v (show (11 : Nat) ≠ 25 by decide), upd_ne v (show (20 : Nat) ≠ 25 by decide)]; exact h.d3, fun x e => by rw [upd_eq] at e; cases e; rw [upd_ne v (show (26 : Nat) ≠ 25 by decide)]; exact hd⟩

end
end Go.Proofs.Ytjmnpfbinjlegaa
