/-
  WalTogether: two logs, each on its own disk. No statement is proved here; no condition.
-/
import Derived.Test.YtnchclleiccofaaWalX
namespace Go.Proofs.Ytnchclleiccofaa
open Go.RowKit Go.Maps

/-- What is a log's own. -/
def LOwn (p b sb mb ub : Nat) (q : Nat) : Prop := Own3 b sb mb q ∨ q = ub ∨ q = p

theorem LogHas.not_bytes {w : World} {p b sb mb ub : Nat} {d : Dk} {L : Lg} (h : LogHas w p b sb mb ub d L) {q : Nat} (hq : LOwn p b sb mb ub q) (cur : Array Value) (fz : Nat × Nat) : w.heap[q]? ≠ some (.cells cur 5 fz) := fun e => by
  rcases hq with hq | hq | hq
  · exact h.disk.not_bytes hq cur fz e
  · subst hq; exact mp_not_cells h.at_.undone _ _ _ e
  · subst hq; rw [h.at_.obj] at e; cases e

theorem LogHas.lt {w : World} {p b sb mb ub : Nat} {d : Dk} {L : Lg} (h : LogHas w p b sb mb ub d L) {q : Nat} (hq : LOwn p b sb mb ub q) : q < w.heap.size := by
  obtain ⟨es, cc, hx⟩ := h.at_.undone.heap
  rcases hq with hq | hq | hq
  · exact h.disk.lt hq
  · subst hq; exact lt_of_heap hx
  · subst hq; exact lt_of_heap h.at_.obj

theorem LogHas.beside {w w' : World} {p b sb mb ub p' b' sb' mb' ub' : Nat} {d d' : Dk} {L L' : Lg} (h : LogHas w p b sb mb ub d L) (h' : LogHas w p' b' sb' mb' ub' d' L') (hm : Mod (LOwn p' b' sb' mb' ub') w w')
    (hn : ∀ q, LOwn p b sb mb ub q → ¬ LOwn p' b' sb' mb' ub' q) : LogHas w' p b sb mb ub d L :=
  ⟨h.disk.keep hm (hn _ (.inl (.inl rfl))) (hn _ (.inl (.inr (.inl rfl)))) (hn _ (.inl (.inr (.inr rfl)))) (fun _ e => .inr fun cur fz => h'.not_bytes e cur fz),
    ⟨hm.keep h.at_.obj (hn _ (.inr (.inr rfl))), h.at_.undone.keep hm (hn _ (.inr (.inl rfl)))⟩, h.ne, h.well, h.n, h.sz, h.ok⟩

/-- Two logs. -/
structure Two (w0 w : World) (b1 p1 b2 p2 : Nat) (O : Nat → Prop) (L1 L2 : Lg) : Prop where
  has : ∃ s1 m1 u1 d1 s2 m2 u2 d2, LogHas w p1 b1 s1 m1 u1 d1 L1 ∧ d1.n = 200 ∧ d1.sz = 256 ∧ LogHas w p2 b2 s2 m2 u2 d2 L2 ∧ d2.n = 200 ∧ d2.sz = 256 ∧ (∀ q, LOwn p1 b1 s1 m1 u1 q → O q) ∧ (∀ q, LOwn p2 b2 s2 m2 u2 q → O q) ∧
    ∀ q, LOwn p1 b1 s1 m1 u1 q → ¬ LOwn p2 b2 s2 m2 u2 q
  low : ∀ q, O q → w0.heap.size ≤ q
  high : ∀ q, O q → q < w.heap.size
  mod : Mod No w0 w

theorem Two.swap {w0 w : World} {b1 p1 b2 p2 : Nat} {O : Nat → Prop} {L1 L2 : Lg} (h : Two w0 w b1 p1 b2 p2 O L1 L2) : Two w0 w b2 p2 b1 p1 O L2 L1 := by
  obtain ⟨s1, m1, u1, d1, s2, m2, u2, d2, h1, n1, z1, h2, n2, z2, o1, o2, hd⟩ := h.has
  exact ⟨⟨s2, m2, u2, d2, s1, m1, u1, d1, h2, n2, z2, h1, n1, z1, o2, o1, fun q a b => hd q b a⟩, h.low, h.high, h.mod⟩

theorem Two.left {w0 w : World} {b1 p1 b2 p2 : Nat} {O : Nat → Prop} {L1 L2 : Lg} (h : Two w0 w b1 p1 b2 p2 O L1 L2) : St w0 w 200 b1 p1 O L1 := by
  obtain ⟨s1, m1, u1, d1, s2, m2, u2, d2, h1, n1, z1, h2, n2, z2, o1, o2, hd⟩ := h.has
  exact ⟨⟨s1, m1, u1, d1, h1, n1, z1, o1⟩, h.low, h.high, h.mod⟩

theorem Two.stay {w0 w w' : World} {b1 p1 b2 p2 : Nat} {O : Nat → Prop} {L1 L2 : Lg} (h : Two w0 w b1 p1 b2 p2 O L1 L2) (hm : Mod No w w') : Two w0 w' b1 p1 b2 p2 O L1 L2 := by
  obtain ⟨s1, m1, u1, d1, s2, m2, u2, d2, h1, n1, z1, h2, n2, z2, o1, o2, hd⟩ := h.has
  exact ⟨⟨s1, m1, u1, d1, s2, m2, u2, d2, h1.stay hm, n1, z1, h2.stay hm, n2, z2, o1, o2, hd⟩, h.low, fun q hq => Nat.lt_of_lt_of_le (h.high q hq) hm.size, h.mod.trans hm⟩

theorem Two.commit {w0 w : World} {b1 p1 b2 p2 : Nat} {O : Nat → Prop} {L1 L2 : Lg} {v : Value} {rs : List (List UInt8)} (h : Two w0 w b1 p1 b2 p2 O L1 L2) (hv : Recs w No v rs) (hl : rs.length ≤ 1000000000) (hE : wrE 100 240 L1.at_ rs = 0) :
    Calls Try.prog 29 #[.pointer (some ⟨p1, 0, none⟩), v] w fun e w' => e = .returned (.int .i64 0) ∧ Two w0 w' b1 p1 b2 p2 O ⟨L1.turn, L1.next + 1, L1.at_ + secs 240 (32 + (bodyB rs).length), L1.all ++ rs⟩ L2 ∧ Mod O w w' := by
  obtain ⟨s1, m1, u1, d1, s2, m2, u2, d2, h1, n1, z1, h2, n2, z2, o1, o2, hd⟩ := h.has
  refine (commit_any h1 hv hl).mono ?_
  rw [n1, z1, show wrE (200 / 2) (256 - 16) L1.at_ rs = 0 from hE]
  rintro e w' ⟨rfl, ⟨he, hm⟩ | ⟨he, hm, d', e1, e2, hL⟩⟩
  · exact absurd rfl he
  · have hmO : Mod O w w' := hm.weaken fun q _ e => o1 q e
    exact ⟨rfl, ⟨⟨s1, m1, u1, d', s2, m2, u2, d2, hL, e1, e2, h2.beside h1 hm (fun q a b => hd q b a), n2, z2, o1, o2, hd⟩, h.low, fun q hq => Nat.lt_of_lt_of_le (h.high q hq) hm.size, h.mod.then hmO fun i hi e => by have := h.low i e; omega⟩, hmO⟩

/-- Two disks, both new: their logs are opened. -/
theorem Two.first {w0 w w' w2 : World} {b1 s1 m1 b2 s2 m2 p1 u1 p2 u2 : Nat} {d1 d2 : Dk} {L : Lg} (e1 : d1.n = 200 ∧ d1.sz = 256) (e2 : d2.n = 200 ∧ d2.sz = 256) (h1 : LogHas w p1 b1 s1 m1 u1 d1 L) (h2 : LogHas w2 p2 b2 s2 m2 u2 d2 L) (hm : Mod No w w2) (hm0 : Mod No w0 w)
    (l1 : ∀ q, LOwn p1 b1 s1 m1 u1 q → w0.heap.size ≤ q) (l2 : ∀ q, LOwn p2 b2 s2 m2 u2 q → w0.heap.size ≤ q) (hd : ∀ q, LOwn p1 b1 s1 m1 u1 q → ¬ LOwn p2 b2 s2 m2 u2 q) (_ : w' = w2) :
    Two w0 w2 b1 p1 b2 p2 (fun q => LOwn p1 b1 s1 m1 u1 q ∨ LOwn p2 b2 s2 m2 u2 q) L L :=
  ⟨⟨s1, m1, u1, d1, s2, m2, u2, d2, h1.stay hm, e1.1, e1.2, h2, e2.1, e2.2, fun _ => .inl, fun _ => .inr, hd⟩, fun q e => e.elim (l1 q) (l2 q), fun _ e => e.elim (fun e => Nat.lt_of_lt_of_le (h1.lt e) hm.size) (fun e => h2.lt e), hm0.trans hm⟩

theorem recs_nil (w : World) (X : Nat → Prop) : Recs w X (.slice none 0 0) [] := ⟨[], rfl, .inl ⟨rfl, rfl, rfl⟩, fun j u r h => by cases h⟩

/-- A part of a row. -/
theorem Recs.sub {w : World} {X : Nat → Prop} {g o c : Nat} {rs : List (List UInt8)} (h : Recs w X (.slice (some ⟨g, o, none⟩) rs.length c) rs) (i n : Nat) (hn : i + n ≤ rs.length) : Recs w X (.slice (some ⟨g, o + i, none⟩) n (c - i)) ((rs.drop i).take n) := by
  obtain ⟨vs, h1, h2, h3⟩ := h.row
  have hl : ((rs.drop i).take n).length = n := by rw [List.length_take, List.length_drop]; omega
  refine ⟨(vs.drop i).take n, by rw [hl, List.length_take, List.length_drop]; omega, ?_, fun j u r hu hr => ?_⟩
  · rcases h2 with ⟨h2, _⟩ | ⟨blk, o', c', cur, fz, hv, hn', hc, hx, hh, hle, hr⟩
    · cases h2
    · cases hv
      refine .inr ⟨g, o + i, c - i, cur, fz, by rw [hl], by omega, by omega, hx, hh, by rw [List.length_take, List.length_drop]; omega, fun j hj => ?_⟩
      rw [List.length_take, List.length_drop] at hj
      rw [List.getElem?_take_of_lt (by omega), List.getElem?_drop, ← hr (i + j) (by omega), Nat.add_assoc]
  · have hj : j < n := by
      have := (List.getElem?_eq_some_iff.1 hr).1
      omega
    rw [List.getElem?_take_of_lt hj, List.getElem?_drop] at hu hr
    exact h3 (i + j) u r hu hr

theorem body_short : ∀ l : List (List UInt8), (∀ r ∈ l, r.length ≤ 255) → (bodyB l).length ≤ 259 * l.length
  | [], _ => by simp [bodyB]
  | r :: l, hr => by
    have h1 := hr r (by simp)
    have h2 := body_short l fun r' h' => hr r' (by simp [h'])
    have e : bodyB (r :: l) = recB r ++ bodyB l := by simp [bodyB]
    rw [e, List.length_append, List.length_cons]
    simp only [recB, List.length_append, be_len]
    omega

theorem wrE_short {H at_ : Nat} {rs : List (List UInt8)} (hs : ∀ r ∈ rs, r.length ≤ 255) (h : 32 + 259 * rs.length ≤ (H - at_) * 240) : wrE H 240 at_ rs = 0 := by
  unfold wrE
  have h1 : rs.any isLong = false := by
    rw [List.any_eq_false]
    intro r hr
    have := hs r hr
    unfold isLong
    simp; omega
  rw [if_neg (by rw [h1]; decide), if_neg (by have := body_short rs hs; omega)]

end Go.Proofs.Ytnchclleiccofaa
