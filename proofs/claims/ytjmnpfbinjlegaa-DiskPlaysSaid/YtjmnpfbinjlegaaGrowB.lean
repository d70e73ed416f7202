/-
  The law DiskPlays: the appends of a round of the loop that makes its model. No statement is proved here; no condition.
-/
import Derived.Test.YtjmnpfbinjlegaaGrow
namespace Go.Proofs.Ytjmnpfbinjlegaa
open Go.RowKit Go.Maps

theorem info_bo : (Try.prog.info? 4).map (fun i => (i.zero, i.size, i.bytes)) = some (some (.bool false), 1, 1) := by kernel_rfl

section
variable {w0 : World} {q sz k : Nat} {vl vs vf : Value} {σ : Nat → Option Value} {w : World}

theorem Zs.one {w : World} {sz : Nat} {x : Value} (h : Zs sz w x) : x.oneCell' = true := by
  rcases h with ⟨rfl, _⟩ | ⟨_, _, _, _, _, rfl, _⟩ <;> rfl

theorem BG.app11 {o : Oper} {a : Act} {K : Act → World → Prop} {Q : Exit → Act → World → Prop} (s x : Operand) (ho : o.op = .call { callee := .builtin .append, args := #[s, x], argTypes := #[26, 26] })
    (hs : a.eval s = vl) (vx : Value) (hdep : σ 10 = some vx) (hx : a.eval x = vx) (h : BG w0 q sz k vl vs vf σ w) (h0 : σ 11 = none) (hk : k ≤ 1000) (hK : ∀ v w', BG w0 q sz k vl vs vf (upd σ 11 v) w' → K (a.put o.dst v) w') : o.wp Try.prog a w K Q := by
  obtain ⟨i0, hi, hz0, hz1, hz2⟩ := info_parts info_bs
  obtain ⟨u, hu, g, rfl, hg⟩ := h.g10 vx hdep
  have hl := h.l
  rw [h0] at hl
  have hl : RowAt w w0.heap.size 33 (Zs sz) vl k := hl
  obtain ⟨xs, hown, hP⟩ := hl.row
  refine wp_append_lies w s x 26 ho w0.heap.size 33 i0 (.slice none 0 0) 1 24 Try.underlying26 hi hz0 hz1 hz2 rfl (by decide) vl k xs hs hown ⟨g, 0, none⟩ 1 1 [u] hx rfl (fun j y hj => ?_) (fun y hy => ?_) (by decide) (by unfold maxLen; omega) (by omega) h.mod.size w.heap.size rfl ?_
  · cases j with
    | zero => cases hj; exact cell_ofA hg rfl
    | succ j => cases hj
  · rw [List.mem_singleton.1 hy]
    exact hu.one
  intro g' cap w' hown' hgr hat hlt
  apply hK
  have hm : Mod (fun b => vl.ownBlock = some b) w w' := Mod.of_grown hgr (fun b e _ => e)
  have hne : ∀ b (o : Obj), (∀ cur, o ≠ .cells cur 33 (0, 0)) → w.heap[b]? = some o → ¬ vl.ownBlock = some b := fun b o ho hb e => by
    obtain ⟨cur, hc⟩ := hl.heap e
    rw [hc] at hb
    cases hb
    exact ho cur rfl
  have hb : Beside w No (fun b => vl.ownBlock = some b) := fun b hb => .inr fun cur fz e => by
    obtain ⟨c, hc⟩ := hl.heap hb
    rw [hc] at e; cases e
  have hnew : (Value.slice (some ⟨g', 0, none⟩) (k + 1) cap).ownBlock = some g' := rfl
  have hd1 : Off vl (now (σ 20) vs) := by
    have := h.d1
    rw [h0] at this
    exact this
  have hd2 : ∀ v, σ 10 = some v → Off v vl := fun v e => by
    have := (h.d2 v e).1
    rw [h0] at this
    exact this
  have hd3 : ∀ v, σ 19 = some v → Off v vl := fun v e => by
    have := (h.d3 v e).1
    rw [h0] at this
    exact this
  have hoff : ∀ y : Value, Off vl y → (∀ b, y.ownBlock = some b → b < w.heap.size) → Off (.slice (some ⟨g', 0, none⟩) (k + 1) cap) y := fun y h1 h2 b e1 e2 => by
    rw [hnew] at e1
    cases e1
    rcases hat with r | r
    · exact h1 _ r e2
    · have := h2 _ e2; omega
  have hsym : ∀ y z : Value, Off y z → Off z y := fun y z h b e1 e2 => h b e2 e1
  refine ⟨h.mod.then hm (fun i hi e => by have := (hl.lt e).1; omega), hm.keep h.q (hne _ _ (fun cur e => by cases e) h.q), ?_, ?_, ?_, ?_, ?_, ?_, ?_, ?_, ?_, ?_, ?_, ?_, ?_, ?_, ?_⟩
  · rw [upd_eq]
    refine ⟨xs ++ [u], hown', fun j y hj => ?_⟩
    rcases Nat.lt_or_ge j xs.length with r | r
    · rw [List.getElem?_append_left r] at hj
      exact (hP j y hj).keep hm hb
    · rw [List.getElem?_append_right r] at hj
      cases hq : j - xs.length with
      | zero => rw [hq] at hj; cases hj; exact hu.keep hm hb
      | succ j' => rw [hq] at hj; cases hj
  · rw [upd_ne _ (show (20 : Nat) ≠ 11 by decide)]
    exact h.s.keepZ hm hb (fun b e r => hd1 b r e)
  · rw [upd_ne _ (show (26 : Nat) ≠ 11 by decide)]
    exact h.f.keepF hm (fun b e r => by obtain ⟨c, hc⟩ := h.f.heap e; exact hne _ _ (fun cur e => by cases e) hc r)
  · rw [upd_ne _ (show (6 : Nat) ≠ 11 by decide)]; exact h.l6
  · rw [upd_ne _ (show (15 : Nat) ≠ 11 by decide)]; exact h.l15
  · rw [upd_ne _ (show (24 : Nat) ≠ 11 by decide)]; exact h.l24
  · rw [upd_ne _ (show (9 : Nat) ≠ 11 by decide)]; exact fun v e => (h.m9 v e).keep hm hb
  · rw [upd_ne _ (show (18 : Nat) ≠ 11 by decide)]; exact fun v e => (h.m18 v e).keep hm hb
  · rw [upd_ne _ (show (10 : Nat) ≠ 11 by decide)]; exact fun v e => let ⟨u, a, c⟩ := h.g10 v e; ⟨u, a.keep hm hb, c.keep hm (fun b e1 r => hd2 v e b e1 r)⟩
  · rw [upd_ne _ (show (19 : Nat) ≠ 11 by decide)]; exact fun v e => let ⟨u, a, c⟩ := h.g19 v e; ⟨u, a.keep hm hb, c.keep hm (fun b e1 r => hd3 v e b e1 r)⟩
  · rw [upd_ne _ (show (25 : Nat) ≠ 11 by decide)]; exact fun v e => (h.g25 v e).keep hm (fun b e1 r => hne _ _ (fun cur e => by cases e) ((h.g25 v e).lt e1).2 r)
  · rw [upd_eq, upd_ne _ (show (20 : Nat) ≠ 11 by decide)]
    exact hoff _ hd1 (fun b e => (h.s.lt e).2)
  · rw [upd_eq, upd_ne _ (show (10 : Nat) ≠ 11 by decide), upd_ne _ (show (20 : Nat) ≠ 11 by decide)]
    exact fun v e => ⟨hsym _ _ (hoff _ (hsym _ _ (hd2 v e)) (fun b r => let ⟨_, _, c⟩ := h.g10 v e; (c.lt r).1)), (h.d2 v e).2⟩
  · rw [upd_eq, upd_ne _ (show (19 : Nat) ≠ 11 by decide), upd_ne _ (show (20 : Nat) ≠ 11 by decide)]
    exact fun v e => ⟨hsym _ _ (hoff _ (hsym _ _ (hd3 v e)) (fun b r => let ⟨_, _, c⟩ := h.g19 v e; (c.lt r).1)), (h.d3 v e).2⟩
  · rw [upd_ne _ (show (25 : Nat) ≠ 11 by decide), upd_ne _ (show (26 : Nat) ≠ 11 by decide)]; exact h.d4

theorem BG.app20 {o : Oper} {a : Act} {K : Act → World → Prop} {Q : Exit → Act → World → Prop} (s x : Operand) (ho : o.op = .call { callee := .builtin .append, args := #[s, x], argTypes := #[26, 26] })
    (hs : a.eval s = vs) (vx : Value) (hdep : σ 19 = some vx) (hx : a.eval x = vx) (h : BG w0 q sz k vl vs vf σ w) (h0 : σ 20 = none) (hk : k ≤ 1000) (hK : ∀ v w', BG w0 q sz k vl vs vf (upd σ 20 v) w' → K (a.put o.dst v) w') : o.wp Try.prog a w K Q := by
  obtain ⟨i0, hi, hz0, hz1, hz2⟩ := info_parts info_bs
  obtain ⟨u, hu, g, rfl, hg⟩ := h.g19 vx hdep
  have hl := h.s
  rw [h0] at hl
  have hl : RowAt w w0.heap.size 33 (Zs sz) vs k := hl
  obtain ⟨xs, hown, hP⟩ := hl.row
  refine wp_append_lies w s x 26 ho w0.heap.size 33 i0 (.slice none 0 0) 1 24 Try.underlying26 hi hz0 hz1 hz2 rfl (by decide) vs k xs hs hown ⟨g, 0, none⟩ 1 1 [u] hx rfl (fun j y hj => ?_) (fun y hy => ?_) (by decide) (by unfold maxLen; omega) (by omega) h.mod.size w.heap.size rfl ?_
  · cases j with
    | zero => cases hj; exact cell_ofA hg rfl
    | succ j => cases hj
  · rw [List.mem_singleton.1 hy]
    exact hu.one
  intro g' cap w' hown' hgr hat hlt
  apply hK
  have hm : Mod (fun b => vs.ownBlock = some b) w w' := Mod.of_grown hgr (fun b e _ => e)
  have hne : ∀ b (o : Obj), (∀ cur, o ≠ .cells cur 33 (0, 0)) → w.heap[b]? = some o → ¬ vs.ownBlock = some b := fun b o ho hb e => by
    obtain ⟨cur, hc⟩ := hl.heap e
    rw [hc] at hb
    cases hb
    exact ho cur rfl
  have hb : Beside w No (fun b => vs.ownBlock = some b) := fun b hb => .inr fun cur fz e => by
    obtain ⟨c, hc⟩ := hl.heap hb
    rw [hc] at e; cases e
  have hnew : (Value.slice (some ⟨g', 0, none⟩) (k + 1) cap).ownBlock = some g' := rfl
  have hd1 : Off vs (now (σ 11) vl) := by
    have := h.d1
    rw [h0] at this
    exact fun b e1 e2 => this b e2 e1
  have hd2 : ∀ v, σ 10 = some v → Off v vs := fun v e => by
    have := (h.d2 v e).2
    rw [h0] at this
    exact this
  have hd3 : ∀ v, σ 19 = some v → Off v vs := fun v e => by
    have := (h.d3 v e).2
    rw [h0] at this
    exact this
  have hoff : ∀ y : Value, Off vs y → (∀ b, y.ownBlock = some b → b < w.heap.size) → Off (.slice (some ⟨g', 0, none⟩) (k + 1) cap) y := fun y h1 h2 b e1 e2 => by
    rw [hnew] at e1
    cases e1
    rcases hat with r | r
    · exact h1 _ r e2
    · have := h2 _ e2; omega
  have hsym : ∀ y z : Value, Off y z → Off z y := fun y z h b e1 e2 => h b e2 e1
  refine ⟨h.mod.then hm (fun i hi e => by have := (hl.lt e).1; omega), hm.keep h.q (hne _ _ (fun cur e => by cases e) h.q), ?_, ?_, ?_, ?_, ?_, ?_, ?_, ?_, ?_, ?_, ?_, ?_, ?_, ?_, ?_⟩
  · rw [upd_ne _ (show (11 : Nat) ≠ 20 by decide)]
    exact h.l.keepZ hm hb (fun b e r => hd1 b r e)
  · rw [upd_eq]
    refine ⟨xs ++ [u], hown', fun j y hj => ?_⟩
    rcases Nat.lt_or_ge j xs.length with r | r
    · rw [List.getElem?_append_left r] at hj
      exact (hP j y hj).keep hm hb
    · rw [List.getElem?_append_right r] at hj
      cases hq : j - xs.length with
      | zero => rw [hq] at hj; cases hj; exact hu.keep hm hb
      | succ j' => rw [hq] at hj; cases hj
  · rw [upd_ne _ (show (26 : Nat) ≠ 20 by decide)]
    exact h.f.keepF hm (fun b e r => by obtain ⟨c, hc⟩ := h.f.heap e; exact hne _ _ (fun cur e => by cases e) hc r)
  · rw [upd_ne _ (show (6 : Nat) ≠ 20 by decide)]; exact h.l6
  · rw [upd_ne _ (show (15 : Nat) ≠ 20 by decide)]; exact h.l15
  · rw [upd_ne _ (show (24 : Nat) ≠ 20 by decide)]; exact h.l24
  · rw [upd_ne _ (show (9 : Nat) ≠ 20 by decide)]; exact fun v e => (h.m9 v e).keep hm hb
  · rw [upd_ne _ (show (18 : Nat) ≠ 20 by decide)]; exact fun v e => (h.m18 v e).keep hm hb
  · rw [upd_ne _ (show (10 : Nat) ≠ 20 by decide)]; exact fun v e => let ⟨u, a, c⟩ := h.g10 v e; ⟨u, a.keep hm hb, c.keep hm (fun b e1 r => hd2 v e b e1 r)⟩
  · rw [upd_ne _ (show (19 : Nat) ≠ 20 by decide)]; exact fun v e => let ⟨u, a, c⟩ := h.g19 v e; ⟨u, a.keep hm hb, c.keep hm (fun b e1 r => hd3 v e b e1 r)⟩
  · rw [upd_ne _ (show (25 : Nat) ≠ 20 by decide)]; exact fun v e => (h.g25 v e).keep hm (fun b e1 r => hne _ _ (fun cur e => by cases e) ((h.g25 v e).lt e1).2 r)
  · rw [upd_eq, upd_ne _ (show (11 : Nat) ≠ 20 by decide)]
    exact hsym _ _ (hoff _ hd1 (fun b e => (h.l.lt e).2))
  · rw [upd_eq, upd_ne _ (show (10 : Nat) ≠ 20 by decide), upd_ne _ (show (11 : Nat) ≠ 20 by decide)]
    exact fun v e => ⟨(h.d2 v e).1, hsym _ _ (hoff _ (hsym _ _ (hd2 v e)) (fun b r => let ⟨_, _, c⟩ := h.g10 v e; (c.lt r).1))⟩
  · rw [upd_eq, upd_ne _ (show (19 : Nat) ≠ 20 by decide), upd_ne _ (show (11 : Nat) ≠ 20 by decide)]
    exact fun v e => ⟨(h.d3 v e).1, hsym _ _ (hoff _ (hsym _ _ (hd3 v e)) (fun b r => let ⟨_, _, c⟩ := h.g19 v e; (c.lt r).1))⟩
  · rw [upd_ne _ (show (25 : Nat) ≠ 20 by decide), upd_ne _ (show (26 : Nat) ≠ 20 by decide)]; exact h.d4

theorem BG.app26 {o : Oper} {a : Act} {K : Act → World → Prop} {Q : Exit → Act → World → Prop} (s x : Operand) (ho : o.op = .call { callee := .builtin .append, args := #[s, x], argTypes := #[46, 46] })
    (hs : a.eval s = vf) (vx : Value) (hdep : σ 25 = some vx) (hx : a.eval x = vx) (h : BG w0 q sz k vl vs vf σ w) (h0 : σ 26 = none) (hk : k ≤ 1000) (hK : ∀ v w', BG w0 q sz k vl vs vf (upd σ 26 v) w' → K (a.put o.dst v) w') : o.wp Try.prog a w K Q := by
  obtain ⟨i0, hi, hz0, hz1, hz2⟩ := info_parts info_bo
  obtain ⟨g, rfl, hg⟩ := h.g25 vx hdep
  have hl := h.f
  rw [h0] at hl
  have hl : RowAt w w0.heap.size 4 Fs vf k := hl
  obtain ⟨xs, hown, hP⟩ := hl.row
  refine wp_append_lies w s x 46 ho w0.heap.size 4 i0 (.bool false) 1 1 Try.underlying46 hi hz0 hz1 hz2 rfl (by decide) vf k xs hs hown ⟨g, 0, none⟩ 1 1 [(Value.bool false)] hx rfl (fun j y hj => ?_) (fun y hy => ?_) (by decide) (by unfold maxLen; omega) (by omega) h.mod.size w.heap.size rfl ?_
  · cases j with
    | zero => cases hj; exact cell_ofA hg rfl
    | succ j => cases hj
  · rw [List.mem_singleton.1 hy]
    exact rfl
  intro g' cap w' hown' hgr hat hlt
  apply hK
  have hm : Mod (fun b => vf.ownBlock = some b) w w' := Mod.of_grown hgr (fun b e _ => e)
  have hne : ∀ b (o : Obj), (∀ cur, o ≠ .cells cur 4 (0, 0)) → w.heap[b]? = some o → ¬ vf.ownBlock = some b := fun b o ho hb e => by
    obtain ⟨cur, hc⟩ := hl.heap e
    rw [hc] at hb
    cases hb
    exact ho cur rfl
  have hb : Beside w No (fun b => vf.ownBlock = some b) := fun b hb => .inr fun cur fz e => by
    obtain ⟨c, hc⟩ := hl.heap hb
    rw [hc] at e; cases e
  have hnew : (Value.slice (some ⟨g', 0, none⟩) (k + 1) cap).ownBlock = some g' := rfl
  refine ⟨h.mod.then hm (fun i hi e => by have := (hl.lt e).1; omega), hm.keep h.q (hne _ _ (fun cur e => by cases e) h.q), ?_, ?_, ?_, ?_, ?_, ?_, ?_, ?_, ?_, ?_, ?_, ?_, ?_, ?_, ?_⟩
  · rw [upd_ne _ (show (11 : Nat) ≠ 26 by decide)]
    exact h.l.keepZ hm hb (fun b e r => by obtain ⟨c, hc⟩ := h.l.heap e; exact hne _ _ (fun cur e => by cases e) hc r)
  · rw [upd_ne _ (show (20 : Nat) ≠ 26 by decide)]
    exact h.s.keepZ hm hb (fun b e r => by obtain ⟨c, hc⟩ := h.s.heap e; exact hne _ _ (fun cur e => by cases e) hc r)
  · rw [upd_eq]
    refine ⟨xs ++ [(Value.bool false)], hown', fun j y hj => ?_⟩
    rcases Nat.lt_or_ge j xs.length with r | r
    · rw [List.getElem?_append_left r] at hj
      exact hP j y hj
    · rw [List.getElem?_append_right r] at hj
      cases hq : j - xs.length with
      | zero => rw [hq] at hj; cases hj; exact rfl
      | succ j' => rw [hq] at hj; cases hj
  · rw [upd_ne _ (show (6 : Nat) ≠ 26 by decide)]; exact h.l6
  · rw [upd_ne _ (show (15 : Nat) ≠ 26 by decide)]; exact h.l15
  · rw [upd_ne _ (show (24 : Nat) ≠ 26 by decide)]; exact h.l24
  · rw [upd_ne _ (show (9 : Nat) ≠ 26 by decide)]; exact fun v e => (h.m9 v e).keep hm hb
  · rw [upd_ne _ (show (18 : Nat) ≠ 26 by decide)]; exact fun v e => (h.m18 v e).keep hm hb
  · rw [upd_ne _ (show (10 : Nat) ≠ 26 by decide)]; exact fun v e => let ⟨u, a, c⟩ := h.g10 v e; ⟨u, a.keep hm hb, c.keep hm (fun b e r => hne _ _ (fun cur e => by cases e) (c.lt e).2 r)⟩
  · rw [upd_ne _ (show (19 : Nat) ≠ 26 by decide)]; exact fun v e => let ⟨u, a, c⟩ := h.g19 v e; ⟨u, a.keep hm hb, c.keep hm (fun b e r => hne _ _ (fun cur e => by cases e) (c.lt e).2 r)⟩
  · rw [upd_ne _ (show (25 : Nat) ≠ 26 by decide)]; exact fun v e => (h.g25 v e).keep hm (fun b e1 r => by have := h.d4 v e; rw [h0] at this; exact this b e1 r)
  · rw [upd_ne _ (show (11 : Nat) ≠ 26 by decide), upd_ne _ (show (20 : Nat) ≠ 26 by decide)]; exact h.d1
  · rw [upd_ne _ (show (10 : Nat) ≠ 26 by decide), upd_ne _ (show (11 : Nat) ≠ 26 by decide), upd_ne _ (show (20 : Nat) ≠ 26 by decide)]; exact h.d2
  · rw [upd_ne _ (show (19 : Nat) ≠ 26 by decide), upd_ne _ (show (11 : Nat) ≠ 26 by decide), upd_ne _ (show (20 : Nat) ≠ 26 by decide)]; exact h.d3
  · rw [upd_eq, upd_ne _ (show (25 : Nat) ≠ 26 by decide)]
    intro v e b e1 e2
    rw [show (now (some (Value.slice (some ⟨g', 0, none⟩) (k + 1) cap)) vf).ownBlock = some g' from rfl] at e2
    cases e2
    rcases hat with r | r
    · have := h.d4 v e
      rw [h0] at this
      exact this _ e1 r
    · have := ((h.g25 v e).lt e1).1
      omega

end
end Go.Proofs.Ytjmnpfbinjlegaa
