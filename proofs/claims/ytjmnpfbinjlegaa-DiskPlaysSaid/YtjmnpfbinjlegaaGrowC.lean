/-
  The law DiskPlays: single operations at any act. No statement is proved here; no condition.
-/
import Derived.Test.YtjmnpfbinjlegaaGrowB
namespace Go.Proofs.Ytjmnpfbinjlegaa
open Go.RowKit Go.Maps

theorem puts_out (σ : Nat → Option Value) (d : Nat) : ∀ (E : List (Nat × Nat)) (A : Act), (∀ e ∈ E, e.2 ≠ d) → (puts σ E A).eval (.tmp d) = A.eval (.tmp d)
  | [], _, _ => rfl
  | e :: E, A, h => by
    unfold puts
    rw [puts_out σ d E _ fun x hx => h x (by simp [hx])]
    cases σ e.1 with
    | none => rfl
    | some u =>
      show (A.tmps.setIfInBounds e.2 u).getD d undef = A.tmps.getD d undef
      rw [Array.getD_eq_getD_getElem?, Array.getD_eq_getD_getElem?, Array.getElem?_setIfInBounds_ne (h e (by simp))]

theorem puts_in {σ : Nat → Option Value} {i d : Nat} {v : Value} : ∀ (E : List (Nat × Nat)) (A : Act), (E.map (·.2)).Nodup → (i, d) ∈ E → σ i = some v → d < A.tmps.size → (puts σ E A).eval (.tmp d) = v
  | [], _, _, h, _, _ => by cases h
  | e :: E, A, h2, h, h0, hd => by
    simp only [List.map_cons, List.nodup_cons, List.mem_map, not_exists, not_and] at h2
    unfold puts
    by_cases he : e = (i, d)
    · subst he
      rw [puts_out σ d E _ fun x hx q => h2.1 x hx q]
      show (match σ i with | some v => A.put (some d) v | none => A).tmps.getD d undef = v
      rw [h0]
      show (A.tmps.setIfInBounds d v).getD d undef = v
      rw [Array.getD_eq_getD_getElem?, Array.getElem?_setIfInBounds_self_of_lt hd]
      rfl
    · have hm : (i, d) ∈ E := by
        rcases List.mem_cons.1 h with q | q
        · exact absurd q.symm he
        · exact q
      refine puts_in E _ h2.2 hm h0 ?_
      cases σ e.1 with
      | none => exact hd
      | some u => show d < (A.tmps.setIfInBounds e.2 u).size; rw [Array.size_setIfInBounds]; exact hd

theorem wpOp_of {P : Program} {ops : Array Oper} {Q : Exit → Act → World → Prop} {j : Nat} {K : Act → World → Prop} {a : Act} {w : World} {o : Oper} (ho : ops[j]? = some o) (hg : o.guard = none) (h : o.wp P a w K Q) : wpOp P ops Q j K a w := by
  unfold wpOp
  simp only [ho, Region.wanted, hg, if_true]
  exact .inl h

section
variable {o : Oper} {a : Act} {K : Act → World → Prop} {Q : Exit → Act → World → Prop} {w : World}

theorem wp_load_bs {p : Operand} {b i : Nat} {v : Value} (ho : o.op = .load 26 p) (hp : a.eval p = .pointer (some ⟨b, i, none⟩)) (hc : w.cell? ⟨b, i, none⟩ = some v) (h : K (a.put o.dst v) w) : o.wp Try.prog a w K Q := by
  unfold Oper.wp execOp
  simp only [ho, hp]
  go_simp
  exact h
theorem wp_load_bo {p : Operand} {b i : Nat} {v : Value} (ho : o.op = .load 46 p) (hp : a.eval p = .pointer (some ⟨b, i, none⟩)) (hc : w.cell? ⟨b, i, none⟩ = some v) (h : K (a.put o.dst v) w) : o.wp Try.prog a w K Q := by
  unfold Oper.wp execOp
  simp only [ho, hp]
  go_simp
  exact h
theorem wp_make_u8 {n : Operand} {m : Nat} (ho : o.op = .makeSlice 33 n n) (hn : a.eval n = .int .i64 (m : Int)) (hm : m ≤ 4096) (h : K (a.put o.dst (.slice (some ⟨w.heap.size, 0, none⟩) m m)) (w.alloc (.cells (madeCells #[.int .u8 0] m) 5))) : o.wp Try.prog a w K Q := by
  have hmk := run_make_row' (P := Try.prog) 33 5 (.int .u8 0) 1 Try.underlying33 info_u8 rfl .i64 .i64 m (by omega) (by omega) w
  unfold Oper.wp execOp
  simp only [ho, hn]
  go_simp
  exact h
theorem wp_build_bs {x : Operand} {ad : Option Addr} {n c : Nat} (ho : o.op = .buildSlice 26 1 #[(0, x)]) (hx : a.eval x = .slice ad n c) (h : K (a.put o.dst (.slice (some ⟨w.heap.size, 0, none⟩) 1 1)) (w.alloc (.cells #[.slice ad n c] 33))) : o.wp Try.prog a w K Q := by
  unfold Oper.wp execOp
  simp only [ho, List.map_toArray, List.map_cons, List.map_nil, hx]
  go_simp
  exact h
theorem wp_build_bo {x : Operand} {b : Bool} (ho : o.op = .buildSlice 46 1 #[(0, x)]) (hx : a.eval x = .bool b) (h : K (a.put o.dst (.slice (some ⟨w.heap.size, 0, none⟩) 1 1)) (w.alloc (.cells #[.bool b] 4))) : o.wp Try.prog a w K Q := by
  unfold Oper.wp execOp
  simp only [ho, List.map_toArray, List.map_cons, List.map_nil, hx]
  go_simp
  exact h
end

section
variable {w0 : World} {q sz k : Nat} {vl vs vf : Value} {σ : Nat → Option Value} {w : World} {o : Oper} {a : Act} {K : Act → World → Prop} {Q : Exit → Act → World → Prop}

theorem Zs.made (w : World) (sz : Nat) (hs : 0 < sz) (hm : sz ≤ 4096) : Zs sz (w.alloc (.cells (madeCells #[.int .u8 0] sz) 5)) (.slice (some ⟨w.heap.size, 0, none⟩) sz sz) := by
  rw [madeBytes]
  exact row_sl (heap_at_new _ _ rfl) (by simp) (by omega)

theorem BG.lts (h : BG w0 q sz k vl vs vf σ w) : (∀ b, (now (σ 11) vl).ownBlock = some b → b < w.heap.size) ∧ (∀ b, (now (σ 20) vs).ownBlock = some b → b < w.heap.size) ∧ (∀ b, (now (σ 26) vf).ownBlock = some b → b < w.heap.size) :=
  ⟨fun _ e => (h.l.lt e).2, fun _ e => (h.s.lt e).2, fun _ e => (h.f.lt e).2⟩

theorem BG.ld6 {p : Operand} (h : BG w0 q sz k vl vs vf σ w) (ho : o.op = .load 26 p) (hp : a.eval p = .pointer (some ⟨q, 0, none⟩)) (hK : ∀ v w', BG w0 q sz k vl vs vf (upd σ 6 v) w' → K (a.put o.dst v) w') : o.wp Try.prog a w K Q :=
  wp_load_bs ho hp (cell_of (i := 0) h.q rfl) (hK _ _ (h.put6 _ rfl))
theorem BG.ld15 {p : Operand} (h : BG w0 q sz k vl vs vf σ w) (ho : o.op = .load 26 p) (hp : a.eval p = .pointer (some ⟨q, 1, none⟩)) (hK : ∀ v w', BG w0 q sz k vl vs vf (upd σ 15 v) w' → K (a.put o.dst v) w') : o.wp Try.prog a w K Q :=
  wp_load_bs ho hp (cell_of (i := 1) h.q rfl) (hK _ _ (h.put15 _ rfl))
theorem BG.ld24 {p : Operand} (h : BG w0 q sz k vl vs vf σ w) (ho : o.op = .load 46 p) (hp : a.eval p = .pointer (some ⟨q, 2, none⟩)) (hK : ∀ v w', BG w0 q sz k vl vs vf (upd σ 24 v) w' → K (a.put o.dst v) w') : o.wp Try.prog a w K Q :=
  wp_load_bo ho hp (cell_of (i := 2) h.q rfl) (hK _ _ (h.put24 _ rfl))
theorem BG.mk9 {n : Operand} (h : BG w0 q sz k vl vs vf σ w) (hs : 0 < sz) (hm : sz ≤ 4096) (ho : o.op = .makeSlice 33 n n) (hn : a.eval n = .int .i64 (sz : Int)) (hK : ∀ v w', BG w0 q sz k vl vs vf (upd σ 9 v) w' → K (a.put o.dst v) w') : o.wp Try.prog a w K Q :=
  wp_make_u8 ho hn hm (hK _ _ ((h.stay ((Mod.refl No w).alloc _)).put9 _ (Zs.made w sz hs hm)))
theorem BG.mk18 {n : Operand} (h : BG w0 q sz k vl vs vf σ w) (hs : 0 < sz) (hm : sz ≤ 4096) (ho : o.op = .makeSlice 33 n n) (hn : a.eval n = .int .i64 (sz : Int)) (hK : ∀ v w', BG w0 q sz k vl vs vf (upd σ 18 v) w' → K (a.put o.dst v) w') : o.wp Try.prog a w K Q :=
  wp_make_u8 ho hn hm (hK _ _ ((h.stay ((Mod.refl No w).alloc _)).put18 _ (Zs.made w sz hs hm)))
theorem boxed {w : World} {e : TypeId} {u : Value} : Box (w.alloc (.cells #[u] e)) e (.slice (some ⟨w.heap.size, 0, none⟩) 1 1) u := ⟨_, rfl, heap_at_new _ _ rfl⟩
theorem BG.bl10 {x : Operand} {vx : Value} (h : BG w0 q sz k vl vs vf σ w) (ho : o.op = .buildSlice 26 1 #[(0, x)]) (hx : a.eval x = vx) (hd : σ 9 = some vx) (hK : ∀ v w', BG w0 q sz k vl vs vf (upd σ 10 v) w' → K (a.put o.dst v) w') : o.wp Try.prog a w K Q := by
  have hz := h.m9 vx hd
  obtain ⟨ad, c, rfl⟩ := Sl.len hz
  have hm := (Mod.refl No w).alloc (.cells #[.slice ad sz c] 33)
  exact wp_build_bs ho hx (hK _ _ ((h.stay hm).put10 _ ⟨_, hz.keep hm (beside_no _ _), boxed⟩ ⟨off_new (w := w) (fun b e => by cases e; rfl) h.lts.1, off_new (w := w) (fun b e => by cases e; rfl) h.lts.2.1⟩))
theorem BG.bl19 {x : Operand} {vx : Value} (h : BG w0 q sz k vl vs vf σ w) (ho : o.op = .buildSlice 26 1 #[(0, x)]) (hx : a.eval x = vx) (hd : σ 18 = some vx) (hK : ∀ v w', BG w0 q sz k vl vs vf (upd σ 19 v) w' → K (a.put o.dst v) w') : o.wp Try.prog a w K Q := by
  have hz := h.m18 vx hd
  obtain ⟨ad, c, rfl⟩ := Sl.len hz
  have hm := (Mod.refl No w).alloc (.cells #[.slice ad sz c] 33)
  exact wp_build_bs ho hx (hK _ _ ((h.stay hm).put19 _ ⟨_, hz.keep hm (beside_no _ _), boxed⟩ ⟨off_new (w := w) (fun b e => by cases e; rfl) h.lts.1, off_new (w := w) (fun b e => by cases e; rfl) h.lts.2.1⟩))
theorem BG.bl25 {x : Operand} (h : BG w0 q sz k vl vs vf σ w) (ho : o.op = .buildSlice 46 1 #[(0, x)]) (hx : a.eval x = .bool false) (hK : ∀ v w', BG w0 q sz k vl vs vf (upd σ 25 v) w' → K (a.put o.dst v) w') : o.wp Try.prog a w K Q :=
  have hm := (Mod.refl No w).alloc (.cells #[.bool false] 4)
  wp_build_bo ho hx (hK _ _ ((h.stay hm).put25 _ boxed (off_new (w := w) (fun b e => by cases e; rfl) h.lts.2.2)))

/-- Behind the three stores. -/
theorem BG.next {v11 v20 v26 : Value} (h : BG w0 q sz k vl vs vf σ w) (h11 : σ 11 = some v11) (h20 : σ 20 = some v20) (h26 : σ 26 = some v26) (hq : w0.heap.size ≤ q) :
    BG w0 q sz (k + 1) v11 v20 v26 (fun _ => none) (((w.setCell ⟨q, 0, none⟩ v11).setCell ⟨q, 1, none⟩ v20).setCell ⟨q, 2, none⟩ v26) := by
  have hm : Mod (· = q) w (((w.setCell ⟨q, 0, none⟩ v11).setCell ⟨q, 1, none⟩ v20).setCell ⟨q, 2, none⟩ v26) := (((Mod.refl (· = q) w).setCell (fun _ => rfl) _).setCell (fun _ => rfl) _).setCell (fun _ => rfl) _
  have hb : Beside w No (· = q) := fun b hb => .inr fun cur fz e => by subst hb; rw [h.q] at e; cases e
  have hl := h.l
  have hs := h.s
  have hf := h.f
  have hd := h.d1
  rw [h11] at hl hd
  rw [h20] at hs hd
  rw [h26] at hf
  have n1 : ∀ b cur fz (e : TypeId), e ≠ 48 → w.heap[b]? = some (.cells cur e fz) → ¬ b = q := fun b cur fz e he hh r => by
    subst r; rw [h.q] at hh; cases hh; exact he rfl
  exact ⟨h.mod.then hm (fun i hi e => by have e : i = q := e; omega), heap_setCell (heap_setCell (heap_setCell h.q _) _) _,
    hl.keepZ hm hb (fun b e => by obtain ⟨c, hc⟩ := hl.heap e; exact n1 b c _ _ (by decide) hc), hs.keepZ hm hb (fun b e => by obtain ⟨c, hc⟩ := hs.heap e; exact n1 b c _ _ (by decide) hc), hf.keepF hm (fun b e => by obtain ⟨c, hc⟩ := hf.heap e; exact n1 b c _ _ (by decide) hc),
    (fun _ e => by cases e), (fun _ e => by cases e), (fun _ e => by cases e), (fun _ e => by cases e), (fun _ e => by cases e), (fun _ e => by cases e), (fun _ e => by cases e), (fun _ e => by cases e), hd, (fun _ e => by cases e), (fun _ e => by cases e), (fun _ e => by cases e)⟩

theorem dep_some {L : Array Bool} {i : Nat} (h : L.getD i false = true ∨ (σ i).isSome = true) (hL : L.getD i false = false) : ∃ v, σ i = some v := by
  rcases h with h | h
  · rw [hL] at h; cases h
  · exact Option.isSome_iff_exists.1 h

/-- Rows as the model has them. -/
theorem RowAt.sure {w : World} {base sz n : Nat} {v : Value} (h : RowAt w base 33 (Zs sz) v n) (hn : 0 < n) : ∃ b c cur, v = .slice (some ⟨b, 0, none⟩) n c ∧ base ≤ b ∧ n ≤ c ∧ c ≤ maxLen ∧ SureAt w No b n sz (fun _ => List.replicate sz 0) cur := by
  obtain ⟨xs, ⟨hl, ⟨_, h0⟩ | ⟨g, cap, cur, hv, hg, hh, hn1, hc, hs, ht⟩⟩, hP⟩ := h.row
  · omega
  · have hle : xs.length ≤ cur.size := by rw [← ht]; simp; exact Nat.min_le_right _ _
    refine ⟨g, cap, cur, hv, hg, hn1, hc, hh, by omega, fun i hi => ?_⟩
    have hx : i < xs.length := by omega
    refine ⟨xs[i], ?_, hP i _ (List.getElem?_eq_getElem hx)⟩
    have h1 : xs[i]? = some xs[i] := List.getElem?_eq_getElem hx
    rw [← h1, ← ht, List.getElem?_take, if_pos (by omega)]
    simp
theorem RowAt.flags {w : World} {base n : Nat} {v : Value} (h : RowAt w base 4 Fs v n) (hn : 0 < n) : ∃ b c cur, v = .slice (some ⟨b, 0, none⟩) n c ∧ base ≤ b ∧ n ≤ c ∧ c ≤ maxLen ∧ FlAt w b n (fun _ => false) cur := by
  obtain ⟨xs, ⟨hl, ⟨_, h0⟩ | ⟨g, cap, cur, hv, hg, hh, hn1, hc, hs, ht⟩⟩, hP⟩ := h.row
  · omega
  · have hle : xs.length ≤ cur.size := by rw [← ht]; simp; exact Nat.min_le_right _ _
    refine ⟨g, cap, cur, hv, hg, hn1, hc, hh, fun i hi => ?_⟩
    have hx : i < xs.length := by omega
    have h1 : xs[i]? = some xs[i] := List.getElem?_eq_getElem hx
    have h2 : xs[i] = .bool false := hP i _ h1
    rw [← h2, ← h1, ← ht, List.getElem?_take, if_pos (by omega)]
    simp
end
end Go.Proofs.Ytjmnpfbinjlegaa
