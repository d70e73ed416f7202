/-
  Layer 3, the disk: Copy. No statement is proved here; no condition.
-/
import Derived.Test.YtnchclleiccofaaDiskE
import Derived.Deep.DeepCutAuto
namespace Go.Proofs.Ytnchclleiccofaa
open Go.RowKit Go.Maps

set_option maxRecDepth 100000 in
set_option maxHeartbeats 400000 in
theorem clone_rows (X : Nat → Prop) (v : Value) (l : List Value) (w : World) (h : Sl w X 33 v l.length l) (h1 : ∀ u ∈ l, u.oneCell' = true) (hsz : l.length ≤ 1000000000000) :
    Calls Try.prog 45 #[v] w fun e w' => ∃ v', e = .returned v' ∧ w'.ownsRow w.heap.size 33 1 v' l.length l ∧ (v' = .slice none 0 0 ↔ v = .slice none 0 0) ∧ Mod No w w' := by
  obtain ⟨i0, hi, hz0, hz1, hz2⟩ := info_parts info_bs
  refine calls_hide fun R hR => ?_
  have H := Lib.hid h
  rcases h with ⟨rfl, hn, hl⟩ | ⟨blk, of, c, cur, fz, rfl, hn, hc, hX, hh, hle, hr⟩
  · have hl' := Lib.hid hl
    clear hn hl
    have e1 := Lib.run_eql_slice_nil (P := Try.prog)
    go_enter Try.func45, Try.ntmps45
    go_wp2
    refine fin hR ⟨.slice none 0 0, rfl, ?_, by simp, Mod.refl _ _⟩
    rw [hl'.out]
    exact World.ownsRow_nil _ _ _ _
  · clear hh hr hle
    have e1 := Lib.run_eql_slice_nil (P := Try.prog)
    have hown : (w.alloc (.cells #[] 33)).ownsRow w.heap.size 33 1 (.slice (some ⟨w.heap.size, 0, none⟩) 0 0) 0 [] := World.ownsRow_lit w #[] 0 (Nat.le_refl _) (by unfold maxLen; omega) rfl
    have hsl : Sl (w.alloc (.cells #[] 33)) X 33 (.slice (some ⟨blk, of, none⟩) l.length c) l.length l := H.out.keep (S := No) ((Mod.refl No w).alloc _) (fun _ _ _ f => f.elim)
    have HO := Lib.hid hown
    have HS := Lib.hid hsl
    clear hown hsl
    go_enter Try.func45, Try.ntmps45
    go_wp2_with (at_builtin; refine app_sl _ rfl _ _ 26 rfl w.heap.size 33 i0 (.slice none 0 0) 1 24 Try.underlying26 hi hz0 hz1 hz2 rfl (by decide) _ _ _ rfl HO.out X 33 _ _ _ rfl HS.out ?_ h1 ?_ ?_ ?_ ?_)
    · simp
    · unfold maxLen; omega
    · omega
    · simp
    intro v' w1 hown' hg hnil
    have HO' := Lib.hid hown'
    have HG := Lib.hid hg
    have HN := Lib.hid hnil
    clear hown' hg hnil
    go_wp2
    refine fin hR ⟨v', rfl, HO'.out, ?_, ?_⟩
    · simp [HN.out]
    · exact ((Mod.refl No w).alloc _).then (Mod.of_grown (S := fun k => k = w.heap.size) HG.out (by rintro k ⟨⟩ _; rfl)) (fun i hi e => by subst e; omega)

/-- A copy, whose map is still empty. -/
def CopyMid (w0 : World) (cut : Int) (dead : Bool) (vals : List Value) (s : Value) (w : World) : Prop :=
  ∃ cb mb' v', s = .pointer (some ⟨cb, 0, none⟩) ∧ w.heap[cb]? = some (.cells #[v', .map (some mb'), .int .i64 cut, .bool dead] 31 (0, 0)) ∧ w.ownsRow w0.heap.size 33 1 v' vals.length vals ∧ Mp w 3 mb' (.map []) ∧
    Mod No w0 w ∧ w0.heap.size ≤ cb ∧ w0.heap.size ≤ mb'

/-- Copy's loop: the entries that are left are not yet copied. -/
structure CopyLoop (w0 wr : World) (X : Nat → Prop) (cb mb mb' r : Nat) (d : Dk) (D : DataW Value) (vals : List Value) (left : Lit → Bool) (cnt : Nat) : Prop where
  rg : wr.ranges Try.prog 3 heldR mb r (Maps.size D) D left cnt
  obj : ∃ v', wr.heap[cb]? = some (.cells #[v', .map (some mb'), .int .i64 d.cut, .bool d.dead] 31 (0, 0)) ∧ wr.ownsRow w0.heap.size 33 1 v' vals.length vals
  dirty : ∃ Dc, DirtyAt wr X mb' d.n d.sz (fun i => if left (.int .i64 (i : Int)) then none else d.dirty i) Dc
  mod : Mod No w0 wr

theorem ownsRow_mod {S : Nat → Prop} {w w' : World} {base : Nat} {e : TypeId} {size : Nat} {v : Value} {n : Nat} {xs : List Value} (h : w.ownsRow base e size v n xs) (hm : Mod S w w') (hs : ∀ k, v.ownBlock = some k → ¬ S k) : w'.ownsRow base e size v n xs := by
  obtain ⟨h1, h2 | ⟨g, cap, cur, rfl, hg, hh, r⟩⟩ := h
  · exact ⟨h1, .inl h2⟩
  · exact ⟨h1, .inr ⟨g, cap, cur, rfl, hg, hm.keep hh (hs g rfl), r⟩⟩

set_option maxRecDepth 100000 in
set_option maxHeartbeats 4000000 in
theorem copy_any (X : Nat → Prop) (b sb mb : Nat) (d : Dk) (w : World) (h : DkAt w X b sb mb d) (hX : ∀ k, X k → k < w.heap.size) :
    Calls Try.prog 25 #[.pointer (some ⟨b, 0, none⟩)] w fun e w' => ∃ b' sb' mb', e = .returned (.pointer (some ⟨b', 0, none⟩)) ∧ DkAt w' X b' sb' mb' d ∧ Mod No w w' ∧ w.heap.size ≤ b' ∧ w.heap.size ≤ sb' ∧ w.heap.size ≤ mb' := by
  have hmm := @run_makeMap Try.prog
  obtain ⟨sc, ho, hsc1, hsc2⟩ := h.obj
  obtain ⟨cur, hc⟩ := h.sure
  obtain ⟨D, hD⟩ := h.dirty
  have hn2 : d.n ≤ 4096 := h.n2
  have hn1 : 1 ≤ d.n := h.n1
  have c0 := cell_of (i := 0) ho rfl
  have c1 := cell_of (i := 1) ho rfl
  have c2 := cell_of (i := 2) ho rfl
  have c3 := cell_of (i := 3) ho rfl
  obtain ⟨vals, hvals⟩ : ∃ vals, vals = cur.toList.take d.n := ⟨_, rfl⟩
  have hvl : vals.length = d.n := by rw [hvals, List.length_take, Array.length_toList]; have := hc.len; omega
  have hslv : Sl w No 33 (.slice (some ⟨sb, 0, none⟩) d.n sc) vals.length vals := by
    rw [hvl]
    refine .inr ⟨sb, 0, sc, cur, (0, 0), rfl, hsc1, hsc2, fun f => f, hc.heap, by rw [hvl]; have := hc.len; omega, fun i hi => ?_⟩
    rw [hvals, List.getElem?_take, if_pos (by omega)]; simp
  have hone : ∀ u ∈ vals, u.oneCell' = true := fun u hu => by
    obtain ⟨i, hi, e⟩ := List.mem_iff_getElem.1 hu
    obtain ⟨v, hv, hs⟩ := hc.cell i (by omega)
    have : cur[i]? = some u := by
      rw [← e]
      have h1 : vals[i]? = some vals[i] := List.getElem?_eq_getElem hi
      rw [← h1, hvals, List.getElem?_take, if_pos (by omega)]; simp
    rw [this] at hv
    cases hv
    obtain ⟨a, c, rfl⟩ := hs.len
    rfl
  have HC1 := Lib.hid (clone_rows No _ vals w.drew (hslv.keep (S := No) (Mod.refl No w).drew (fun _ _ _ f => f.elim)) hone (by omega))
  have HC2 := Lib.hid (clone_rows No _ vals (w.alloc (.map #[] 0)).drew (hslv.keep (S := No) ((Mod.refl No w).alloc _).drew (fun _ _ _ f => f.elim)) hone (by omega))
  have HH := Lib.hid h
  have HX := Lib.hid hX
  have HD := Lib.hid hD
  have HCu := Lib.hid hc
  have HV := Lib.hid hvals
  have HVL := Lib.hid hvl
  clear h hX hD hc hvals hvl hslv hone hsc1 hsc2 ho
  refine calls_hide fun R hR => ?_
  go_enter Try.func25, Try.ntmps25
  go_upto_region 1 with fail
  go_cut [3] (fun s3 wx => CopyMid w d.cut d.dead vals s3 wx)
  case first =>
    have hS0 : w.drew.cell? ⟨b, 0, none⟩ = some (.slice (some ⟨sb, 0, none⟩) d.n sc) ∧ w.drew.cell? ⟨b, 2, none⟩ = some (.int .i64 d.cut) ∧ w.drew.cell? ⟨b, 3, none⟩ = some (.bool d.dead) := ⟨c0, c2, c3⟩
    have mA : Mod No w (w.alloc (.map #[] 0)).drew := ((Mod.refl No w).alloc _).drew
    have hSA : (w.alloc (.map #[] 0)).drew.cell? ⟨b, 0, none⟩ = some (.slice (some ⟨sb, 0, none⟩) d.n sc) ∧ (w.alloc (.map #[] 0)).drew.cell? ⟨b, 2, none⟩ = some (.int .i64 d.cut) ∧ (w.alloc (.map #[] 0)).drew.cell? ⟨b, 3, none⟩ = some (.bool d.dead) :=
      ⟨mA.cell c0 (fun f => f), mA.cell c2 (fun f => f), mA.cell c3 (fun f => f)⟩
    refine wp_region_T (fun w' => w'.cell? ⟨b, 0, none⟩ = some (.slice (some ⟨sb, 0, none⟩) d.n sc) ∧ w'.cell? ⟨b, 2, none⟩ = some (.int .i64 d.cut) ∧ w'.cell? ⟨b, 3, none⟩ = some (.bool d.dead)) 18 (by kernel_rfl) ?_
    refine wpAnyT_take 0 (some 6) ?_ rfl rfl (by kernel_rfl) (fun _ _ _ h => h) hS0 (Or.inl ⟨by rfl, ?_⟩) ?_
    rotate_left
    · (intro w' hSw; (try dsimp only at hSw); go_simp; try with_reducible rfl)
    simp only [Act.put, List.setIfInBounds_toArray, List.set_cons_zero, List.set_cons_succ]
    refine wpAnyT_take 1 (some 7) ?_ rfl rfl (by kernel_rfl) (fun _ _ _ h => h) hS0 (Or.inl ⟨by rfl, ?_⟩) ?_
    rotate_left
    · (intro w' hSw; (try dsimp only at hSw); go_simp; try with_reducible rfl)
    simp only [Act.put, List.setIfInBounds_toArray, List.set_cons_zero, List.set_cons_succ]
    refine wpAnyT_take 2 (some 8) ?_ rfl rfl (by kernel_rfl) (fun _ _ _ h => h) hS0 (Or.inl ⟨by rfl, ?_⟩) ?_
    rotate_left
    · (intro w' hSw; (try dsimp only at hSw); go_simp; try with_reducible rfl)
    simp only [Act.put, List.setIfInBounds_toArray, List.set_cons_zero, List.set_cons_succ]
    refine wpAnyT_take 3 (some 9) ?_ rfl rfl (by kernel_rfl) (fun _ _ _ h => h) hS0 (Or.inl ⟨by rfl, ?_⟩) ?_
    rotate_left
    · (intro w' hSw; (try dsimp only at hSw); go_simp; try with_reducible rfl)
    simp only [Act.put, List.setIfInBounds_toArray, List.set_cons_zero, List.set_cons_succ]
    refine wpAnyT_take 4 (some 10) ?_ rfl rfl (by kernel_rfl) (fun _ _ _ h => h) hS0 (Or.inl ⟨by rfl, ?_⟩) ?_
    rotate_left
    · (intro w' hSw; (try dsimp only at hSw); go_simp; try with_reducible rfl)
    simp only [Act.put, List.setIfInBounds_toArray, List.set_cons_zero, List.set_cons_succ]
    refine wpAnyT_take 8 (some 14) ?_ rfl rfl (by kernel_rfl) (fun _ _ _ h => h) hS0 (Or.inl ⟨by rfl, ?_⟩) ?_
    rotate_left
    · (intro w' hSw; (try dsimp only at hSw); go_simp; try with_reducible rfl)
    simp only [Act.put, List.setIfInBounds_toArray, List.set_cons_zero, List.set_cons_succ]
    refine wpAnyT_take 9 (some 15) ?_ rfl rfl (by kernel_rfl) (fun _ _ _ h => h) hS0 (Or.inl ⟨by rfl, ?_⟩) ?_
    rotate_left
    · (intro w' hSw; (try dsimp only at hSw); go_simp; try with_reducible rfl)
    simp only [Act.put, List.setIfInBounds_toArray, List.set_cons_zero, List.set_cons_succ]
    refine wpAnyT_take 10 (some 16) ?_ rfl rfl (by kernel_rfl) (fun _ _ _ h => h) hS0 (Or.inl ⟨by rfl, ?_⟩) ?_
    rotate_left
    · (intro w' hSw; (try dsimp only at hSw); go_simp; try with_reducible rfl)
    simp only [Act.put, List.setIfInBounds_toArray, List.set_cons_zero, List.set_cons_succ]
    refine wpAnyT_take 11 (some 17) ?_ rfl rfl (by kernel_rfl) (fun _ _ _ h => h) hS0 (Or.inl ⟨by rfl, ?_⟩) ?_
    rotate_left
    · (intro w' hSw; (try dsimp only at hSw); go_simp; try with_reducible rfl)
    simp only [Act.put, List.setIfInBounds_toArray, List.set_cons_zero, List.set_cons_succ]
    refine wpAnyT_take 12 (some 18) ?_ rfl rfl (by kernel_rfl) (fun _ _ _ h => h) hS0 (Or.inl ⟨by rfl, ?_⟩) ?_
    rotate_left
    · (intro w' hSw; (try dsimp only at hSw); go_simp; try with_reducible rfl)
    simp only [Act.put, List.setIfInBounds_toArray, List.set_cons_zero, List.set_cons_succ]
    refine wpAnyT_take 13 (some 19) ?_ rfl rfl (by kernel_rfl) (fun _ _ _ h => h) hS0 (Or.inl ⟨by rfl, ?_⟩) ?_
    rotate_left
    · (intro w' hSw; (try dsimp only at hSw); go_simp; try with_reducible rfl)
    simp only [Act.put, List.setIfInBounds_toArray, List.set_cons_zero, List.set_cons_succ]
    refine wpAnyT_take 14 (some 20) ?_ rfl rfl (by kernel_rfl) (fun _ _ _ h => h) hS0 (Or.inl ⟨by rfl, ?_⟩) ?_
    rotate_left
    · (intro w' hSw; (try dsimp only at hSw); go_simp; try with_reducible rfl)
    simp only [Act.put, List.setIfInBounds_toArray, List.set_cons_zero, List.set_cons_succ]
    refine wpAnyT_take 15 (some 21) ?_ rfl rfl (by kernel_rfl) (fun _ _ _ h => h) hS0 (Or.inl ⟨by rfl, ?_⟩) ?_
    rotate_left
    · (intro w' hSw; (try dsimp only at hSw); go_simp; try with_reducible rfl)
    simp only [Act.put, List.setIfInBounds_toArray, List.set_cons_zero, List.set_cons_succ]
    refine wpAnyT_two 5 6 rfl rfl (by kernel_rfl) rfl rfl ?_ ?_
    · intro K hK
      go_simp
      refine HC1.out.mono ?_
      rintro e w2 ⟨v2, rfl, hown2, _, hm2⟩
      obtain ⟨vb, vc, rfl, hvb⟩ := own_shape hown2 (by rw [HVL.out]; omega)
      have hSw2 : w2.cell? ⟨b, 0, none⟩ = some (.slice (some ⟨sb, 0, none⟩) d.n sc) ∧ w2.cell? ⟨b, 2, none⟩ = some (.int .i64 d.cut) ∧ w2.cell? ⟨b, 3, none⟩ = some (.bool d.dead) := ⟨hm2.cell hS0.1 (fun f => f), hm2.cell hS0.2.1 (fun f => f), hm2.cell hS0.2.2 (fun f => f)⟩
      have HO2 := Lib.hid hown2
      have HM2 := Lib.hid hm2
      clear hown2 hm2
      show K _ _
      refine hK.out _ _ (fun _ => hSw2) ?_
      clear hK K
      have mB : Mod No w2 (w2.alloc (.map #[] 0)) := (Mod.refl No w2).alloc _
      have hSB : (w2.alloc (.map #[] 0)).cell? ⟨b, 0, none⟩ = some (.slice (some ⟨sb, 0, none⟩) d.n sc) ∧ (w2.alloc (.map #[] 0)).cell? ⟨b, 2, none⟩ = some (.int .i64 d.cut) ∧ (w2.alloc (.map #[] 0)).cell? ⟨b, 3, none⟩ = some (.bool d.dead) := ⟨mB.cell hSw2.1 (fun f => f), mB.cell hSw2.2.1 (fun f => f), mB.cell hSw2.2.2 (fun f => f)⟩
      refine wpAnyT_one 6 rfl (by kernel_rfl) rfl ?_
      intro K hK
      go_simp
      show K _ _
      refine hK.out _ _ (fun _ => hSB) ?_
      clear hK K
      refine wpAnyT_one 7 rfl (by kernel_rfl) rfl ?_
      intro K hK
      go_simp
      show K _ _
      refine hK.out _ _ (fun _ => hSB) ?_
      clear hK K
      refine wpAnyT_one 16 rfl (by kernel_rfl) rfl ?_
      intro K hK
      go_simp
      show K _ _
      refine hK.out _ _ (fun _ => hSB) ?_
      clear hK K
      have mC : Mod No (w2.alloc (.map #[] 0)) ((w2.alloc (.map #[] 0)).alloc (.cells #[.slice (some ⟨vb, 0, none⟩) vals.length vc, .map (some w2.heap.size), .int .i64 d.cut, .bool d.dead] 31)) := (Mod.refl No _).alloc _
      have hSC : ((w2.alloc (.map #[] 0)).alloc (.cells #[.slice (some ⟨vb, 0, none⟩) vals.length vc, .map (some w2.heap.size), .int .i64 d.cut, .bool d.dead] 31)).cell? ⟨b, 0, none⟩ = some (.slice (some ⟨sb, 0, none⟩) d.n sc) ∧ ((w2.alloc (.map #[] 0)).alloc (.cells #[.slice (some ⟨vb, 0, none⟩) vals.length vc, .map (some w2.heap.size), .int .i64 d.cut, .bool d.dead] 31)).cell? ⟨b, 2, none⟩ = some (.int .i64 d.cut) ∧ ((w2.alloc (.map #[] 0)).alloc (.cells #[.slice (some ⟨vb, 0, none⟩) vals.length vc, .map (some w2.heap.size), .int .i64 d.cut, .bool d.dead] 31)).cell? ⟨b, 3, none⟩ = some (.bool d.dead) := ⟨mC.cell hSB.1 (fun f => f), mC.cell hSB.2.1 (fun f => f), mC.cell hSB.2.2 (fun f => f)⟩
      refine wpAnyT_one 17 rfl (by kernel_rfl) rfl ?_
      intro K hK
      go_simp
      show K _ _
      refine hK.out _ _ (fun _ => hSC) ?_
      clear hK K
      refine wpAnyT_one 18 rfl (by kernel_rfl) rfl ?_
      intro K hK
      go_simp
      show K _ _
      refine hK.out _ _ (fun h => absurd rfl h) ?_
      clear hK K
      refine wpAnyT_done (by kernel_rfl) ?_ _
      go_wp2_with fail
      go_meet
      refine ⟨w2.heap.size + 1, w2.heap.size, .slice (some ⟨vb, 0, none⟩) vals.length vc, rfl, heap_at_new _ _ (by simp), ownsRow_base_a ((HO2.out.alloc _).alloc _) (by simp), (Mp.made w2 _).keep (S := No) ((Mod.refl No _).alloc _) (fun f => f), (((Mod.refl No w).drew.trans HM2.out).alloc _).alloc _, ?_, ?_⟩
      · have := HM2.out.size; simp at this; omega
      · have := HM2.out.size; simp at this; omega
    · intro K hK
      go_simp
      show K _ _
      refine hK.out _ _ (fun _ => hSA) ?_
      clear hK K
      refine wpAnyT_one 5 rfl (by kernel_rfl) rfl ?_
      intro K hK
      go_simp
      refine HC2.out.mono ?_
      rintro e w2 ⟨v2, rfl, hown2, _, hm2⟩
      obtain ⟨vb, vc, rfl, hvb⟩ := own_shape hown2 (by rw [HVL.out]; omega)
      have hSw2 : w2.cell? ⟨b, 0, none⟩ = some (.slice (some ⟨sb, 0, none⟩) d.n sc) ∧ w2.cell? ⟨b, 2, none⟩ = some (.int .i64 d.cut) ∧ w2.cell? ⟨b, 3, none⟩ = some (.bool d.dead) := ⟨hm2.cell hSA.1 (fun f => f), hm2.cell hSA.2.1 (fun f => f), hm2.cell hSA.2.2 (fun f => f)⟩
      have HO2 := Lib.hid hown2
      have HM2 := Lib.hid hm2
      clear hown2 hm2
      show K _ _
      refine hK.out _ _ (fun _ => hSw2) ?_
      clear hK K
      refine wpAnyT_one 7 rfl (by kernel_rfl) rfl ?_
      intro K hK
      go_simp
      show K _ _
      refine hK.out _ _ (fun _ => hSw2) ?_
      clear hK K
      refine wpAnyT_one 16 rfl (by kernel_rfl) rfl ?_
      intro K hK
      go_simp
      show K _ _
      refine hK.out _ _ (fun _ => hSw2) ?_
      clear hK K
      have mC : Mod No w2 (w2.alloc (.cells #[.slice (some ⟨vb, 0, none⟩) vals.length vc, .map (some w.heap.size), .int .i64 d.cut, .bool d.dead] 31)) := (Mod.refl No _).alloc _
      have hSC : (w2.alloc (.cells #[.slice (some ⟨vb, 0, none⟩) vals.length vc, .map (some w.heap.size), .int .i64 d.cut, .bool d.dead] 31)).cell? ⟨b, 0, none⟩ = some (.slice (some ⟨sb, 0, none⟩) d.n sc) ∧ (w2.alloc (.cells #[.slice (some ⟨vb, 0, none⟩) vals.length vc, .map (some w.heap.size), .int .i64 d.cut, .bool d.dead] 31)).cell? ⟨b, 2, none⟩ = some (.int .i64 d.cut) ∧ (w2.alloc (.cells #[.slice (some ⟨vb, 0, none⟩) vals.length vc, .map (some w.heap.size), .int .i64 d.cut, .bool d.dead] 31)).cell? ⟨b, 3, none⟩ = some (.bool d.dead) := ⟨mC.cell hSw2.1 (fun f => f), mC.cell hSw2.2.1 (fun f => f), mC.cell hSw2.2.2 (fun f => f)⟩
      refine wpAnyT_one 17 rfl (by kernel_rfl) rfl ?_
      intro K hK
      go_simp
      show K _ _
      refine hK.out _ _ (fun _ => hSC) ?_
      clear hK K
      refine wpAnyT_one 18 rfl (by kernel_rfl) rfl ?_
      intro K hK
      go_simp
      show K _ _
      refine hK.out _ _ (fun h => absurd rfl h) ?_
      clear hK K
      refine wpAnyT_done (by kernel_rfl) ?_ _
      go_wp2_with fail
      go_meet
      refine ⟨w2.heap.size, w.heap.size, .slice (some ⟨vb, 0, none⟩) vals.length vc, rfl, heap_at_new _ _ rfl, ownsRow_base_a (HO2.out.alloc _) (by simp), ((Mp.made w _).keep (S := No) ((Mod.refl No _).drew.trans HM2.out) (fun f => f)).keep (S := No) ((Mod.refl No _).alloc _) (fun f => f), (((Mod.refl No w).alloc _).drew.trans HM2.out).alloc _, ?_, Nat.le_refl _⟩
      have := HM2.out.size; simp at this; omega
  case rest =>
    obtain ⟨cb, mb', v', rfl, hcb, hown, hmp, hmod, hcb0, hmb0⟩ := hcut
    have hown0 := (HD.out.mp.keep hmod (fun f => f))
    have HMp := Lib.hid hown0
    have lmb := World.ownsMap.lt HD.out.mp
    have g1 := hmod.cell c1 (fun f => f)
    have HCB := Lib.hid hcb
    have HOw := Lib.hid hown
    have HEm := Lib.hid hmp
    have HM0 := Lib.hid hmod
    clear hown0 hcb hown hmp hmod
    go_wp2_with (at_range; refine wpList_range_own _ rfl _ 27 rfl 3 33 key_int Try.underlying27 heldR mb (Maps.size D) D rfl HMp.out ?_; intro w0 hrg0 hg0 hs0)
    go_frame
    have hmr : Mod No wc w0 := Mod.of_grown hg0 (fun k e _ => by cases e)
    have hloop0 : CopyLoop w w0 X cb mb mb' wc.heap.size d D vals (Maps.has D) (Maps.size D) := by
      refine ⟨hrg0, ⟨v', hmr.keep HCB.out (fun f => f), ownsRow_mod HOw.out hmr (fun _ _ f => f)⟩, ⟨.map [], HEm.out.keep hmr (fun f => f), (fun kl h => by simp [Maps.has_eq] at h), (fun _ _ _ => by simp [Maps.has_eq]), fun i l hi hd => ?_⟩, HM0.out.trans hmr⟩
      cases hdi : d.dirty i with
      | none => simp [hdi] at hd
      | some l' =>
        have := (HD.out.here i l' hi hdi).1
        simp [this] at hd
    have hr0 : wc.heap.size < w0.heap.size := by omega
    have hrw : w.heap.size ≤ wc.heap.size := HM0.out.size
    have HL0 := Lib.hid hloop0
    clear hrg0 hg0 hs0 hmr hloop0
    generalize wc.heap.size = r at *
    go_loopw [4, 5] (fun _ _ wr => ∃ (left : Lit → Bool) (cnt : Nat), CopyLoop w wr X cb mb mb' r d D vals left cnt) (fun _ _ wr => wr.rangeLeft mb r)
    case atStart => exact ⟨_, _, HL0.out⟩
    case round =>
      obtain ⟨left, cnt, hrg, ⟨v1, hcb1, hown1⟩, ⟨Dc, hDc⟩, hmod1⟩ := hrel
      have RG := Lib.hid hrg
      have CB := Lib.hid hcb1
      have OW := Lib.hid hown1
      have DC := Lib.hid hDc
      have MO := Lib.hid hmod1
      clear hrg hcb1 hown1 hDc hmod1
      go_wp2_with (at_next; refine wpList_next_ranges _ rfl _ rfl 3 key_int heldR (Value.int .i64) (fun v : Value => v) (fun key kl hk => by obtain ⟨x, hx, _⟩ := Maps.keyOf_int_inv Try.underlying3 hk; exact ⟨x, hx⟩) (fun v y _ => ⟨v, rfl⟩) mb r (Maps.size D) D left cnt rfl RG.out ?_ ?_)
      · intro _ hl0
        have H0 := Lib.hid hl0
        clear hl0
        go_wp2
        have hDD : DirtyAt wr X mb' d.n d.sz d.dirty Dc := by
          have h1 := DC.out
          refine ⟨h1.mp, h1.keys, fun i hi hd => h1.gone i hi (by simp [hd]), fun i l hi hd => h1.here i l hi ?_⟩
          simp only [H0.out, Bool.false_eq_true, if_false]; exact hd
        obtain ⟨_, ⟨rfl, h0⟩ | ⟨g, cap, cur', rfl, hg, hh, hcap, hmax, hcs, htk⟩⟩ := OW.out
        · rw [HVL.out] at h0; omega
        · rw [HVL.out] at CB hcap htk
          refine fin hR ⟨cb, g, mb', rfl, ⟨⟨cap, CB.out, hcap, hmax⟩, ⟨cur', hh, by rw [hcs]; omega, fun i hi => ?_⟩, ⟨Dc, hDD⟩, HH.out.lenS, HH.out.lenD, HH.out.n1, HH.out.n2, HH.out.s1, HH.out.s2, HH.out.c1, HH.out.c2⟩, MO.out, hcb0, hg, hmb0⟩
          obtain ⟨v, hv, hs⟩ := HCu.out.cell i hi
          refine ⟨v, ?_, hs.beside MO.out (beside_no _ _)⟩
          have h1 : vals[i]? = some v := by rw [HV.out, List.getElem?_take, if_pos hi]; simpa using hv
          rw [← htk, List.getElem?_take] at h1
          split at h1
          · simpa using h1
          · cases h1
      · intro x c kl ya yb w1 cnt1 hkey hleft hy hat hrg1 hlt hg1 hs1 hen
        cases hy
        obtain ⟨x', hx', hkl, hwf⟩ := Maps.keyOf_int_inv Try.underlying3 hkey
        cases hx'
        subst hkl
        have hhas : Maps.has D (.int .i64 x) = true := Maps.has_true_of_atKey (y := .held c) (fun zd => hat zd)
        obtain ⟨i, hi, hxi⟩ := HD.out.keys _ hhas
        have hxi' : x = (i : Int) := by injection hxi
        subst hxi'
        obtain ⟨l, hl⟩ : ∃ l, d.dirty i = some l := by
          cases hdi : d.dirty i with
          | none => have := HD.out.gone i hi hdi; rw [hhas] at this; cases this
          | some l => exact ⟨l, rfl⟩
        obtain ⟨_, vc, hvc, hsl⟩ := HD.out.here i l hi hl
        have hcv : c = vc := by have h1 := hat .nil; rw [hvc] at h1; simpa using h1.symm
        subst hcv
        have hm1 : Mod (· = r) wr w1 := Mod.of_grown hg1 (by rintro k ⟨⟩ _; rfl)
        have hm01 : Mod No w w1 := MO.out.then hm1 (fun q hq e => by have e' : q = r := e; omega)
        have hne1 : cb ≠ r := by
          intro e
          have h1 := RG.out
          obtain ⟨es, clock, since, seen, c0, _, _, _, _, h5, _⟩ := h1
          have h2 := CB.out
          rw [e, h5] at h2; cases h2
        have hne2 : mb' ≠ r := by
          intro e
          have h1 := RG.out
          obtain ⟨es, clock, since, seen, c0, _, _, _, _, h5, _⟩ := h1
          obtain ⟨es', clock', h2⟩ := DC.out.mp.heap
          rw [e, h5] at h2; cases h2
        have hcb2 := hm1.keep CB.out hne1
        have k1 := cell_of (i := 1) hcb2 rfl
        have hslw : Sl w1.drew X 5 c d.sz (bv l) := (hsl.beside hm01 (beside_no _ _)).keep (S := No) (Mod.refl No w1).drew (fun _ _ _ f => f.elim)
        have hll := HH.out.lenD i l hi hl
        obtain ⟨ca, co, cc, rfl, _⟩ := hslw.shape (by have := HH.out.s1; omega)
        have HCl := Lib.hid (clone_bytes X (.slice (some ⟨ca, co, none⟩) d.sz cc) (bv l) w1.drew (by rw [bv_length, hll]; exact hslw) (bv_one _) (by rw [bv_length]; have := HH.out.s2; omega))
        have hbr : Beside wr X (· = r) := fun q hq => .inr fun cur fz e => by
          obtain ⟨es, clock, since, seen, c0, _, _, _, _, h5, _⟩ := RG.out
          subst hq; rw [h5] at e; cases e
        have hDc1 := DC.out.keep hm1 hne2 hbr
        have hkey2 := keyOf_nat i (by omega)
        have hDcs := hDc1.size
        have RG1 := Lib.hid hrg1
        have CB1 := Lib.hid hcb2
        have DC1 := Lib.hid hDc1
        have M01 := Lib.hid hm01
        have M1 := Lib.hid hm1
        have HL := Lib.hid hl
        have HLL := Lib.hid hll
        have NE1 := Lib.hid hne1
        have NE2 := Lib.hid hne2
        have HEN := Lib.hid hen
        have HLF := Lib.hid hleft
        have HLT := Lib.hid hlt
        have HKY := Lib.hid hkey2
        have OW1 := Lib.hid (ownsRow_mod OW.out hm1 (fun q e h => by
          obtain ⟨es, clock, since, seen, c0, _, _, _, _, h5, _⟩ := RG.out
          have e' : q = r := h
          obtain ⟨_, ⟨rfl, _⟩ | ⟨g, cap, cur', rfl, _, hh, _⟩⟩ := OW.out
          · simp [Value.ownBlock] at e
          · simp [Value.ownBlock] at e
            rw [e, e', h5] at hh; cases hh))
        clear hkey hat hrg1 hg1 hs1 hhas hxi hl hvc hsl hcb2 hslw hDc1 hm01 hm1 hll hne1 hne2 hbr hleft hlt hkey2 hwf
        go_wp2_with fail
        have hS0 : w1.drew.cell? ⟨cb, 1, none⟩ = some (.map (some mb')) := k1
        refine wp_region_T (fun w' => w'.cell? ⟨cb, 1, none⟩ = some (.map (some mb'))) 8 (by kernel_rfl) ?_
        refine wpAnyT_take 0 (some 35) ?_ rfl rfl (by kernel_rfl) (fun _ _ _ h => h) hS0 (Or.inl ⟨by rfl, ?_⟩) ?_
        rotate_left
        · (intro w' hSw; (try dsimp only at hSw); go_simp; try with_reducible rfl)
        simp only [Act.put, List.setIfInBounds_toArray, List.set_cons_zero, List.set_cons_succ]
        refine wpAnyT_take 1 (some 36) ?_ rfl rfl (by kernel_rfl) (fun _ _ _ h => h) hS0 (Or.inl ⟨by rfl, ?_⟩) ?_
        rotate_left
        · (intro w' hSw; (try dsimp only at hSw); go_simp; try with_reducible rfl)
        simp only [Act.put, List.setIfInBounds_toArray, List.set_cons_zero, List.set_cons_succ]
        refine wpAnyT_take 2 (some 37) ?_ rfl rfl (by kernel_rfl) (fun _ _ _ h => h) hS0 (Or.inl ⟨by rfl, ?_⟩) ?_
        rotate_left
        · (intro w' hSw; (try dsimp only at hSw); go_simp; try with_reducible rfl)
        simp only [Act.put, List.setIfInBounds_toArray, List.set_cons_zero, List.set_cons_succ]
        refine wpAnyT_take 3 (some 38) ?_ rfl rfl (by kernel_rfl) (fun _ _ _ h => h) hS0 (Or.inl ⟨by rfl, ?_⟩) ?_
        rotate_left
        · (intro w' hSw; (try dsimp only at hSw); go_simp; try with_reducible rfl)
        simp only [Act.put, List.setIfInBounds_toArray, List.set_cons_zero, List.set_cons_succ]
        refine wpAnyT_take 4 (some 39) ?_ rfl rfl (by kernel_rfl) (fun _ _ _ h => h) hS0 (Or.inl ⟨by rfl, ?_⟩) ?_
        rotate_left
        · (intro w' hSw; (try dsimp only at hSw); go_simp; try with_reducible rfl)
        simp only [Act.put, List.setIfInBounds_toArray, List.set_cons_zero, List.set_cons_succ]
        refine wpAnyT_take 5 (some 40) ?_ rfl rfl (by kernel_rfl) (fun _ _ _ h => h) hS0 (Or.inl ⟨by rfl, ?_⟩) ?_
        rotate_left
        · (intro w' hSw; (try dsimp only at hSw); go_simp; try with_reducible rfl)
        simp only [Act.put, List.setIfInBounds_toArray, List.set_cons_zero, List.set_cons_succ]
        refine wpAnyT_take 6 (some 41) ?_ rfl rfl (by kernel_rfl) (fun _ _ _ h => h) hS0 (Or.inl ⟨by rfl, ?_⟩) ?_
        rotate_left
        · (intro w' hSw; (try dsimp only at hSw); go_simp; try with_reducible rfl)
        simp only [Act.put, List.setIfInBounds_toArray, List.set_cons_zero, List.set_cons_succ]
        refine wpAnyT_one 7 rfl (by kernel_rfl) rfl ?_
        intro K hK
        go_simp
        refine HCl.out.mono ?_
        rintro e w2 ⟨v2, rfl, hown2, _, hm2⟩
        have hS2 := hm2.cell hS0 (fun f => f)
        have hmd : Mod No w1 w2 := (Mod.refl No w1).drew.trans hm2
        have hD2 := DC1.out.keep hmd (fun f => f) (beside_no _ _)
        obtain ⟨w3, hst, hp3, hm3, hz3⟩ := hD2.mp.store key_int Try.underlying27 (by unfold maxLen; omega) (val := v2) HKY.out
        have HO2 := Lib.hid hown2
        have HM2 := Lib.hid hmd
        have HD2 := Lib.hid hD2
        have HP3 := Lib.hid hp3
        have HM3 := Lib.hid hm3
        clear hown2 hm2 hmd hD2 hp3 hm3 hz3
        show K _ _
        refine hK.out _ _ (fun _ => hS2) ?_
        clear hK K
        refine wpAnyT_one 8 rfl (by kernel_rfl) rfl ?_
        intro K hK
        go_simp
        show K _ _
        refine hK.out _ _ (fun h => absurd rfl h) ?_
        clear hK K
        refine wpAnyT_done (by kernel_rfl) ?_ _
        go_wp2
        have hm3w : Mod (fun q => q = mb') w1 w3 := (HM2.out.weaken fun _ _ f => f.elim).trans HM3.out
        have hne3 : cb ≠ mb' := fun e => by
          obtain ⟨es', clock', h2⟩ := DC1.out.mp.heap
          have h1 := CB1.out
          rw [e, h2] at h1; cases h1
        have hbm : Beside w2 X (· = mb') := fun q hq => .inr fun cur' fz e => by
          obtain ⟨es', clock', h2⟩ := HD2.out.mp.heap
          subst hq; rw [h2] at e; cases e
        have hbm1 : Beside w1 X (· = mb') := fun q hq => .inr fun cur' fz e => by
          obtain ⟨es', clock', h2⟩ := DC1.out.mp.heap
          subst hq; rw [h2] at e; cases e
        have hv2 : Sl w2 X 5 v2 d.sz (bv l) := by
          have h1 := HO2.out
          rw [bv_length, HLL.out] at h1
          exact Sl.of_own h1 fun q hq hx => by
            have h2 := HX.out q hx
            have h3 := M01.out.size
            have h4 : w1.heap.size ≤ q := hq
            omega
        have hput := HD2.out.put hi HP3.out HM3.out hbm hv2
        have hrg3 := ranges_keep RG1.out hm3w (fun e => by have e' : mb = mb' := e; omega) (fun e => NE2.out (Eq.symm e))
        refine ⟨⟨_, cnt1, hrg3, ⟨v1, hm3w.keep CB1.out hne3, ownsRow_mod OW1.out hm3w (fun q e h => ?_)⟩, ⟨_, ⟨hput.mp, hput.keys, fun j hj hd => ?_, fun j l' hj hd => ?_⟩⟩, (M01.out.then hm3w (fun q hq e => by have e' : q = mb' := e; omega))⟩, ?_⟩
        · obtain ⟨es', clock', h2⟩ := DC1.out.mp.heap
          have e' : q = mb' := h
          obtain ⟨_, ⟨rfl, _⟩ | ⟨g, cap, cur', rfl, _, hh, _⟩⟩ := OW1.out
          · simp [Value.ownBlock] at e
          · simp [Value.ownBlock] at e
            rw [e, e', h2] at hh; cases hh
        · refine hput.gone j hj ?_
          by_cases e : j = i
          · subst e; simp [sameKey_self_int, HL.out] at hd
          · have hk : (Lit.int .i64 (j : Int)).sameKey (.int .i64 (i : Int)) = false := sameKey_ne (lit_int_ne e)
            simp only [hk, Bool.not_false, Bool.and_true] at hd
            rw [if_neg e]; exact hd
        · refine hput.here j l' hj ?_
          by_cases e : j = i
          · subst e
            simp [sameKey_self_int] at hd
            rw [HL.out] at hd
            rw [if_pos rfl]; exact hd
          · have hk : (Lit.int .i64 (j : Int)).sameKey (.int .i64 (i : Int)) = false := sameKey_ne (lit_int_ne e)
            simp only [hk, Bool.not_false, Bool.and_true] at hd
            rw [if_neg e]; exact hd
        · rw [hrg3.left_eq, RG.out.left_eq]; exact HLT.out

end Go.Proofs.Ytnchclleiccofaa
