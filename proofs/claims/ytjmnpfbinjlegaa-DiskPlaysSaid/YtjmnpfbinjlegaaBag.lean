/-
  A region that draws its order: its effects in whatever order they may come, told by what each has yielded. No statement is proved here; no condition.
-/
import Derived.Test.YtjmnpfbinjlegaaReg
namespace Go.Proofs.Ytjmnpfbinjlegaa
open Go.RowKit

/-- What the numbers of E (each with its slot) have yielded, put in E's order. -/
def puts (σ : Nat → Option Value) : List (Nat × Nat) → Act → Act
  | [], A => A
  | e :: E, A => puts σ E (match σ e.1 with | some v => A.put (some e.2) v | none => A)

def marks (σ : Nat → Option Value) : List (Nat × Nat) → Array Bool → Array Bool
  | [], L => L
  | e :: E, L => marks σ E (match σ e.1 with | some _ => L.setIfInBounds e.1 true | none => L)

def upd (σ : Nat → Option Value) (i : Nat) (v : Value) : Nat → Option Value := fun k => if k = i then some v else σ k

theorem put_comm (A : Act) {d d' : Nat} (v v' : Value) (h : d ≠ d') : (A.put (some d) v).put (some d') v' = (A.put (some d') v').put (some d) v := by
  simp only [Act.put]
  rw [Array.setIfInBounds_comm _ _ h]

theorem puts_put (σ : Nat → Option Value) (d : Nat) (v : Value) : ∀ (E : List (Nat × Nat)) (A : Act), (∀ e ∈ E, e.2 ≠ d) → puts σ E (A.put (some d) v) = (puts σ E A).put (some d) v
  | [], _, _ => rfl
  | e :: E, A, h => by
    have h1 := h e (by simp)
    have h2 : ∀ x ∈ E, x.2 ≠ d := fun x hx => h x (by simp [hx])
    unfold puts
    cases σ e.1 with
    | none => exact puts_put σ d v E A h2
    | some u =>
      show puts σ E ((A.put (some d) v).put (some e.2) u) = _
      rw [put_comm A v u (Ne.symm h1)]
      exact puts_put σ d v E _ h2

theorem marks_set (σ : Nat → Option Value) (i : Nat) : ∀ (E : List (Nat × Nat)) (L : Array Bool), (∀ e ∈ E, e.1 ≠ i) → marks σ E (L.setIfInBounds i true) = (marks σ E L).setIfInBounds i true
  | [], _, _ => rfl
  | e :: E, L, h => by
    have h1 := h e (by simp)
    have h2 : ∀ x ∈ E, x.1 ≠ i := fun x hx => h x (by simp [hx])
    unfold marks
    cases σ e.1 with
    | none => exact marks_set σ i E L h2
    | some u =>
      show marks σ E ((L.setIfInBounds i true).setIfInBounds e.1 true) = _
      rw [Array.setIfInBounds_comm _ _ (Ne.symm h1)]
      exact marks_set σ i E _ h2

theorem puts_congr {σ τ : Nat → Option Value} : ∀ (E : List (Nat × Nat)) (A : Act), (∀ e ∈ E, σ e.1 = τ e.1) → puts σ E A = puts τ E A
  | [], _, _ => rfl
  | e :: E, A, h => by
    unfold puts
    rw [h e (by simp)]
    exact puts_congr E _ fun x hx => h x (by simp [hx])
theorem marks_congr {σ τ : Nat → Option Value} : ∀ (E : List (Nat × Nat)) (L : Array Bool), (∀ e ∈ E, σ e.1 = τ e.1) → marks σ E L = marks τ E L
  | [], _, _ => rfl
  | e :: E, L, h => by
    unfold marks
    rw [h e (by simp)]
    exact marks_congr E _ fun x hx => h x (by simp [hx])

theorem puts_upd {σ : Nat → Option Value} {i d : Nat} (v : Value) : ∀ (E : List (Nat × Nat)) (A : Act), (E.map (·.1)).Nodup → (E.map (·.2)).Nodup → (i, d) ∈ E → σ i = none → puts (upd σ i v) E A = (puts σ E A).put (some d) v
  | [], _, _, _, h, _ => by cases h
  | e :: E, A, h1, h2, h, h0 => by
    simp only [List.map_cons, List.nodup_cons, List.mem_map, not_exists, not_and] at h1 h2
    by_cases he : e = (i, d)
    · subst he
      have hc : ∀ x ∈ E, upd σ i v x.1 = σ x.1 := fun x hx => by
        unfold upd; rw [if_neg fun q => h1.1 x hx q]
      show puts (upd σ i v) E (match upd σ i v i with | some v => A.put (some d) v | none => A) = (puts σ E (match σ i with | some v => A.put (some d) v | none => A)).put (some d) v
      rw [h0, show upd σ i v i = some v from if_pos rfl, puts_congr E _ hc]
      exact puts_put σ d v E A fun x hx q => h2.1 x hx q
    · have hm : (i, d) ∈ E := by
        rcases List.mem_cons.1 h with q | q
        · exact absurd q.symm he
        · exact q
      have hne : e.1 ≠ i := fun q => h1.1 (i, d) hm q.symm
      show puts (upd σ i v) E (match upd σ i v e.1 with | some v => A.put (some e.2) v | none => A) = (puts σ E (match σ e.1 with | some v => A.put (some e.2) v | none => A)).put (some d) v
      rw [show upd σ i v e.1 = σ e.1 from if_neg hne]
      exact puts_upd v E _ h1.2 h2.2 hm h0
theorem marks_upd {σ : Nat → Option Value} {i d : Nat} (v : Value) : ∀ (E : List (Nat × Nat)) (L : Array Bool), (E.map (·.1)).Nodup → (i, d) ∈ E → σ i = none → marks (upd σ i v) E L = (marks σ E L).setIfInBounds i true
  | [], _, _, h, _ => by cases h
  | e :: E, L, h1, h, h0 => by
    simp only [List.map_cons, List.nodup_cons, List.mem_map, not_exists, not_and] at h1
    by_cases he : e = (i, d)
    · subst he
      have hc : ∀ x ∈ E, upd σ i v x.1 = σ x.1 := fun x hx => by
        unfold upd; rw [if_neg fun q => h1.1 x hx q]
      show marks (upd σ i v) E (match upd σ i v i with | some _ => L.setIfInBounds i true | none => L) = (marks σ E (match σ i with | some _ => L.setIfInBounds i true | none => L)).setIfInBounds i true
      rw [h0, show upd σ i v i = some v from if_pos rfl, marks_congr E _ hc]
      exact marks_set σ i E L fun x hx q => h1.1 x hx q
    · have hm : (i, d) ∈ E := by
        rcases List.mem_cons.1 h with q | q
        · exact absurd q.symm he
        · exact q
      have hne : e.1 ≠ i := fun q => h1.1 (i, d) hm q.symm
      show marks (upd σ i v) E (match upd σ i v e.1 with | some _ => L.setIfInBounds e.1 true | none => L) = (marks σ E (match σ e.1 with | some _ => L.setIfInBounds e.1 true | none => L)).setIfInBounds i true
      rw [show upd σ i v e.1 = σ e.1 from if_neg hne]
      exact marks_upd v E _ h1.2 hm h0

/-- Is it marked? -/
theorem marks_get {σ : Nat → Option Value} {j : Nat} : ∀ (E : List (Nat × Nat)) (L : Array Bool), (marks σ E L).getD j false = true → L.getD j false = true ∨ ((σ j).isSome = true ∧ ∃ d, (j, d) ∈ E)
  | [], _, h => .inl h
  | e :: E, L, h => by
    unfold marks at h
    rcases marks_get E _ h with q | ⟨q, d, hd⟩
    · cases hs : σ e.1 with
      | none => rw [hs] at q; exact .inl q
      | some u =>
        rw [hs] at q
        by_cases hj : e.1 = j
        · subst hj
          exact .inr ⟨by rw [hs]; rfl, e.2, by simp⟩
        · exact .inl (by rw [← getD_set_ne false hj]; exact q)
    · exact .inr ⟨q, d, by simp [hd]⟩

/-- Is every marked one's every edge marked? -/
def closedB (md : Region.Mode) (ops : Array Oper) (E : List (Nat × Nat)) (L : Array Bool) : Bool :=
  E.all fun e => !L.getD e.1 false || match ops[e.1]? with | some o => o.after.toList.all fun x => !Region.binds md x || L.getD x.on false | none => true

/-- Does operation j wait for i? -/
def edgeB (md : Region.Mode) (ops : Array Oper) (j i : Nat) : Bool := match ops[j]? with | some o => o.after.toList.any fun x => Region.binds md x && x.on == i | none => false

/-- Each but the last has one behind it in the list that waits for it. -/
def upB (md : Region.Mode) (ops : Array Oper) : List (Nat × Nat) → Bool
  | [] => true
  | e :: E => (E.isEmpty || E.any fun e' => edgeB md ops e'.1 e.1) && upB md ops E

/-- Each waits for marked ones alone, or for such as lie ahead of it in the list. -/
def downB (md : Region.Mode) (ops : Array Oper) (L : Array Bool) : List Nat → List (Nat × Nat) → Bool
  | _, [] => true
  | pre, e :: E => (match ops[e.1]? with | some o => o.after.toList.all fun x => !Region.binds md x || L.getD x.on false || pre.contains x.on | none => false) && downB md ops L (e.1 :: pre) E

/-- While not all of E are marked, one of them may come up, and nobody else. -/
def bagB (md : Region.Mode) (ops : Array Oper) (E : List (Nat × Nat)) (L : Array Bool) : Bool :=
  match E.getLast? with
  | none => false
  | some z => upB md ops E && downB md ops L [] E && (List.range ops.size).all fun j => L.getD j true || E.any (·.1 == j) || match ops[j]? with | some o => o.after.toList.any fun x => Region.binds md x && (x.on == z.1 || (!L.getD x.on false && !E.any (·.1 == x.on))) | none => true

theorem up_all {md : Region.Mode} {ops : Array Oper} {E0 : List (Nat × Nat)} {L M : Array Bool} {σ : Nat → Option Value} (hc : closedB md ops E0 M = true) (hM : ∀ i, M.getD i false = true → L.getD i false = true ∨ (σ i).isSome = true) (hσ : ∀ e ∈ E0, (σ e.1).isSome = true → M.getD e.1 false = true) (hL : ∀ e ∈ E0, L.getD e.1 false = false) :
    ∀ (E : List (Nat × Nat)), (∀ e ∈ E, e ∈ E0) → upB md ops E = true → (∀ z, E.getLast? = some z → (σ z.1).isSome = true) → ∀ e ∈ E, (σ e.1).isSome = true
  | [], _, _, _ => fun _ h => by cases h
  | e :: E, hE, hu, hz => by
    simp only [upB, Bool.and_eq_true, Bool.or_eq_true, List.isEmpty_iff, List.any_eq_true] at hu
    cases E with
    | nil =>
      intro x hx
      rw [List.mem_singleton.1 hx]
      exact hz e rfl
    | cons e2 E =>
      have ih := up_all hc hM hσ hL (e2 :: E) (fun x hx => hE x (by simp [List.mem_cons.1 hx])) hu.2 (fun z h => hz z (by rw [List.getLast?_cons_cons]; exact h))
      intro x hx
      rcases List.mem_cons.1 hx with r | r
      · subst r
        rcases hu.1 with h | ⟨e', he', hed⟩
        · cases h
        · unfold edgeB at hed
          have h1 := ih e' he'
          have h2 := hσ e' (hE e' (List.mem_cons_of_mem _ he')) h1
          have h3 := List.all_eq_true.1 hc e' (hE e' (List.mem_cons_of_mem _ he'))
          rw [h2] at h3
          revert hed h3
          cases ops[e'.1]? with
          | none => intro h; cases h
          | some o =>
            intro hed h3
            simp only [List.any_eq_true, Bool.and_eq_true, beq_iff_eq] at hed
            obtain ⟨y, hy, hb, hon⟩ := hed
            simp only [Bool.not_true, Bool.false_or, List.all_eq_true, Bool.or_eq_true, Bool.not_eq_true'] at h3
            have h4 := h3 y hy
            rw [hb, hon] at h4
            rcases h4 with h4 | h4
            · cases h4
            · rcases hM _ h4 with h5 | h5
              · rw [hL x (hE x (by simp))] at h5; cases h5
              · exact h5
      · exact ih x r

theorem down_ready {md : Region.Mode} {ops : Array Oper} {L M : Array Bool} {σ : Nat → Option Value} (hLM : ∀ i, L.getD i false = true → M.getD i false = true) (hsz : ∀ i, ops[i]?.isSome = true → i < M.size) :
    ∀ (pre : List Nat) (E : List (Nat × Nat)), downB md ops L pre E = true → (∀ i ∈ pre, M.getD i false = true) → (∀ e ∈ E, (σ e.1).isSome = true → M.getD e.1 false = true) → (∀ e ∈ E, (σ e.1).isSome = false → M.getD e.1 false = false) → (∃ e ∈ E, (σ e.1).isSome = false) → Region.ready md ops M ≠ []
  | _, [], _, _, _, _, h => by obtain ⟨_, h, _⟩ := h; cases h
  | pre, e :: E, hd, hp, h1, h2, hex => by
    simp only [downB, Bool.and_eq_true] at hd
    cases hs : (σ e.1).isSome with
    | true =>
      refine down_ready hLM hsz (e.1 :: pre) E hd.2 (fun i hi => ?_) (fun x hx => h1 x (by simp [hx])) (fun x hx => h2 x (by simp [hx])) ?_
      · rcases List.mem_cons.1 hi with r | r
        · rw [r]; exact h1 e (by simp) hs
        · exact hp i r
      · obtain ⟨x, hx, hxs⟩ := hex
        rcases List.mem_cons.1 hx with r | r
        · rw [r, hs] at hxs; cases hxs
        · exact ⟨x, r, hxs⟩
    | false =>
      intro hr
      have h3 := hd.1
      cases ho : ops[e.1]? with
      | none => rw [ho] at h3; cases h3
      | some o =>
        rw [ho] at h3
        have hm : e.1 ∈ Region.ready md ops M := by
          refine mem_ready.2 ⟨?_, o, ho, fun x hx hb => ?_⟩
          · have h4 := h2 e (by simp) hs
            have h5 := hsz e.1 (by rw [ho]; rfl)
            simpa [h5] using h4
          · have h4 := List.all_eq_true.1 h3 x (by simpa using hx)
            rw [hb] at h4
            simp only [Bool.not_true, Bool.false_or, Bool.or_eq_true, List.contains_iff_mem] at h4
            exact h4.elim (hLM _) (hp _)
        rw [hr] at hm; cases hm

theorem marks_size (σ : Nat → Option Value) : ∀ (E : List (Nat × Nat)) (L : Array Bool), (marks σ E L).size = L.size
  | [], _ => rfl
  | e :: E, L => by
    unfold marks
    rw [marks_size σ E]
    cases σ e.1 with
    | none => rfl
    | some u => show (L.setIfInBounds e.1 true).size = L.size; rw [Array.size_setIfInBounds]
theorem marks_old {σ : Nat → Option Value} {j : Nat} : ∀ (E : List (Nat × Nat)) (L : Array Bool), L.getD j false = true → (marks σ E L).getD j false = true
  | [], _, h => h
  | e :: E, L, h => by
    unfold marks
    refine marks_old E _ ?_
    cases σ e.1 with
    | none => exact h
    | some u => exact getD_set_true h
theorem marks_out {σ : Nat → Option Value} {j : Nat} (b : Bool) : ∀ (E : List (Nat × Nat)) (L : Array Bool), (∀ e ∈ E, e.1 ≠ j) → (marks σ E L).getD j b = L.getD j b
  | [], _, _ => rfl
  | e :: E, L, h => by
    unfold marks
    rw [marks_out b E _ fun x hx => h x (by simp [hx])]
    cases σ e.1 with
    | none => rfl
    | some u => exact getD_set_ne b (h e (by simp))

theorem count_upd {σ : Nat → Option Value} {i d : Nat} (v : Value) : ∀ (E : List (Nat × Nat)), (E.map (·.1)).Nodup → (i, d) ∈ E → σ i = none → (E.filter fun e => (upd σ i v e.1).isNone).length + 1 = (E.filter fun e => (σ e.1).isNone).length
  | [], _, h, _ => by cases h
  | e :: E, h1, h, h0 => by
    simp only [List.map_cons, List.nodup_cons, List.mem_map, not_exists, not_and] at h1
    by_cases he : e = (i, d)
    · subst he
      have hc : (E.filter fun e => (upd σ i v e.1).isNone) = (E.filter fun e => (σ e.1).isNone) := List.filter_congr fun x hx => by
        unfold upd; rw [if_neg fun q => h1.1 x hx q]
      rw [List.filter_cons_of_neg (by simp [upd]), List.filter_cons_of_pos (by simp [h0]), hc, List.length_cons]
    · have hm : (i, d) ∈ E := by
        rcases List.mem_cons.1 h with q | q
        · exact absurd q.symm he
        · exact q
      have hne : e.1 ≠ i := fun q => h1.1 (i, d) hm q.symm
      have hu : upd σ i v e.1 = σ e.1 := if_neg hne
      have ih := count_upd v E h1.2 hm h0
      cases hs : σ e.1 with
      | none => rw [List.filter_cons_of_pos (by simp [hu, hs]), List.filter_cons_of_pos (by simp [hs]), List.length_cons, List.length_cons, ih]
      | some u => rw [List.filter_cons_of_neg (by simp [hu, hs]), List.filter_cons_of_neg (by simp [hs])]; exact ih

theorem closed_set {md : Region.Mode} {ops : Array Oper} {E : List (Nat × Nat)} {L : Array Bool} {j : Nat} {oj : Oper} (h : closedB md ops E L = true) (hj : ops[j]? = some oj) (hd : ∀ x ∈ oj.after, Region.binds md x = true → L.getD x.on false = true) :
    closedB md ops E (L.setIfInBounds j true) = true := by
  unfold closedB at *
  rw [List.all_eq_true] at *
  intro e he
  have h1 := h e he
  by_cases q : e.1 = j
  · subst q
    rw [hj]
    simp only [Bool.or_eq_true, List.all_eq_true, Bool.not_eq_true']
    right
    intro x hx
    by_cases hb : Region.binds md x = true
    · right; exact getD_set_true (hd x (by simpa using hx) hb)
    · left; simpa using hb
  · have h2 : (L.setIfInBounds j true).getD e.1 false = L.getD e.1 false := getD_set_ne false (fun r => q r.symm)
    rw [h2]
    simp only [Bool.or_eq_true, Bool.not_eq_true'] at h1 ⊢
    rcases h1 with h1 | h1
    · exact .inl h1
    · right
      revert h1
      cases ops[e.1]? with
      | none => exact id
      | some o =>
        simp only [List.all_eq_true, Bool.or_eq_true, Bool.not_eq_true']
        intro h1 x hx
        exact (h1 x hx).imp id fun r => getD_set_true r

section
variable {P : Program} {ops : Array Oper} {Q : Exit → Act → World → Prop} {md : Region.Mode} {S : World → Prop}

theorem wpAnyT_bag {z fuel : Nat} {L : Array Bool} {A : Act} (E : List (Nat × Nat)) (G : (Nat → Option Value) → World → Prop)
    (hn1 : (E.map (·.1)).Nodup) (hn2 : (E.map (·.2)).Nodup) (hB : bagB md ops E L = true) (hL : ∀ e ∈ E, L.getD e.1 false = false) (hsz : ∀ e ∈ E, e.1 < L.size) (hops : ∀ i, ops[i]?.isSome = true → i < L.size)
    (hstep : ∀ σ w j d oj, (j, d) ∈ E → σ j = none → ops[j]? = some oj → (∀ x ∈ oj.after, Region.binds md x = true → L.getD x.on false = true ∨ (σ x.on).isSome = true) → G σ w →
      wpOp P ops Q j (fun a' w' => ∃ v, a' = (puts σ E A).put (some d) v ∧ S w' ∧ G (upd σ j v) w') (puts σ E A) w)
    (hfin : ∀ σ w, (∀ e ∈ E, (σ e.1).isSome = true) → G σ w → wpAnyT P md ops Q S z fuel (marks σ E L) (puts σ E A) w) :
    ∀ (k : Nat) (σ : Nat → Option Value) (w : World), (E.filter fun e => (σ e.1).isNone).length = k → closedB md ops E (marks σ E L) = true → G σ w → wpAnyT P md ops Q S z (fuel + k) (marks σ E L) (puts σ E A) w
  | 0, σ, w, hk, _, hG => hfin σ w (fun e he => by
      have h0 : (E.filter fun e => (σ e.1).isNone) = [] := List.eq_nil_of_length_eq_zero hk
      have := List.filter_eq_nil_iff.1 h0 e he
      cases h : σ e.1 <;> simp_all) hG
  | k + 1, σ, w, hk, hc, hG => by
    have hsome : ∀ e ∈ E, (σ e.1).isSome = true → (marks σ E L).getD e.1 false = true := fun e he hs => by
      obtain ⟨u, hu⟩ := Option.isSome_iff_exists.1 hs
      have h1 := marks_upd (σ := fun k => if k = e.1 then none else σ k) u E L hn1 (show (e.1, e.2) ∈ E from he) (if_pos rfl)
      have h2 : upd (fun k => if k = e.1 then none else σ k) e.1 u = σ := by
        funext k; unfold upd
        by_cases q : k = e.1
        · subst q; simp [hu]
        · simp [q]
      rw [h2] at h1
      rw [h1]
      have h3 : e.1 < (marks (fun k => if k = e.1 then none else σ k) E L).size := by rw [marks_size]; exact hsz e he
      simp [h3]
    have hnone : ∀ e ∈ E, (σ e.1).isSome = false → (marks σ E L).getD e.1 false = false := fun e he hs => by
      cases hm : (marks σ E L).getD e.1 false with
      | false => rfl
      | true =>
        rcases marks_get E L hm with h | h
        · rw [hL e he] at h; cases h
        · rw [hs] at h; cases h.1
    have hnall : ∃ e ∈ E, (σ e.1).isSome = false := by
      obtain ⟨e, he⟩ : ∃ e, e ∈ E.filter fun e => (σ e.1).isNone := List.exists_mem_of_length_pos (by omega)
      obtain ⟨h1, h2⟩ := List.mem_filter.1 he
      exact ⟨e, h1, by cases h : σ e.1 <;> simp_all⟩
    have hB0 := hB
    unfold bagB at hB
    cases hlast : E.getLast? with
    | none => rw [hlast] at hB; cases hB
    | some z' =>
    rw [hlast] at hB
    simp only [Bool.and_eq_true] at hB
    have hzE : z' ∈ E := List.mem_of_getLast? hlast
    refine ⟨fun h => absurd h (down_ready (σ := σ) (fun i h => marks_old E L h) (fun i h => by rw [marks_size]; exact hops i h) [] E hB.1.2 (by simp) hsome hnone hnall), fun j hj => ?_⟩
    have hjE' : ∃ e ∈ E, e.1 = j := by
      by_cases hex : ∃ e ∈ E, e.1 = j
      · exact hex
      · exfalso
        have hout : ∀ e ∈ E, e.1 ≠ j := fun e he r => hex ⟨e, he, r⟩
        obtain ⟨hun, oj, hoj, hdep⟩ := mem_ready.1 hj
        rw [marks_out true E L hout] at hun
        have hjs : j < ops.size := (Array.getElem?_eq_some_iff.1 hoj).1
        have h1 := List.all_eq_true.1 hB.2 j (List.mem_range.2 hjs)
        rw [hun, hoj] at h1
        have h2 : (E.any (·.1 == j)) = false := by
          rw [Bool.eq_false_iff]
          intro h
          obtain ⟨e, he, hh⟩ := List.any_eq_true.1 h
          exact hout e he (by simpa using hh)
        rw [h2] at h1
        simp only [Bool.false_or, List.any_eq_true, Bool.and_eq_true, Bool.or_eq_true, beq_iff_eq, Bool.not_eq_true'] at h1
        obtain ⟨x, hx, hb, hx2⟩ := h1
        have h3 := hdep x (by simpa using hx) hb
        rcases hx2 with hx2 | ⟨hx2, hx3⟩
        · rw [hx2] at h3
          have h4 : (σ z'.1).isSome = true := by
            cases h : (σ z'.1).isSome with
            | true => rfl
            | false => rw [hnone z' hzE h] at h3; cases h3
          obtain ⟨e, he, hh⟩ := hnall
          have := up_all hc (fun i h => (marks_get E L h).imp id (·.1)) hsome hL E (fun _ h => h) hB.1.1 (fun z h => by rw [hlast] at h; cases h; exact h4) e he
          rw [this] at hh; cases hh
        · rcases marks_get E L h3 with h | ⟨_, d, hd⟩
          · rw [hx2] at h; cases h
          · have : (E.any (·.1 == x.on)) = true := List.any_eq_true.2 ⟨_, hd, by simp⟩
            rw [hx3] at this; cases this
    obtain ⟨⟨j', d⟩, hjE, rfl⟩ := hjE'
    obtain ⟨hun, oj, hoj, hdep⟩ := mem_ready.1 hj
    have hsj : σ j' = none := by
      cases h : σ j' with
      | none => rfl
      | some u =>
        exfalso
        have h1 := marks_upd (σ := fun k => if k = j' then none else σ k) u E L hn1 hjE (if_pos rfl)
        have h2 : upd (fun k => if k = j' then none else σ k) j' u = σ := by
          funext k; unfold upd
          by_cases q : k = j'
          · subst q; simp [h]
          · simp [q]
        rw [h2] at h1
        rw [h1] at hun
        rcases Nat.lt_or_ge j' (marks (fun k => if k = j' then none else σ k) E L).size with q | q
        · simp [q] at hun
        · simp [q] at hun
    refine wpOp_mono (fun a' w' h' => ?_) (hstep σ w j' d oj hjE hsj hoj (fun x hx hb => (marks_get E L (hdep x hx hb)).imp id (·.1)) hG)
    obtain ⟨v, rfl, hS, hG'⟩ := h'
    refine ⟨fun _ => hS, ?_⟩
    rw [← puts_upd v E A hn1 hn2 hjE hsj, ← marks_upd v E L hn1 hjE hsj]
    refine wpAnyT_bag E G hn1 hn2 hB0 hL hsz hops hstep hfin k (upd σ j' v) w' ?_ ?_ hG'
    · have := count_upd v E hn1 hjE hsj
      omega
    · rw [marks_upd v E L hn1 hjE hsj]
      exact closed_set hc hoj hdep

end
end Go.Proofs.Ytjmnpfbinjlegaa
