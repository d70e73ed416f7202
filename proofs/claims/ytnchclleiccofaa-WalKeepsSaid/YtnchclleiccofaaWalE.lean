/-
  Layer 4, the log: open's records. No statement is proved here; no condition.
-/
import Derived.Test.YtnchclleiccofaaWalD
namespace Go.Proofs.Ytnchclleiccofaa
open Go.RowKit

/-- A stop, and what is known there. -/
def StopQ (M : World → Prop) : Exit → Act → World → Prop := fun e a w => match e with
  | .panic ch => ch = [{ v := stopV, recovered := false }] ∧ a.defers = [] ∧ M w
  | _ => False

/-- Records in memory of one's own. -/
structure OwnRecs (w : World) (base : Nat) (v : Value) (rs : List (List UInt8)) : Prop where
  row : ∃ vs : List Value, vs.length = rs.length ∧ w.ownsRow base 33 1 v rs.length vs ∧ ∀ (j : Nat) (u : Value) (r : List UInt8), vs[j]? = some u → rs[j]? = some r → Sl w (fun k => k < base) 5 u r.length (bv r)

theorem own_heapM {w : World} {base : Nat} {e : TypeId} {size : Nat} {v : Value} {n : Nat} {xs : List Value} (h : w.ownsRow base e size v n xs) {k : Nat} (hk : v.ownBlock = some k) : ∃ cur, w.heap[k]? = some (.cells cur e (0, 0)) := by
  obtain ⟨_, ⟨hv, _⟩ | ⟨g, cap, cur, hv, hg, hh, r⟩⟩ := h
  · rw [hv] at hk; cases hk
  · rw [hv] at hk; cases hk; exact ⟨_, hh⟩

theorem Sl.zero {X : Nat → Prop} {w : World} {e : TypeId} {b o n c : Nat} {xs : List Value} (h : Sl w X e (.slice (some ⟨b, o, none⟩) n c) n xs) : Sl w X e (.slice (some ⟨b, o, none⟩) 0 0) 0 [] := by
  rcases h with ⟨h, _⟩ | ⟨blk, o', c0, cur, fz, hv, hn, hc, hX, hh, hl, hr⟩
  · cases h
  · cases hv
    exact .inr ⟨b, o, 0, cur, fz, rfl, Nat.le_refl _, Nat.zero_le _, hX, hh, by simp only [List.length_nil]; omega, fun i hi => by cases hi⟩

theorem OwnRecs.nil (w : World) (base : Nat) : OwnRecs w base (.slice none 0 0) [] := ⟨[], rfl, World.ownsRow_nil _ _ _ _, fun j u r h => by cases h⟩

theorem OwnRecs.stay {w w' : World} {base : Nat} {v : Value} {rs : List (List UInt8)} (h : OwnRecs w base v rs) (hm : Mod No w w') : OwnRecs w' base v rs := by
  obtain ⟨vs, h1, h2, h3⟩ := h.row
  exact ⟨vs, h1, own_keepM h2 hm (fun _ _ f => f), fun j u r hu hr => (h3 j u r hu hr).keep hm (fun _ _ _ f => f.elim)⟩

/-- One more record is appended. -/
theorem OwnRecs.push {w w' : World} {base : Nat} {v v' u : Value} {rs : List (List UInt8)} {vs : List Value} {r : List UInt8} (h1 : vs.length = rs.length) (h2 : w.ownsRow base 33 1 v rs.length vs)
    (h3 : ∀ (j : Nat) (u : Value) (r : List UInt8), vs[j]? = some u → rs[j]? = some r → Sl w (fun k => k < base) 5 u r.length (bv r)) (hu : Sl w (fun k => k < base) 5 u r.length (bv r))
    (hg : w.grownBy w' v.ownBlock) (hown : w'.ownsRow base 33 1 v' (rs.length + 1) (vs ++ [u])) : OwnRecs w' base v' (rs ++ [r]) := by
  have hm := Mod.of_grown (S := fun q => v.ownBlock = some q) hg (fun q e _ => e)
  have hk : ∀ {n : Nat} {xs : List Value} {x : Value}, Sl w (fun k => k < base) 5 x n xs → Sl w' (fun k => k < base) 5 x n xs := fun hs => hs.keep hm fun k cur fz hk _ e => by
    obtain ⟨cur', hc⟩ := own_heapM h2 hk
    rw [hc] at e
    cases e
  refine ⟨vs ++ [u], by simp [h1], by simpa using hown, fun j x y hx hy => ?_⟩
  rcases Nat.lt_or_ge j vs.length with g | g
  · rw [List.getElem?_append_left g] at hx
    rw [List.getElem?_append_left (by omega)] at hy
    exact hk (h3 j x y hx hy)
  · rw [List.getElem?_append_right g] at hx
    rw [List.getElem?_append_right (by omega)] at hy
    have e1 : j - vs.length = 0 := by
      rcases Nat.eq_zero_or_pos (j - vs.length) with e | e
      · exact e
      · rw [List.getElem?_eq_none (by simp; omega)] at hx; cases hx
    rw [e1] at hx
    rw [show j - rs.length = 0 by omega] at hy
    simp at hx hy
    subst hx hy
    exact hk hu

theorem parse_fuel : ∀ (n : Nat) (l : List UInt8), l.length ≤ n → ∀ f, l.length ≤ f → parse f l = parse l.length l
  | _, [], _, f, _ => by cases f <;> rfl
  | n + 1, x :: l, hn, f + 1, hf => by
    simp only [List.length_cons] at hn hf
    show parse (f + 1) (x :: l) = parse (l.length + 1) (x :: l)
    unfold parse
    split
    · rfl
    · split
      · have hd : ((x :: l).drop (4 + getN ((x :: l).take 4))).length ≤ l.length - 3 := by rw [List.length_drop, List.length_cons]; omega
        rw [parse_fuel n _ (by omega) f (by omega), parse_fuel n _ (by omega) l.length (by omega)]
      · rfl

theorem parse_short {R : List UInt8} (h0 : 0 < R.length) (h4 : R.length < 4) : parse R.length R = none := by
  match R, h0 with
  | x :: l, _ => show parse (l.length + 1) (x :: l) = none; unfold parse; rw [if_pos h4]
theorem parse_long {R : List UInt8} (h4 : 4 ≤ R.length) (hk : ¬ getN (R.take 4) ≤ R.length - 4) : parse R.length R = none := by
  match R, h4 with
  | x :: l, h4 => show parse (l.length + 1) (x :: l) = none; unfold parse; rw [if_neg (by omega), if_neg hk]
theorem parse_more {R : List UInt8} (h4 : 4 ≤ R.length) (hk : getN (R.take 4) ≤ R.length - 4) :
    parse R.length R = (parse (R.drop (4 + getN (R.take 4))).length (R.drop (4 + getN (R.take 4)))).map ((R.drop 4).take (getN (R.take 4)) :: ·) := by
  match R, h4 with
  | x :: l, h4 =>
    show parse (l.length + 1) (x :: l) = _
    unfold parse
    rw [if_neg (by omega), if_pos hk]
    rw [parse_fuel _ _ (Nat.le_refl _) l.length (by rw [List.length_drop, List.length_cons]; simp only [List.length_cons] at h4; omega)]
    cases hd : (x :: l).drop (4 + getN ((x :: l).take 4)) with
    | nil => rfl
    | cons y m => rfl

theorem getN_lt4 {l : List UInt8} (h : l.length = 4) : getN l < 4294967296 := by
  match l, h with
  | [a, b, c, d], _ =>
    have h1 := UInt8.toNat_lt a
    have h2 := UInt8.toNat_lt b
    have h3 := UInt8.toNat_lt c
    have h4 := UInt8.toNat_lt d
    simp only [getN, List.foldl_cons, List.foldl_nil]
    omega

noncomputable def recs49 : Code := (blockAt 2 open49).getD .skip

set_option maxRecDepth 100000 in
set_option maxHeartbeats 1600000 in
theorem recs_any (w : World) (base : Nat) (v vt vb : Value) (L : List UInt8) (f : Act) (hbase : base ≤ w.heap.size) (hL : L.length ≤ 8355840) (hv : Sl w No 5 v L.length (bv L))
    (hF : Fr 135 [(14, vt), (16, vb), (18, .slice none 0 0), (19, v)] f) :
    Code.wp Try.prog recs49 (Exit.then (fun a' w' => (∃ rs v', parse L.length L = some rs ∧ OwnRecs w' base v' rs ∧ Fr 135 [(14, vt), (16, vb), (18, v')] a') ∧ Mod (fun k => base ≤ k) w w') (StopQ fun w' => parse L.length L = none ∧ Mod (fun k => base ≤ k) w w')) f w := by
  obtain ⟨i0, hi, hz0, hz1, hz2⟩ := info_parts info_bs
  refine wp_part fun J K' hJ hK => ?_
  obtain ⟨ts, ds⟩ := f
  obtain ⟨hsz, hds, hs14, hs16, hs18, hs19, -⟩ := hF
  dsimp only at hsz hds hs14 hs16 hs18 hs19
  subst hds
  obtain ⟨c, rfl, hc⟩ := lit135 ts hsz
  rw [hc] at hs14
  rw [hc] at hs16
  rw [hc] at hs18
  rw [hc] at hs19
  simp only [hs14, hs16, hs18, hs19]
  clear hc hsz hs14 hs16 hs18 hs19

  have HJ := Lib.hid hJ
  have HV := Lib.hid hv
  clear hJ hv
  conv => arg 2; whnf
  go_wp2_with fail
  go_loopw [18, 19] (fun o r wr => ∃ R done, parse L.length L = (parse R.length R).map (done ++ ·) ∧ done.length + R.length ≤ L.length ∧ OwnRecs wr base o done ∧ Sl wr No 5 r R.length (bv R) ∧ Mod (fun k => base ≤ k) w wr) (fun _ r _ => match r with | .slice _ n _ => n | _ => 0)
  case atStart => exact ⟨L, [], by simp, by simp, OwnRecs.nil _ _, HV.out, Mod.refl _ _⟩
  case round =>
    clear HV
    obtain ⟨R, done, hpar, hlen, hown, hsl, hmod⟩ := hrel
    obtain ⟨vs0, -, e20, -⟩ := hown.row
    obtain ⟨oa, oc, rfl⟩ := own_len e20
    have HM := Lib.hid hmod
    have HPA := Lib.hid hpar
    have HOW := Lib.hid hown
    clear e20 vs0
    clear hmod hpar hown
    by_cases h0 : 0 < R.length
    · obtain ⟨g, o, c', rfl, hc1, hc2, _⟩ := hsl.shape h0
      have HSL := Lib.hid hsl
      clear hsl
      have h0' : (0 : Int) < (R.length : Int) := by omega
      by_cases h4 : R.length < 4
      · have h4' : (R.length : Int) < 4 := by omega
        have hd4 : decide ((4 : Int) ≤ (R.length : Int)) = false := decide_eq_false (by omega)
        go_wp2_with fail
        refine (must_no wr).mono ?_
        rintro e w2 ⟨rfl, h2⟩
        subst h2
        go_wp2_with fail
        exact ⟨rfl, rfl, by rw [HPA.out, parse_short h0 h4]; rfl, HM.out⟩
      · have h4' : (4 : Int) ≤ (R.length : Int) := by omega
        have hd4 : decide ((4 : Int) ≤ (R.length : Int)) = true := decide_eq_true (by omega)
        have hs4 := HSL.out.takeN (m := 4) (by rw [bv_length]) (by omega)
        rw [← bv_take] at hs4
        have e4 : (R.take 4).length = 4 := by rw [List.length_take]; omega
        have HG := get_any 5 (.slice (some ⟨g, o, none⟩) 4 c') (R.take 4) wr (by rw [e4]; exact hs4) (by omega)
        have hgk : getN (R.take 4) < 4294967296 := getN_lt4 e4
        have HG := Lib.hid HG
        have h4c : (4 : Int) ≤ (c' : Int) := by omega
        clear hs4
        generalize hk : getN (R.take 4) = k at *
        by_cases hkl : k ≤ R.length - 4
        · go_wp2_with fail
          refine (must_yes 0 wr).mono ?_
          rintro e w2 ⟨rfl, h2⟩
          subst h2
          go_wp2_with fail
          refine HG.out.mono ?_
          rintro e w2 ⟨rfl, h2⟩
          subst h2
          have hkl' : decide ((k : Int) ≤ (R.length : Int) - 4) = true := decide_eq_true (by omega)
          go_wp2_with fail
          refine (must_yes 0 w2).mono ?_
          rintro e w3 ⟨rfl, h2⟩
          subst h2
          have hk1 : (4 : Int) + (k : Int) ≤ (R.length : Int) := by omega
          have hk2 : (4 : Int) + (k : Int) ≤ (c' : Int) := by omega
          have HPM := Lib.hid (parse_more (R := R) (by omega) (by rw [hk]; exact hkl))
          rw [hk] at HPM
          have hl1 : ((R.drop 4).take k).length = k := by rw [List.length_take, List.length_drop]; omega
          have hl2 : (R.drop (4 + k)).length = R.length - (4 + k) := List.length_drop
          have HL1 := Lib.hid hl1
          have HL2 := Lib.hid hl2
          have hk4 : k < 4294967296 := hgk
          clear hl1 hl2 hgk
          by_cases hc4 : c' = 4
          · have hk0 : k = 0 := by omega
            subst hc4 hk0
            have HS1 := Lib.hid (show Sl w3 No 5 (.slice (some ⟨g, o, none⟩) 0 0) ((R.drop 4).take 0).length (bv ((R.drop 4).take 0)) from HSL.out.zero)
            have HS2 := Lib.hid (show Sl w3 No 5 (.slice (some ⟨g, o, none⟩) 0 0) (R.drop (4 + 0)).length (bv (R.drop (4 + 0))) by
              rw [List.drop_of_length_le (show R.length ≤ 4 + 0 by omega)]; exact HSL.out.zero)
            have HCL := Lib.hid (clone_bytes No _ (bv ((R.drop 4).take 0)) w3 (by rw [bv_length]; exact HS1.out) (bv_one _) (by rw [bv_length, HL1.out]; omega))
            clear HS1
            go_wp2_with fail
            refine HCL.out.mono ?_
            clear HCL
            rintro e w4 ⟨u, rfl, hou, _, hm4⟩
            rw [bv_length, HL1.out] at hou
            obtain ⟨ua, uc, rfl⟩ := own_len hou
            have hsu := Sl.of_own (X := fun k => k < base) hou (fun q h1 h2 => by have := HM.out.size; omega)
            have hsu2 : Sl w4 (fun k => k < base) 5 (.slice ua 0 uc) ((R.drop 4).take 0).length (bv ((R.drop 4).take 0)) := by rw [HL1.out]; exact hsu
            obtain ⟨vs, e1, e2, e3⟩ := (HOW.out.stay hm4).row
            have hm5 : Mod No w4 (w4.alloc (.cells #[.slice ua 0 uc] 33)) := (Mod.refl No w4).alloc _
            have HU := Lib.hid (hsu2.keep hm5 (fun _ _ _ f => f.elim))
            have HO5 := Lib.hid (own_keepM e2 hm5 (fun _ _ f => f))
            have HE1 := Lib.hid e1
            have HE3 := Lib.hid (show ∀ (j : Nat) (u' : Value) (r : List UInt8), vs[j]? = some u' → done[j]? = some r → Sl (w4.alloc (.cells #[.slice ua 0 uc] 33)) (fun k => k < base) 5 u' r.length (bv r) from fun j u' r h1 h2 => (e3 j u' r h1 h2).keep hm5 (fun _ _ _ f => f.elim))
            have HBX := Lib.hid (show Sl (w4.alloc (.cells #[.slice ua 0 uc] 33)) No 33 (.slice (some ⟨w4.heap.size, 0, none⟩) 1 1) 1 [.slice ua 0 uc] from
              .inr ⟨w4.heap.size, 0, 1, #[.slice ua 0 uc], (0, 0), rfl, Nat.le_refl _, by unfold maxLen; omega, fun f => f, heap_alloc_new w4 _, Nat.le_refl _, fun i hi => by simp⟩)
            have HM5 := Lib.hid ((HM.out.trans (hm4.weaken fun _ _ f => f.elim)).alloc (.cells #[.slice ua 0 uc] 33))
            have HS5 := Lib.hid ((HS2.out.keep hm4 (fun _ _ _ f => f.elim)).keep hm5 (fun _ _ _ f => f.elim))
            have hb5 : base ≤ (w4.alloc (.cells #[.slice ua 0 uc] 33)).heap.size := by have := HM5.out.size; omega
            have h1c : ∀ y ∈ [Value.slice ua 0 uc], y.oneCell' = true := by
              intro y hy
              simp at hy
              subst hy
              rfl
            have H1C := Lib.hid h1c
            have hdl : done.length ≤ 8355840 := by omega
            clear hou hsu hsu2 e1 e2 e3 hm4 hm5 HS2 h1c
            go_wp2_with (at_builtin; refine app_sl _ rfl _ _ 26 rfl base 33 i0 (.slice none 0 0) 1 24 Try.underlying26 hi hz0 hz1 hz2 rfl (by decide) _ _ _ rfl HO5.out No 33 _ _ _ rfl HBX.out rfl H1C.out ?_ ?_ hb5 ?_)
            · unfold maxLen; omega
            · omega
            intro v' w6 hown6 hg6 _
            have HR6 := Lib.hid (OwnRecs.push HE1.out HO5.out HE3.out HU.out hg6 hown6)
            have HM6 := Lib.hid (HM5.out.trans (Mod.of_grown (S := fun q => base ≤ q) hg6 (fun q e _ => (HO5.out.lt _ e).1)))
            have HS6 := Lib.hid (HS5.out.keep (Mod.of_grown (S := fun q => Value.ownBlock _ = some q) hg6 (fun q e _ => e)) (fun q cur fz e _ h => by
              obtain ⟨cur', hc⟩ := own_heapM HO5.out e
              rw [hc] at h
              cases h))
            clear hown6 hg6 HO5 HE1 HE3 HU HBX HM5 HS5 H1C
            go_wp2_with fail
            exact ⟨⟨R.drop (4 + 0), done ++ [(R.drop 4).take 0], by rw [HPA.out, HPM.out, Option.map_map]; congr 1; funext x; simp [Function.comp], by have := HL2.out; simp only [List.length_append, List.length_cons, List.length_nil]; omega, HR6.out, HS6.out, HM6.out⟩, by show 0 < R.length; omega⟩
          · by_cases hc5 : c' = 4 + k
            · subst hc5
              have HS1 := Lib.hid (show Sl w3 No 5 (.slice (some ⟨g, o + 4, none⟩) k k) ((R.drop 4).take k).length (bv ((R.drop 4).take k)) by
                rw [HL1.out, bv_take, bv_drop]; exact HSL.out.part (by rw [bv_length]) 4 k _ (by omega) (by omega) (by omega))
              have HS2 := Lib.hid (show Sl w3 No 5 (.slice (some ⟨g, o, none⟩) (R.length - (4 + k)) (4 + k - (4 + k))) (R.drop (4 + k)).length (bv (R.drop (4 + k))) by
                rw [HL2.out, show R.length - (4 + k) = 0 by omega, show 4 + k - (4 + k) = 0 by omega, List.drop_of_length_le (by omega)]; exact HSL.out.zero)
              have HCL := Lib.hid (clone_bytes No _ (bv ((R.drop 4).take k)) w3 (by rw [bv_length]; exact HS1.out) (bv_one _) (by rw [bv_length, HL1.out]; omega))
              clear HS1
              go_wp2_with fail
              refine HCL.out.mono ?_
              clear HCL
              rintro e w4 ⟨u, rfl, hou, _, hm4⟩
              rw [bv_length, HL1.out] at hou
              obtain ⟨ua, uc, rfl⟩ := own_len hou
              have hsu := Sl.of_own (X := fun k => k < base) hou (fun q h1 h2 => by have := HM.out.size; omega)
              have hsu2 : Sl w4 (fun k => k < base) 5 (.slice ua k uc) ((R.drop 4).take k).length (bv ((R.drop 4).take k)) := by rw [HL1.out]; exact hsu
              obtain ⟨vs, e1, e2, e3⟩ := (HOW.out.stay hm4).row
              have hm5 : Mod No w4 (w4.alloc (.cells #[.slice ua k uc] 33)) := (Mod.refl No w4).alloc _
              have HU := Lib.hid (hsu2.keep hm5 (fun _ _ _ f => f.elim))
              have HO5 := Lib.hid (own_keepM e2 hm5 (fun _ _ f => f))
              have HE1 := Lib.hid e1
              have HE3 := Lib.hid (show ∀ (j : Nat) (u' : Value) (r : List UInt8), vs[j]? = some u' → done[j]? = some r → Sl (w4.alloc (.cells #[.slice ua k uc] 33)) (fun k => k < base) 5 u' r.length (bv r) from fun j u' r h1 h2 => (e3 j u' r h1 h2).keep hm5 (fun _ _ _ f => f.elim))
              have HBX := Lib.hid (show Sl (w4.alloc (.cells #[.slice ua k uc] 33)) No 33 (.slice (some ⟨w4.heap.size, 0, none⟩) 1 1) 1 [.slice ua k uc] from
                .inr ⟨w4.heap.size, 0, 1, #[.slice ua k uc], (0, 0), rfl, Nat.le_refl _, by unfold maxLen; omega, fun f => f, heap_alloc_new w4 _, Nat.le_refl _, fun i hi => by simp⟩)
              have HM5 := Lib.hid ((HM.out.trans (hm4.weaken fun _ _ f => f.elim)).alloc (.cells #[.slice ua k uc] 33))
              have HS5 := Lib.hid ((HS2.out.keep hm4 (fun _ _ _ f => f.elim)).keep hm5 (fun _ _ _ f => f.elim))
              have hb5 : base ≤ (w4.alloc (.cells #[.slice ua k uc] 33)).heap.size := by have := HM5.out.size; omega
              have h1c : ∀ y ∈ [Value.slice ua k uc], y.oneCell' = true := by
                intro y hy
                simp at hy
                subst hy
                rfl
              have H1C := Lib.hid h1c
              have hdl : done.length ≤ 8355840 := by omega
              clear hou hsu hsu2 e1 e2 e3 hm4 hm5 HS2 h1c
              go_wp2_with (at_builtin; refine app_sl _ rfl _ _ 26 rfl base 33 i0 (.slice none 0 0) 1 24 Try.underlying26 hi hz0 hz1 hz2 rfl (by decide) _ _ _ rfl HO5.out No 33 _ _ _ rfl HBX.out rfl H1C.out ?_ ?_ hb5 ?_)
              · unfold maxLen; omega
              · omega
              intro v' w6 hown6 hg6 _
              have HR6 := Lib.hid (OwnRecs.push HE1.out HO5.out HE3.out HU.out hg6 hown6)
              have HM6 := Lib.hid (HM5.out.trans (Mod.of_grown (S := fun q => base ≤ q) hg6 (fun q e _ => (HO5.out.lt _ e).1)))
              have HS6 := Lib.hid (HS5.out.keep (Mod.of_grown (S := fun q => Value.ownBlock _ = some q) hg6 (fun q e _ => e)) (fun q cur fz e _ h => by
                obtain ⟨cur', hc⟩ := own_heapM HO5.out e
                rw [hc] at h
                cases h))
              clear hown6 hg6 HO5 HE1 HE3 HU HBX HM5 HS5 H1C
              go_wp2_with fail
              exact ⟨⟨R.drop (4 + k), done ++ [(R.drop 4).take k], by rw [HPA.out, HPM.out, Option.map_map]; congr 1; funext x; simp [Function.comp], by have := HL2.out; simp only [List.length_append, List.length_cons, List.length_nil]; omega, HR6.out, HS6.out, HM6.out⟩, by show R.length - (4 + k) < R.length; omega⟩
            · have HS1 := Lib.hid (show Sl w3 No 5 (.slice (some ⟨g, o + 4, none⟩) k (c' - 4)) ((R.drop 4).take k).length (bv ((R.drop 4).take k)) by
                rw [HL1.out, bv_take, bv_drop]; exact HSL.out.part (by rw [bv_length]) 4 k _ (by omega) (by omega) (by omega))
              have HS2 := Lib.hid (show Sl w3 No 5 (.slice (some ⟨g, o + (4 + k), none⟩) (R.length - (4 + k)) (c' - (4 + k))) (R.drop (4 + k)).length (bv (R.drop (4 + k))) by
                have := HSL.out.part (by rw [bv_length]) (4 + k) (R.length - (4 + k)) (c' - (4 + k)) (by omega) (by omega) (by omega)
                rw [HL2.out, bv_drop]
                rwa [List.take_of_length_le (by rw [List.length_drop, bv_length]; omega)] at this)
              have HCL := Lib.hid (clone_bytes No _ (bv ((R.drop 4).take k)) w3 (by rw [bv_length]; exact HS1.out) (bv_one _) (by rw [bv_length, HL1.out]; omega))
              clear HS1
              go_wp2_with fail
              refine HCL.out.mono ?_
              clear HCL
              rintro e w4 ⟨u, rfl, hou, _, hm4⟩
              rw [bv_length, HL1.out] at hou
              obtain ⟨ua, uc, rfl⟩ := own_len hou
              have hsu := Sl.of_own (X := fun k => k < base) hou (fun q h1 h2 => by have := HM.out.size; omega)
              have hsu2 : Sl w4 (fun k => k < base) 5 (.slice ua k uc) ((R.drop 4).take k).length (bv ((R.drop 4).take k)) := by rw [HL1.out]; exact hsu
              obtain ⟨vs, e1, e2, e3⟩ := (HOW.out.stay hm4).row
              have hm5 : Mod No w4 (w4.alloc (.cells #[.slice ua k uc] 33)) := (Mod.refl No w4).alloc _
              have HU := Lib.hid (hsu2.keep hm5 (fun _ _ _ f => f.elim))
              have HO5 := Lib.hid (own_keepM e2 hm5 (fun _ _ f => f))
              have HE1 := Lib.hid e1
              have HE3 := Lib.hid (show ∀ (j : Nat) (u' : Value) (r : List UInt8), vs[j]? = some u' → done[j]? = some r → Sl (w4.alloc (.cells #[.slice ua k uc] 33)) (fun k => k < base) 5 u' r.length (bv r) from fun j u' r h1 h2 => (e3 j u' r h1 h2).keep hm5 (fun _ _ _ f => f.elim))
              have HBX := Lib.hid (show Sl (w4.alloc (.cells #[.slice ua k uc] 33)) No 33 (.slice (some ⟨w4.heap.size, 0, none⟩) 1 1) 1 [.slice ua k uc] from
                .inr ⟨w4.heap.size, 0, 1, #[.slice ua k uc], (0, 0), rfl, Nat.le_refl _, by unfold maxLen; omega, fun f => f, heap_alloc_new w4 _, Nat.le_refl _, fun i hi => by simp⟩)
              have HM5 := Lib.hid ((HM.out.trans (hm4.weaken fun _ _ f => f.elim)).alloc (.cells #[.slice ua k uc] 33))
              have HS5 := Lib.hid ((HS2.out.keep hm4 (fun _ _ _ f => f.elim)).keep hm5 (fun _ _ _ f => f.elim))
              have hb5 : base ≤ (w4.alloc (.cells #[.slice ua k uc] 33)).heap.size := by have := HM5.out.size; omega
              have h1c : ∀ y ∈ [Value.slice ua k uc], y.oneCell' = true := by
                intro y hy
                simp at hy
                subst hy
                rfl
              have H1C := Lib.hid h1c
              have hdl : done.length ≤ 8355840 := by omega
              clear hou hsu hsu2 e1 e2 e3 hm4 hm5 HS2 h1c
              go_wp2_with (at_builtin; refine app_sl _ rfl _ _ 26 rfl base 33 i0 (.slice none 0 0) 1 24 Try.underlying26 hi hz0 hz1 hz2 rfl (by decide) _ _ _ rfl HO5.out No 33 _ _ _ rfl HBX.out rfl H1C.out ?_ ?_ hb5 ?_)
              · unfold maxLen; omega
              · omega
              intro v' w6 hown6 hg6 _
              have HR6 := Lib.hid (OwnRecs.push HE1.out HO5.out HE3.out HU.out hg6 hown6)
              have HM6 := Lib.hid (HM5.out.trans (Mod.of_grown (S := fun q => base ≤ q) hg6 (fun q e _ => (HO5.out.lt _ e).1)))
              have HS6 := Lib.hid (HS5.out.keep (Mod.of_grown (S := fun q => Value.ownBlock _ = some q) hg6 (fun q e _ => e)) (fun q cur fz e _ h => by
                obtain ⟨cur', hc⟩ := own_heapM HO5.out e
                rw [hc] at h
                cases h))
              clear hown6 hg6 HO5 HE1 HE3 HU HBX HM5 HS5 H1C
              go_wp2_with fail
              exact ⟨⟨R.drop (4 + k), done ++ [(R.drop 4).take k], by rw [HPA.out, HPM.out, Option.map_map]; congr 1; funext x; simp [Function.comp], by have := HL2.out; simp only [List.length_append, List.length_cons, List.length_nil]; omega, HR6.out, HS6.out, HM6.out⟩, by show R.length - (4 + k) < R.length; omega⟩
        · have hkl' : decide ((k : Int) ≤ (R.length : Int) - 4) = false := decide_eq_false (by omega)
          go_wp2_with fail
          refine (must_yes 0 wr).mono ?_
          rintro e w2 ⟨rfl, h2⟩
          subst h2
          go_wp2_with fail
          refine HG.out.mono ?_
          rintro e w2 ⟨rfl, h2⟩
          subst h2
          go_wp2_with fail
          refine (must_no w2).mono ?_
          rintro e w3 ⟨rfl, h2⟩
          subst h2
          go_wp2_with fail
          exact ⟨rfl, rfl, by rw [HPA.out, parse_long (by omega) (by rw [hk]; exact hkl)]; rfl, HM.out⟩
    · have hR : R = [] := List.eq_nil_of_length_eq_zero (by omega)
      subst hR
      obtain ⟨a', cc, rfl⟩ := hsl.len
      clear hsl
      go_wp2_with fail
      exact Met.intro (HJ.out _ _ ⟨⟨done, _, by rw [HPA.out]; simp [parse], HOW.out, rfl, rfl, rfl, rfl, rfl, trivial⟩, HM.out⟩)

end Go.Proofs.Ytnchclleiccofaa
