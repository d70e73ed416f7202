/-
  Layer 4, the log: records that are handed in; how many bytes they take. No statement is proved here; no condition.
-/
import Derived.Test.YtnchclleiccofaaWalK
namespace Go.Proofs.Ytnchclleiccofaa
open Go.RowKit

/-- Records that are read, outside X. -/
structure Recs (w : World) (X : Nat → Prop) (v : Value) (rs : List (List UInt8)) : Prop where
  row : ∃ vs : List Value, vs.length = rs.length ∧ Sl w X 33 v rs.length vs ∧ ∀ (j : Nat) (u : Value) (r : List UInt8), vs[j]? = some u → rs[j]? = some r → Sl w X 5 u r.length (bv r)

theorem Recs.stay {w w' : World} {X : Nat → Prop} {v : Value} {rs : List (List UInt8)} (h : Recs w X v rs) (hm : Mod No w w') : Recs w' X v rs := by
  obtain ⟨vs, h1, h2, h3⟩ := h.row
  exact ⟨vs, h1, h2.keep hm (fun _ _ _ f => f.elim), fun j u r hu hr => (h3 j u r hu hr).keep hm (fun _ _ _ f => f.elim)⟩

theorem Recs.keep {S X : Nat → Prop} {w w' : World} {v : Value} {rs : List (List UInt8)} (h : Recs w X v rs) (hm : Mod S w w') (hs : ∀ k, S k → X k) : Recs w' X v rs := by
  obtain ⟨vs, h1, h2, h3⟩ := h.row
  exact ⟨vs, h1, h2.keep hm (fun k _ _ s nx => absurd (hs k s) nx), fun j u r hu hr => (h3 j u r hu hr).keep hm (fun k _ _ s nx => absurd (hs k s) nx)⟩

theorem OwnRecs.recs {w : World} {X : Nat → Prop} {base : Nat} {v : Value} {rs : List (List UInt8)} (h : OwnRecs w base v rs) (hx : ∀ k, base ≤ k → ¬ X k) : Recs w X v rs := by
  obtain ⟨vs, h1, h2, h3⟩ := h.row
  exact ⟨vs, h1, Sl.of_own h2 hx, fun j u r hu hr => (h3 j u r hu hr).shrink fun k _ e => Nat.lt_of_not_le fun hle => hx k hle e⟩

/-- A record. -/
theorem Recs.at_ {w : World} {X : Nat → Prop} {v : Value} {rs : List (List UInt8)} (h : Recs w X v rs) {k : Nat} (hk : k < rs.length) : ∃ b o c u, v = .slice (some ⟨b, o, none⟩) rs.length c ∧ w.cell? ⟨b, o + k, none⟩ = some u ∧ Sl w X 5 u rs[k].length (bv rs[k]) := by
  obtain ⟨vs, h1, h2, h3⟩ := h.row
  obtain ⟨b, o, c, rfl, _⟩ := h2.shape (by omega)
  have hu : vs[k]? = some (vs[k]'(by omega)) := List.getElem?_eq_getElem (by omega)
  have hc := h2.cell (i := k) (by omega)
  dsimp only at hc
  exact ⟨b, o, c, _, rfl, hc.trans hu, h3 k _ _ hu (List.getElem?_eq_getElem hk)⟩

theorem Recs.len {w : World} {X : Nat → Prop} {v : Value} {rs : List (List UInt8)} (h : Recs w X v rs) : ∃ a c, v = .slice a rs.length c := by
  obtain ⟨vs, _, h2, _⟩ := h.row
  exact h2.len

def isLong (r : List UInt8) : Bool := decide ((1048576 : Int) < (r.length : Int))

set_option maxRecDepth 100000 in
set_option maxHeartbeats 1000000 in
theorem index_any {X : Nat → Prop} {v : Value} {rs : List (List UInt8)} {w : World} (h : Recs w X v rs) (hl : rs.length ≤ 1000000000) :
    Calls Try.prog 71 #[v, .func (.func 63) #[] #[]] w fun e w' => (∃ i : Int, e = .returned (.int .i64 i) ∧ decide (0 ≤ i) = rs.any isLong) ∧ w' = w := by
  refine calls_hide fun R hR => ?_
  obtain ⟨a, c, rfl⟩ := h.len
  have H := Lib.hid h
  clear h
  go_enter Try.func71, Try.ntmps71
  go_wp2_with fail
  go_loopw [8] (fun i wr => wr = w ∧ ∃ k : Nat, k ≤ rs.length ∧ i = .int .i64 k ∧ (rs.take k).any isLong = false) (fun i _ => rs.length - (intOf i).toNat)
  case atStart => exact ⟨rfl, 0, by omega, rfl, rfl⟩
  case round =>
    obtain ⟨rfl, k, hk, rfl, hno⟩ := hrel
    have HNO := Lib.hid hno
    clear hno
    have hk0 : (0 : Int) ≤ (k : Int) := Int.natCast_nonneg _
    by_cases hlt : k < rs.length
    · have hk1 : (k : Int) < (rs.length : Int) := by omega
      obtain ⟨b, o, c', u, hv, hu, hsl⟩ := H.out.at_ hlt
      cases hv
      obtain ⟨ua, uc, rfl⟩ := hsl.len
      have HLO := Lib.hid (long_any (a := ua) (n := rs[k].length) (c := uc) (w := wr))
      have HT := Lib.hid (show (rs.take (k + 1)).any isLong = isLong rs[k] by rw [List.take_succ_eq_append_getElem hlt, List.any_append, HNO.out]; simp)
      have HMEM := Lib.hid (show isLong rs[k] = true → rs.any isLong = true from fun e => List.any_eq_true.2 ⟨rs[k], List.getElem_mem hlt, e⟩)
      have HIS := Lib.hid (show isLong rs[k] = decide ((1048576 : Int) < (rs[k].length : Int)) from rfl)
      clear hsl
      generalize rs[k].length = n at *
      generalize isLong rs[k] = il at *
      go_wp2_with fail
      refine HLO.out.mono ?_
      rintro e w2 ⟨rfl, h2⟩
      subst h2
      rw [← HIS.out]
      cases il with
      | true =>
        go_wp2_with fail
        exact fin hR ⟨⟨_, rfl, by rw [HMEM.out (by trivial)]; exact decide_eq_true hk0⟩, rfl⟩
      | false =>
        go_wp2_with fail
        exact ⟨⟨trivial, k + 1, by omega, by go_num, HT.out⟩, by go_light; simp only [intOf]; omega⟩
    · have hkn : k = rs.length := by omega
      subst hkn
      go_wp2_with fail
      have hno := HNO.out
      rw [List.take_length] at hno
      exact fin hR ⟨⟨_, rfl, by rw [hno]; rfl⟩, rfl⟩

theorem contains_any {X : Nat → Prop} {v : Value} {rs : List (List UInt8)} {w : World} (h : Recs w X v rs) (hl : rs.length ≤ 1000000000) :
    Calls Try.prog 62 #[v, .func (.func 63) #[] #[]] w fun e w' => e = .returned (.bool (rs.any isLong)) ∧ w' = w := by
  refine calls_hide fun R hR => ?_
  have HI := Lib.hid (index_any h hl)
  obtain ⟨a, c, rfl⟩ := h.len
  clear h
  go_enter Try.func62, Try.ntmps62
  go_wp2_with fail
  refine HI.out.mono ?_
  rintro e w2 ⟨⟨i, rfl, hi⟩, h2⟩
  subst h2
  have HX := Lib.hid hi
  clear hi
  go_wp2_with fail
  exact fin hR ⟨by rw [← HX.out]; rfl, rfl⟩

theorem bodyB_take (rs : List (List UInt8)) (k : Nat) (hk : k < rs.length) : (bodyB (rs.take (k + 1))).length = (bodyB (rs.take k)).length + 4 + rs[k].length := by
  have e : bodyB (rs.take (k + 1)) = bodyB (rs.take k) ++ (be 4 rs[k].length ++ rs[k]) := by
    rw [List.take_succ_eq_append_getElem hk]
    unfold bodyB
    rw [List.flatMap_append]
    simp [recB]
  rw [e, List.length_append, List.length_append, be_len]
  omega

set_option maxRecDepth 100000 in
set_option maxHeartbeats 1000000 in
theorem bytes_any {X Y : Nat → Prop} {b sb mb p : Nat} {d : Dk} {v : Value} {rs : List (List UInt8)} {w : World} (h : Recs w X v rs) (hl : ∀ r ∈ rs, r.length ≤ 140737488355328) (hl2 : rs.length ≤ 1000000000) (hd : DkAt w Y b sb mb d) (c0 : w.cell? ⟨p, 0, none⟩ = some (.pointer (some ⟨b, 0, none⟩))) :
    Calls Try.prog 64 #[.pointer (some ⟨p, 0, none⟩), v] w fun e w' => e = .returned (.int .i64 ((min (32 + (bodyB rs).length) (d.n * d.sz + 1) : Nat) : Int)) ∧ Mod No w w' := by
  refine calls_hide fun R hR => ?_
  obtain ⟨a, c, rfl⟩ := h.len
  have HS := Lib.hid (show ∀ nq, Calls Try.prog 14 #[.pointer (some ⟨b, 0, none⟩)] (w.drewN nq) fun e w' => e = .returned (.int .i64 (d.n : Int)) ∧ w' = w.drewN nq from fun nq =>
    (sectors_ok (hd.stay ((Mod.refl No w).drewN nq))).mono fun e w' ⟨h1, h2⟩ => ⟨h1, h2.symm⟩)
  have HZ := Lib.hid (show ∀ nq, Calls Try.prog 15 #[.pointer (some ⟨b, 0, none⟩)] (w.drewN nq) fun e w' => e = .returned (.int .i64 (d.sz : Int)) ∧ w' = w.drewN nq from fun nq =>
    (size_ok (hd.stay ((Mod.refl No w).drewN nq))).mono fun e w' ⟨h1, h2⟩ => ⟨h1, h2.symm⟩)
  have hn2 : d.n ≤ 4096 := hd.n2
  have hz2 : d.sz ≤ 4096 := hd.s2
  have hn1 : 1 ≤ d.n := hd.n1
  have hz1 : 64 ≤ d.sz := hd.s1
  have hA : d.n * d.sz ≤ 4096 * 4096 := Nat.mul_le_mul hn2 hz2
  have hA1 : 64 ≤ d.n * d.sz := Nat.le_trans hz1 (Nat.le_mul_of_pos_left d.sz hn1)
  obtain ⟨A, hAA⟩ : ∃ A, A = d.n * d.sz := ⟨_, rfl⟩
  have hc : (d.n : Int) * (d.sz : Int) = (A : Int) := by rw [hAA, Int.natCast_mul]
  rw [← hAA] at hA hA1 hR
  have b1 : (-9223372036854775808 : Int) ≤ (d.n : Int) * (d.sz : Int) := by rw [hc]; omega
  have b2 : (d.n : Int) * (d.sz : Int) ≤ 9223372036854775807 := by rw [hc]; omega
  have HC := Lib.hid hc
  have H := Lib.hid h
  have HL := Lib.hid hl
  clear h hl hd hn2 hz2 hn1 hz1 hAA hc
  go_enter Try.func64, Try.ntmps64
  go_upto_region 1 with fail
  go_quiet (first | (go_at_call 14; with_reducible refine Calls.quiet_of_same (HS.out _)) | (go_at_call 15; with_reducible refine Calls.quiet_of_same (HZ.out _)))
  generalize hw2 : World.drewN w _ = w2
  have M2 := Lib.hid (show Mod No w w2 by rw [← hw2]; exact (Mod.refl No w).drewN _)
  have H2 := Lib.hid (H.out.stay M2.out)
  clear hw2 H HS HZ c0
  rw [HC.out]
  go_wp2_with fail
  go_loopw [6, 26] (fun x i wr => wr = w2 ∧ ∃ k : Nat, k ≤ rs.length ∧ i = .int .i64 k ∧ x = .int .i64 ((min (32 + (bodyB (rs.take k)).length) (A + 1) : Nat) : Int)) (fun _ i _ => rs.length - (intOf i).toNat)
  case atStart => exact ⟨rfl, 0, by omega, rfl, by
    have : min (32 + (bodyB (rs.take 0)).length) (A + 1) = 32 := by
      have : (bodyB (rs.take 0)).length = 0 := by simp [bodyB]
      omega
    rw [this]; rfl⟩
  case round =>
    obtain ⟨rfl, k, hk, rfl, rfl⟩ := hrel
    have hk0 : (0 : Int) ≤ (k : Int) := Int.natCast_nonneg _
    by_cases hlt : k < rs.length
    · have hk1 : (k : Int) < (rs.length : Int) := by omega
      obtain ⟨g, o, c', u, hv, hu, hsl⟩ := H2.out.at_ hlt
      cases hv
      obtain ⟨ua, uc, rfl⟩ := hsl.len
      have hrl := HL.out rs[k] (List.getElem_mem hlt)
      have hbt := bodyB_take rs k hlt
      clear hsl
      obtain ⟨B, hB⟩ : ∃ B, B = (bodyB (rs.take k)).length := ⟨_, rfl⟩
      rw [← hB] at hbt
      have HBT := Lib.hid hbt
      have HB := Lib.hid hB
      rw [← hB]
      generalize hQ : min (32 + B) (A + 1) = Q
      have HQ := Lib.hid hQ
      have hQ2 : Q ≤ 16777217 := by omega
      clear hbt hB hQ
      generalize hn : rs[k].length = n at *
      clear hn
      go_wp2_with fail
      exact ⟨⟨trivial, k + 1, by omega, by go_num, by
        have h1 := HBT.out
        have h2 := HQ.out
        rw [h1]
        have : min (32 + (B + 4 + n)) (A + 1) = min (Q + 4 + n) (A + 1) := by omega
        rw [this]; go_num⟩, by go_light; simp only [intOf]; omega⟩
    · have hkn : k = rs.length := by omega
      subst hkn
      go_wp2_with fail
      exact fin hR ⟨by rw [List.take_length]; rfl, M2.out⟩

end Go.Proofs.Ytnchclleiccofaa
