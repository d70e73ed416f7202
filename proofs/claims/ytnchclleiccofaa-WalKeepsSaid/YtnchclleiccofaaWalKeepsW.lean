/-
  WalKeeps: the walk. No statement is proved here; no condition.
-/
import Derived.Test.YtnchclleiccofaaActsW
import Derived.Test.YtnchclleiccofaaWalTwo
namespace Go.Proofs.Ytnchclleiccofaa
open Go.RowKit

/-- The loop's state. -/
def KpInv (w wr : World) (N b p i : Nat) (v : Value) : Prop :=
  ∃ O L, St w wr N b p O L ∧ Recs wr O v L.all ∧ L.turn ≤ i ∧ L.all.length ≤ 6 * i

theorem St.at_le {w0 w : World} {N b p : Nat} {O : Nat → Prop} {L : Lg} (h : St w0 w N b p O L) : L.at_ ≤ N / 2 := by
  obtain ⟨sb, mb, ub, d, h1, rfl, h3, h4⟩ := h.has
  exact h1.bounds.2.1

theorem batch_sizes (i : Nat) (bs : List UInt8) (h : bs.length ≤ 6) : sizeN (batchB i bs) = (bodyB (batchB i bs)).length + 12 * bs.length ∧ (bodyB (batchB i bs)).length ≤ 1554 ∧ ((batchB i bs).length ≤ 1000) ∧ ∀ r ∈ batchB i bs, r.length ≤ 100000 := by
  have h1 := sizeN_body (batchB i bs)
  rw [batchB_len] at h1
  have h2 := batchB_body i bs
  exact ⟨h1, by omega, by rw [batchB_len]; omega, fun r hr => by have := batchB_mem hr; omega⟩

/-- What a batch is answered with: nothing, or that there is no room. -/
theorem wrE_two {H at_ i : Nat} {bs : List UInt8} : (wrE H 240 at_ (batchB i bs) = 0 ∧ 32 + (bodyB (batchB i bs)).length ≤ (H - at_) * 240) ∨ (wrE H 240 at_ (batchB i bs) = 40 ∧ (H - at_) * 240 < 32 + (bodyB (batchB i bs)).length) := by
  unfold wrE
  rw [if_neg (by rw [batchB_short]; decide)]
  by_cases h : (H - at_) * 240 < 32 + (bodyB (batchB i bs)).length
  · rw [if_pos h]; exact .inr ⟨rfl, h⟩
  · rw [if_neg h]; exact .inl ⟨rfl, by omega⟩

theorem secs_dn (n : Nat) : secs 240 n * 240 ≤ n + 239 := by
  unfold secs; omega

/-- A row of records, as append wants it. -/
theorem Recs.rows {w : World} {X : Nat → Prop} {v : Value} {rs : List (List UInt8)} (h : Recs w X v rs) : ∃ vs : List Value, vs.length = rs.length ∧ Sl w X 33 v rs.length vs ∧ (∀ u ∈ vs, u.oneCell' = true) ∧ ∀ (j : Nat) (u : Value) (r : List UInt8), vs[j]? = some u → rs[j]? = some r → Sl w X 5 u r.length (bv r) := by
  obtain ⟨vs, h1, h2, h3⟩ := h.row
  refine ⟨vs, h1, h2, fun u hu => ?_, h3⟩
  obtain ⟨j, hj, rfl⟩ := List.getElem_of_mem hu
  obtain ⟨a, c, e⟩ := (h3 j _ _ (List.getElem?_eq_getElem hj) (List.getElem?_eq_getElem (by omega))).len
  rw [e]; rfl

theorem room_two (H at_ : Nat) : ∃ X : Int, roomI H 240 at_ = X ∧ 0 ≤ X ∧ (((H - at_) * 240 : Nat) : Int) - 36 ≤ X ∧ (X = 0 ∨ X = (((H - at_) * 240 : Nat) : Int) - 36) := by
  refine ⟨_, rfl, ?_⟩
  unfold roomI
  omega

set_option maxRecDepth 100000 in
set_option maxHeartbeats 4000000 in
theorem keeps_walk (a0 : Int) (h0 : (Lit.int .u8 a0).wf = true) (aa : Option Addr) (la ca : Nat) (l : List ActW) {w : World} (hacts : ActsInW w aa la l) :
    Calls Try.prog 11 #[.int .u8 a0, .slice aa la ca] w fun e w' => e = .returned (.bool true) ∧ Mod No w w' := by
  refine calls_hide fun R hR => ?_
  obtain ⟨x, rfl⟩ := byte_of a0 h0
  have hx := UInt8.toNat_lt x
  generalize x.toNat = n0 at *
  have HA := Lib.hid hacts
  clear hacts h0
  obtain ⟨N, hN⟩ : ∃ N : Nat, N = 60 + n0 := ⟨_, rfl⟩
  go_enter Try.func11, Try.ntmps11
  go_wp2_with fail
  with_reducible refine (known4_any w).mono ?_
  rintro e w1 ⟨rfl, hm1⟩
  have HM1 := Lib.hid hm1
  have hacts1 : ActsInW w1 aa la l := ⟨HA.out.len, fun i hi => by
    obtain ⟨b, o, q1, q2, q3, q4, q5⟩ := HA.out.at_ i hi
    exact ⟨b, o, q1, hm1.cell q2 (fun f => f), hm1.cell q3 (fun f => f), q4.keep hm1 (fun _ _ _ f => f), q5⟩⟩
  have HLI := Lib.hid (light_any (ca := ca) hacts1)
  clear hm1 hacts1
  go_wp2_with fail
  with_reducible refine HLI.out.mono ?_
  rintro e w2 ⟨⟨o, rfl, hlt⟩, h2⟩
  subst h2
  clear HLI
  cases o with
  | false =>
    clear hlt
    go_wp2_with fail
    exact fin hR ⟨rfl, HM1.out⟩
  | true =>
    obtain ⟨hla, hl6⟩ := hlt rfl
    have HL6 := Lib.hid hl6
    have hNI : (60 : Int) + (n0 : Int) = (N : Int) := by omega
    have HNI := Lib.hid hNI
    have hN2 : N ≤ 400 := by omega
    have hN1 : 60 ≤ N := by omega
    clear hlt hl6 hN
    go_upto_region 6 with fail
    clear hNI
    go_wp2_with fail
    with_reducible refine (disk_new No (N : Int) 256 w2 (no_lt w2)).mono ?_
    rintro e w3 ⟨b, sb, mb, rfl, hb1, hb2, hb3, hd3, hm3⟩
    have HD3 := Lib.hid (show DkAt w3 No b sb mb (Dk.new (N : Int) 256) ∧ (w.heap.size ≤ b ∧ w.heap.size ≤ sb ∧ w.heap.size ≤ mb) ∧ Mod No w w3 ∧ (Dk.new (N : Int) 256).n = N from ⟨hd3, by have := HM1.out.size; omega, HM1.out.trans hm3, by show (min (max (N : Int) 1) 4096).toNat = N; omega⟩)
    clear hb1 hb2 hb3 hd3 hm3
    have hN16 : 16 ≤ N := by omega
    go_wp2_with fail
    with_reducible refine (St.first HD3.out.2.2.2 hN16 HD3.out.1 HD3.out.2.1 HD3.out.2.2.1).mono ?_
    rintro e w4 ⟨p, v0, O, rfl, hst, hr0, hm4⟩
    obtain ⟨va, vc, rfl⟩ := hr0.len
    have HST := Lib.hid hst
    clear hst hr0 hm4 HD3 HM1 hN16
    go_wp2_with fail
    with_reducible refine HST.out.room.mono ?_
    rintro e w5 ⟨rfl, h2⟩
    subst h2
    obtain ⟨X, hX, hX0, hX1, -⟩ := room_two (N / 2) 0
    have hX2 : (N : Int) * 256 / 4 - 1024 ≤ X := by omega
    rw [hX]
    clear hX hX1
    have HI0 := Lib.hid (show KpInv w w5 N b p 0 (.slice none 0 0) from ⟨O, _, HST.out, recs_nil _ _, Nat.le_refl _, Nat.le_refl _⟩)
    clear HST
    have hNa : (N : Int) ≤ 400 := by omega
    have hNb : (60 : Int) ≤ (N : Int) := by omega
    go_wp2_with fail
    go_loopw [7, 10, 11] (fun j u q wr => ∃ i p : Nat, i ≤ la ∧ q = .int .i64 i ∧ j = .pointer (some ⟨p, 0, none⟩) ∧ KpInv w wr N b p i u) (fun _ _ q _ => 41 - (intOf q).toNat)
    case atStart => exact ⟨0, p, by omega, rfl, rfl, HI0.out⟩
    case round =>
      clear HI0 hX0 hX2
      obtain ⟨i, p, hi, rfl, rfl, O, L, hst, hrv, ht, hll⟩ := hrel
      have hi0 : (0 : Int) ≤ (i : Int) := Int.natCast_nonneg _
      obtain ⟨va, vc, rfl⟩ := hrv.len
      have HST := Lib.hid hst
      have HRV := Lib.hid hrv
      clear hst hrv
      by_cases hlt : i < la
      · have hi1 : (i : Int) < (la : Int) := by omega
        obtain ⟨ab, ao, rfl, c0, c1, hin, hbl⟩ := HA.out.at_ i (by rw [HA.out.len]; exact hlt)
        have hn6 := HL6.out i (by rw [HA.out.len]; exact hlt)
        generalize l[i]'(by rw [HA.out.len]; exact hlt) = act at *
        obtain ⟨what, xa, xn, xc, bs⟩ := act
        dsimp only at c0 c1 hin hbl hn6
        have c0 := HST.out.mod.cell c0 (fun f => f)
        have c1 := HST.out.mod.cell c1 (fun f => f)
        have HIN := Lib.hid (hin.keep (S := No) HST.out.mod (fun _ _ _ f => f))
        have HBL := Lib.hid hbl
        clear hin hbl
        go_wp2_with fail
        with_reducible refine (HST.out.batch i i rfl (by omega) xa xn xc bs HBL.out (by omega) HIN.out).mono ?_
        rintro e w6 ⟨v6, rfl, hr6, hst6, hm6⟩
        have c0 := hm6.cell c0 (fun f => f)
        have HRV6 := Lib.hid (HRV.out.keep hm6 (fun _ f => f.elim))
        have HR6 := Lib.hid hr6
        have HST6 := Lib.hid hst6
        obtain ⟨a6, k6, rfl⟩ := hr6.len
        have HSZ := Lib.hid (batch_sizes i bs (by rw [HBL.out]; exact hn6))
        have HBN := Lib.hid (batchB_len i bs)
        clear hr6 hst6 hm6 HST HRV HIN c1
        go_wp2_with fail
        with_reducible refine HST6.out.room.mono ?_
        rintro e w7 ⟨rfl, h2⟩
        subst h2
        obtain ⟨X, hX, hX0, hX1, hX2⟩ := room_two (N / 2) L.at_
        rw [hX]
        have HX := Lib.hid (And.intro hX1 hX2)
        clear hX hX1 hX2
        by_cases h5 : what = 5
        · subst h5
          clear hX0
          go_wp2_with fail
          with_reducible refine HST6.out.reopen.mono ?_
          rintro e w8 ⟨p8, v8, O8, rfl, hst8, -, hr8, hO8, hm8⟩
          have HSM := Lib.hid (same_ok hr8 (HRV6.out.keep hm8 (fun _ f => f.elim)) (by omega))
          have HRV8 := Lib.hid ((HRV6.out.weak (Y := O8) hO8).keep hm8 (fun _ f => f.elim))
          have HST8 := Lib.hid hst8
          obtain ⟨a8, k8, rfl⟩ := hr8.len
          clear hst8 hr8 hO8 hm8 HRV6 HR6 HST6
          go_wp2_with fail
          with_reducible refine HSM.out.mono ?_
          rintro e w9 ⟨rfl, hm9⟩
          have HRV9 := Lib.hid (HRV8.out.keep hm9 (fun _ f => f.elim))
          have HST9 := Lib.hid (HST8.out.stay hm9)
          clear hm9 HRV8 HST8 HSM
          go_wp2_with fail
          exact ⟨⟨i + 1, p8, by omega, by go_num, rfl, O8, L, HST9.out, HRV9.out, by omega, by omega⟩, by go_light; simp only [intOf]; omega⟩
        · by_cases h4 : what = 4
          · subst h4
            clear hX0
            obtain ⟨B, hB⟩ : ∃ B, B = batchB i bs := ⟨_, rfl⟩
            have hw2 := wrE_two (H := N / 2) (at_ := 0) (i := i) (bs := bs)
            rw [← hB] at HSZ HR6 HBN hw2
            rw [← hB]
            clear hB
            have hl6 : bs.length ≤ 6 := by rw [HBL.out]; exact hn6
            have hBn : B.length ≤ 6 := by rw [HBN.out]; exact hl6
            go_wp2_with fail
            with_reducible refine (HST6.out.reset HR6.out.no (by omega) (by omega)).mono ?_
            rintro e w8 ⟨rfl, hst8, hm8⟩
            have HB8 := Lib.hid (HR6.out.keep hm8 (fun _ e => e))
            have HRV8 := Lib.hid (HRV6.out.keep hm8 (fun _ e => e))
            rcases hw2 with ⟨he, -⟩ | ⟨he, hfull⟩
            · have hsr : stepR N L B = ⟨L.turn + 1, 1, secs 240 (32 + (bodyB B).length), B⟩ := by unfold stepR; rw [if_pos he]
              rw [hsr] at hst8
              rw [he]
              have HST8 := Lib.hid hst8
              clear hst8 hm8 he hsr HR6 HRV6 HST6 HRV8
              go_wp2_with fail
              with_reducible refine HST8.out.count.mono ?_
              rintro e w9 ⟨rfl, h2⟩
              subst h2
              dsimp only
              go_wp2_with fail
              exact ⟨⟨i + 1, p, by omega, by go_num, rfl, O, _, HST8.out, HB8.out, by show L.turn + 1 ≤ i + 1; omega, by show B.length ≤ _; omega⟩, by go_light; simp only [intOf]; omega⟩
            · have hsr : stepR N L B = L := by unfold stepR; rw [if_neg (by rw [he]; decide)]
              rw [hsr] at hst8
              rw [he]
              have HST8 := Lib.hid hst8
              have hq1 := HSZ.out.1
              have hq : (N : Int) * 256 / 4 - 1536 < ((sizeN B : Nat) : Int) := by omega
              have hq2 : sizeN B ≤ 5000 := by have := HSZ.out; omega
              have HSUM := Lib.hid (lsum_any HB8.out HSZ.out.2.2.1 HSZ.out.2.2.2)
              generalize sizeN B = sz at *
              clear hst8 hm8 he hsr HR6 HRV6 HST6 hq1 hfull
              go_wp2_with fail
              with_reducible refine HSUM.out.mono ?_
              rintro e w9 ⟨rfl, h2⟩
              subst h2
              go_wp2_with fail
              with_reducible refine HST8.out.count.mono ?_
              rintro e w10 ⟨rfl, h2⟩
              subst h2
              go_wp2_with fail
              exact ⟨⟨i + 1, p, by omega, by go_num, rfl, O, _, HST8.out, HRV8.out, by omega, by omega⟩, by go_light; simp only [intOf]; omega⟩
          · have h5b : (what == 5) = false := by simpa using h5
            have h4b : (what == 4) = false := by simpa using h4
            clear h5 h4
            obtain ⟨B, hB⟩ : ∃ B, B = batchB i bs := ⟨_, rfl⟩
            have hw2 := wrE_two (H := N / 2) (at_ := L.at_) (i := i) (bs := bs)
            rw [← hB] at HSZ HR6 HBN hw2
            rw [← hB]
            clear hB
            have hl6 : bs.length ≤ 6 := by rw [HBL.out]; exact hn6
            have hBn : B.length ≤ 6 := by rw [HBN.out]; exact hl6
            go_wp2_with fail
            with_reducible refine (HST6.out.commit HR6.out.no (by omega)).mono ?_
            rintro e w8 ⟨rfl, hst8, hm8⟩
            have HB8 := Lib.hid (HR6.out.keep hm8 (fun _ e => e))
            have HRV8 := Lib.hid (HRV6.out.keep hm8 (fun _ e => e))
            have HSUM := Lib.hid (show ∀ W, Mod No w8 W → Calls Try.prog 36 #[.slice a6 B.length k6] W fun e w' => e = .returned (.int .i64 (sizeN B : Nat)) ∧ w' = W from fun W hW => lsum_any (HB8.out.keep hW (fun _ f => f.elim)) HSZ.out.2.2.1 HSZ.out.2.2.2)
            rcases hw2 with ⟨he, hfit⟩ | ⟨he, hfull⟩
            · have hsr : stepC N L B = ⟨L.turn, L.next + 1, L.at_ + secs 240 (32 + (bodyB B).length), L.all ++ B⟩ := by unfold stepC; rw [if_pos he]
              rw [hsr] at hst8
              rw [he]
              have HST8 := Lib.hid hst8
              obtain ⟨vs, e1, e2, e3, e4⟩ := HRV8.out.rows
              obtain ⟨us, k1, k2, k3, k4⟩ := HB8.out.rows
              have HV := Lib.hid (And.intro e1 (And.intro e2 (And.intro e3 e4)))
              have HU := Lib.hid (And.intro k1 (And.intro k2 (And.intro k3 k4)))
              clear hst8 hm8 he hsr HR6 HRV6 HST6 e1 e2 e3 e4 k1 k2 k3 k4
              obtain ⟨i0, hi0', hz0, hz1, hz2⟩ := info_parts info_bs
              go_wp2_with (at_builtin; refine app_sl _ rfl _ _ 26 rfl w8.heap.size 33 i0 (.slice none 0 0) 1 24 Try.underlying26 hi0' hz0 hz1 hz2 rfl (by decide) (.slice none 0 0) 0 [] rfl (World.ownsRow_nil _ _ _ _) O 33 _ _ _ rfl HV.out.2.1 ?_ HV.out.2.2.1 ?_ ?_ ?_ ?_)
              · rw [HV.out.1]; omega
              · unfold maxLen; omega
              · omega
              · exact Nat.le_refl _
              intro v9 w9 hown9 hg9 _
              have hm9 : Mod No w8 w9 := Mod.of_grown hg9 (by rintro k h; cases h)
              have HO9 := Lib.hid (show w9.ownsRow w8.heap.size 33 1 v9 L.all.length vs by
                simpa using hown9)
              obtain ⟨a9, k9, rfl⟩ := own_len HO9.out
              have HM9 := Lib.hid hm9
              have HU9 := Lib.hid (HU.out.2.1.keep hm9 (fun _ _ _ f => f.elim))
              have hb9 : w8.heap.size ≤ w9.heap.size := hm9.size
              clear hown9 hg9 hm9
              go_wp2_with (at_builtin; refine app_sl _ rfl _ _ 26 rfl w8.heap.size 33 i0 (.slice none 0 0) 1 24 Try.underlying26 hi0' hz0 hz1 hz2 rfl (by decide) _ _ _ rfl HO9.out O 33 _ _ _ rfl HU9.out ?_ HU.out.2.2.1 ?_ ?_ hb9 ?_)
              · rw [HU.out.1]; omega
              · unfold maxLen; omega
              · omega
              intro v10 w10 hown10 hg10 _
              have HJ := Lib.hid (Recs.joined (O := O) (al := L.all) (rs := B) HV.out.1 HU.out.1 (fun j u r h1 h2 => (HV.out.2.2.2 j u r h1 h2).keep HM9.out (fun _ _ _ f => f.elim)) (fun j u r h1 h2 => (HU.out.2.2.2 j u r h1 h2).keep HM9.out (fun _ _ _ f => f.elim)) HO9.out hg10 hown10 (fun q hq => HST8.out.high q hq))
              have HM10 := Lib.hid (HM9.out.then (Mod.of_grown (S := fun q => w8.heap.size ≤ q) hg10 (fun q e _ => (HO9.out.lt _ e).1)) (fun q hq e => by omega))
              have HST10 := Lib.hid (HST8.out.stay HM10.out)
              obtain ⟨M, hM⟩ : ∃ M, M = (L.all ++ B).length := ⟨_, rfl⟩
              obtain ⟨a10, k10, hv10⟩ := HJ.out.len
              rw [← hM] at hv10
              subst hv10
              have HMM := Lib.hid hM
              have hM6 : M ≤ 6 * (i + 1) := by rw [hM, List.length_append]; omega
              clear hown10 hg10 HO9 HM9 HU9 HV HU hb9 HST8 HRV8 hM
              go_wp2_with fail
              with_reducible refine HST10.out.room.mono ?_
              rintro e w11 ⟨rfl, h2⟩
              subst h2
              obtain ⟨Y, hY, hY0, hY1, -⟩ := room_two (N / 2) (L.at_ + secs 240 (32 + (bodyB B).length))
              dsimp only
              rw [hY]
              have hsd := secs_dn (32 + (bodyB B).length)
              have hq1 := HSZ.out.1
              have hq2 : sizeN B ≤ 5000 := by have := HSZ.out; omega
              have hYX : X - ((sizeN B : Nat) : Int) - 512 ≤ Y := by have := HX.out; omega
              have hX9 : X ≤ 100000 := by have := HX.out; omega
              have hY9 : Y ≤ 100000 := by
                have : Y ≤ 100000 := by
                  rw [← hY]; unfold roomI; omega
                exact this
              clear hY hY1 hsd hq1 hfit
              generalize hsz : sizeN B = sz at *
              have HSZ2 := Lib.hid hsz
              clear hsz
              go_wp2_with fail
              with_reducible refine (HSUM.out _ HM10.out).mono ?_
              rintro e w12 ⟨rfl, h2⟩
              subst h2
              go_wp2_with fail
              with_reducible refine HST10.out.count.mono ?_
              rintro e w13 ⟨rfl, h2⟩
              subst h2
              dsimp only
              rw [← HMM.out]
              go_wp2_with fail
              exact ⟨⟨i + 1, p, by omega, by go_num, rfl, O, _, HST10.out, by rw [HMM.out] at *; exact HJ.out, by show L.turn ≤ i + 1; omega, by show (L.all ++ B).length ≤ _; rw [← HMM.out]; exact hM6⟩, by go_light; simp only [intOf]; omega⟩
            · have hsr : stepC N L B = L := by unfold stepC; rw [if_neg (by rw [he]; decide)]
              rw [hsr] at hst8
              rw [he]
              have HST8 := Lib.hid hst8
              have hq1 := HSZ.out.1
              have hq : X < ((sizeN B : Nat) : Int) + 512 := by have := HX.out; omega
              have hq2 : sizeN B ≤ 5000 := by have := HSZ.out; omega
              have HSUM := Lib.hid (HSUM.out w8 (Mod.refl _ _))
              generalize sizeN B = sz at *
              clear hst8 hm8 he hsr HR6 HRV6 HST6 hq1 hfull
              go_wp2_with fail
              with_reducible refine HSUM.out.mono ?_
              rintro e w9 ⟨rfl, h2⟩
              subst h2
              go_wp2_with fail
              with_reducible refine HST8.out.count.mono ?_
              rintro e w10 ⟨rfl, h2⟩
              subst h2
              go_wp2_with fail
              exact ⟨⟨i + 1, p, by omega, by go_num, rfl, O, _, HST8.out, HRV8.out, by omega, by omega⟩, by go_light; simp only [intOf]; omega⟩
      · have hil : i = la := by omega
        subst hil
        go_wp2_with fail
        with_reducible refine HST.out.reopen.mono ?_
        rintro e w8 ⟨p8, v8, O8, rfl, hst8, -, hr8, hO8, hm8⟩
        have HSM := Lib.hid (same_ok hr8 (HRV.out.keep hm8 (fun _ f => f.elim)) (by omega))
        have HM8 := Lib.hid hst8.mod
        obtain ⟨a8, k8, rfl⟩ := hr8.len
        clear hst8 hr8 hO8 hm8 HRV HST
        go_wp2_with fail
        with_reducible refine HSM.out.mono ?_
        rintro e w9 ⟨rfl, hm9⟩
        have HM9 := Lib.hid (HM8.out.trans hm9)
        clear hm9 HSM
        go_wp2_with fail
        exact fin hR ⟨rfl, HM9.out⟩

end Go.Proofs.Ytnchclleiccofaa
