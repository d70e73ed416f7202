/-
  StorePrefix: for every input the law returns true, and its arguments read as they did. No conditions beyond the given statement's own.
-/
import Derived.Test.YtkeopmfmlciadaaGreatJLawFive
import Derived.ProofKit
import Derived.OpenShut
import Derived.ShutString
import Derived.ChangeOld
namespace Go.Proofs.YtkeopmfmlciadaaGreat
open Go.RowKit Go.Maps Go.Sort

theorem pref_extract {q k : List UInt8} (_ : q.length ≤ k.length) : (((⟨k.toArray⟩ : ByteArray).extract 0 (⟨q.toArray⟩ : ByteArray).size).toList == (⟨q.toArray⟩ : ByteArray).toList) = pref q k := by
  rw [ByteArray.toList_eq, ByteArray.toList_eq, Lib.extract_data, str_size_list]
  unfold pref
  rw [Bool.eq_iff_iff]
  simp

theorem pref_short {q k : List UInt8} (h : k.length < q.length) : pref q k = false := by
  unfold pref
  refine decide_eq_false fun e => ?_
  have := congrArg List.length e
  rw [List.length_take] at this; omega

theorem met_next (p : Bool) (ls : List (List UInt8)) (t : List UInt8) (m : Nat) (h : m < ls.length) : (p && !(ls.take (m + 1)).contains t) = ((p && !(ls.take m).contains t) && !decide (ls[m] = t)) := by
  rw [List.take_succ_eq_append_getElem h, Bool.eq_iff_iff]
  simp only [List.contains_eq_mem, Bool.and_eq_true, Bool.not_eq_true', decide_eq_false_iff_not, List.mem_append, List.mem_singleton, not_or, and_assoc]
  constructor
  · rintro ⟨a, b, c⟩; exact ⟨a, b, fun e => c e.symm⟩
  · rintro ⟨a, b, c⟩; exact ⟨a, b, fun e => c e.symm⟩

/-- The keys' value in StorePrefix. -/
def fE : List UInt8 → List UInt8 := fun _ => []

set_option maxRecDepth 100000 in
set_option maxHeartbeats 8000000 in
theorem prefix5_walk (aa : Option Addr) (la ca : Nat) (ls : List (List UInt8)) {w : World} (hin : SsIn w aa la ls) (qb : ByteArray) (_ : qb.size ≤ maxLen) :
    Calls Tryz.prog 6 #[.slice aa la ca, .string qb] w fun e w' => e = .returned (.bool true) ∧ Mod No w w' := by
  refine calls_hide fun R hR => ?_
  obtain ⟨q, hq⟩ : ∃ q : List UInt8, (⟨q.toArray⟩ : ByteArray) = qb := ⟨qb.data.toList, str_back qb⟩
  have hql : qb.size = q.length := by rw [← hq, str_size_list]
  have HA := Lib.hid hin
  obtain rfl := hin.len
  have HQB := Lib.hid hq
  have HQL := Lib.hid hql
  clear hin hq hql
  go_enter Tryz.func6, Tryz.ntmps6
  go_wp2_with fail
  with_reducible refine (known5_any w).mono ?_
  rintro e w1 ⟨rfl, hm1⟩
  have HM1 := Lib.hid hm1
  clear hm1
  by_cases h20 : 20 < ls.length
  · have q20 : (20 : Int) < (ls.length : Int) := by omega
    go_wp2_with fail
    exact fin hR ⟨rfl, HM1.out⟩
  have q20 : (ls.length : Int) ≤ 20 := by omega
  by_cases h21 : 20 < qb.size
  · have q21 : (20 : Int) < (qb.size : Int) := by omega
    go_wp2_with fail
    exact fin hR ⟨rfl, HM1.out⟩
  have q21 : (qb.size : Int) ≤ 20 := by omega
  go_wp2_with fail
  with_reducible refine (disk_new No 400 512 w1 (no_lt5 w1)).mono ?_
  rintro e w3 ⟨b, sb, mb, rfl, hb1, hb2, hb3, hd3, hm3⟩
  have HD3 := Lib.hid (show DkAt w3 No b sb mb (Dk.new 400 512) ∧ (w.heap.size ≤ b ∧ w.heap.size ≤ sb ∧ w.heap.size ≤ mb) ∧ Mod No w w3 from ⟨hd3, by have := HM1.out.size; omega, HM1.out.trans hm3⟩)
  clear hb1 hb2 hb3 hd3 hm3
  go_wp2_with fail
  with_reducible refine (Sto.first (w0 := w) (n := 400) (z := 512) (N := 400) (sz := 512) (by decide) (by decide) (by decide) (by decide) HD3.out.1 HD3.out.2.1 HD3.out.2.2).mono ?_
  rintro e w4 ⟨s, O, rfl, hs4, -, -⟩
  have HS4 := Lib.hid hs4
  clear hs4 HD3 HM1
  go_wp2_with fail
  go_loopw [7] (fun x wr => ∃ (i : Nat), i ≤ ls.length ∧ x = .int .i64 i ∧ (∃ O, Sto w wr 400 512 b s O i (PM fE (ls.take i)) i) ∧ ∀ t ∈ ls.take i, t.length ≤ 30) (fun x _ => 21 - (intOf x).toNat)
  case atStart => exact ⟨0, by omega, rfl, ⟨O, by rw [List.take_zero, PM_nil]; exact HS4.out⟩, fun t ht => by cases ht⟩
  case round =>
    clear HS4
    obtain ⟨i, hi, rfl, ⟨O, hs⟩, h30⟩ := hrel
    have hi0 : (0 : Int) ≤ (i : Int) := Int.natCast_nonneg _
    have HS := Lib.hid hs
    have H30 := Lib.hid h30
    clear hs h30
    by_cases hlt : i < ls.length
    · have hi1 : (i : Int) < (ls.length : Int) := by omega
      obtain ⟨ab, ao, rfl, c0⟩ := HA.out.at_ i hlt
      have c0 := HS.out.mod.cell c0 (fun f => f)
      have HTK := Lib.hid (show ls.take (i + 1) = ls.take i ++ [ls[i]] from List.take_succ_eq_append_getElem hlt)
      generalize ls[i] = t at *
      have hts := str_size_list t
      by_cases h30 : 30 < t.length
      · generalize (⟨t.toArray⟩ : ByteArray) = T at *
        have q30 : (30 : Int) < (T.size : Int) := by omega
        go_wp2_with fail
        have HM9 := Lib.hid HS.out.mod
        exact fin hR ⟨rfl, HM9.out⟩
      · obtain ⟨w7, hw7⟩ : ∃ w7, w7 = wr.alloc (.cells #[.string ⟨t.toArray⟩, .string ⟨#[]⟩, .bool false] 32) := ⟨_, rfl⟩
        obtain ⟨g, hg⟩ : ∃ g, g = wr.heap.size := ⟨_, rfl⟩
        have h7 : w7.heap[g]? = some (.cells #[.string ⟨t.toArray⟩, .string ⟨#[]⟩, .bool false] 32 (0, 0)) := by rw [hw7, hg]; exact heap_alloc_new _ _
        have hp : Prs w7 No (some ⟨g, 0, none⟩) [⟨t, [], false⟩] := prs_one (p := ⟨t, [], false⟩) h7 (fun f => f)
        have hmid : MidP [⟨t, [], false⟩] := fun p hp => by
          obtain rfl := List.mem_singleton.1 hp
          exact ⟨by show t.length ≤ _; omega, by show (0 : Nat) ≤ _; omega⟩
        have hch : (PM fE (ls.take i)).changes [⟨t, [], false⟩] = PM fE (ls.take (i + 1)) := by
          rw [HTK.out]; exact PM_changes fE (ls.take i) [t]
        have hall : ∀ u ∈ ls.take (i + 1), u.length ≤ 60 ∧ (fE u).length ≤ 60 := by
          rw [HTK.out]
          intro u hu
          rcases List.mem_append.1 hu with hu | hu
          · have := H30.out u hu; exact ⟨by omega, by show (0 : Nat) ≤ _; omega⟩
          · obtain rfl := List.mem_singleton.1 hu; exact ⟨by omega, by show (0 : Nat) ≤ _; omega⟩
        have hAP := (HS.out.stay (show Mod No wr w7 by rw [hw7]; exact (Mod.refl No _).alloc _)).apply (c := 1) hp hmid (by rw [hch]; exact PM_mid hall) (by rw [hch]; exact PM_fits hall (by rw [List.length_take]; omega)) (by show (1 : Nat) ≤ _; omega) (by show i + 1 ≤ _; omega) (by omega)
        rw [hch] at hAP
        have HAP : Hid (Calls Tryz.prog 14 #[.pointer (some ⟨s, 0, none⟩), .slice (some ⟨g, 0, none⟩) 1 1] w7 fun e w' => e = .returned (.int .i64 0) ∧ ∃ O', Sto w w' 400 512 b s O' (i + 1) (PM fE (ls.take (i + 1))) (i + 1) ∧ (∀ q, q < w7.heap.size → O' q → O q) ∧ Mod O w7 w') := Lib.hid hAP
        have HG := Lib.hid hg
        have HW7 := Lib.hid hw7
        have H31 := Lib.hid (show ∀ u ∈ ls.take (i + 1), u.length ≤ 30 by
          rw [HTK.out]
          intro u hu
          rcases List.mem_append.1 hu with hu | hu
          · exact H30.out u hu
          · obtain rfl := List.mem_singleton.1 hu; omega)
        clear h7 hp hmid hch hall hAP hg hw7
        generalize (⟨t.toArray⟩ : ByteArray) = T at *
        have q30 : (T.size : Int) ≤ 30 := by omega
        go_wp2_with (rw [← HW7.out, ← HG.out])
        with_reducible refine HAP.out.mono ?_
        rintro e w8 ⟨rfl, O', h8, -, -⟩
        have HS8 := Lib.hid h8
        clear h8 HAP HG HW7
        go_wp2_with fail
        exact ⟨⟨i + 1, by omega, by go_num, ⟨O', HS8.out⟩, H31.out⟩, by go_light; simp only [intOf]; omega⟩
    · have hil : i = ls.length := by omega
      subst hil
      rw [List.take_length] at HS H30
      have HKE := Lib.hid (HS.out.keys (by omega) q)
      rw [HQB.out] at HKE
      go_wp2_with fail
      with_reducible refine HKE.out.mono ?_
      rintro e w5 ⟨v, ks, rfl, hks, ho, hm5⟩
      generalize wr = wS at HS hm5
      obtain ⟨va, vc, rfl⟩ := own_len ho
      have HKS := Lib.hid hks
      have HO := Lib.hid (Sl.of_own (X := No) ho (fun _ _ f => f))
      have HM5 := Lib.hid hm5
      have HFL := Lib.hid (firsts_len (q := q) hks)
      have HRI := Lib.hid (show ∀ i x y, (ks.filter (pref q))[i]? = some x → (ks.filter (pref q))[i + 1]? = some y → x < y from fun i x y hx hy => by
        obtain ⟨h1, rfl⟩ := List.getElem?_eq_some_iff.1 hx
        obtain ⟨h2, rfl⟩ := List.getElem?_eq_some_iff.1 hy
        exact rising hks (pref q) i h2)
      have hfl : (ks.filter (pref q)).length ≤ 20 := by
        have := List.length_filter_le (pref q) ks
        have := PM_few hks
        omega
      have HPF := Lib.hid (fun k (h : k ∈ ks.filter (pref q)) => (List.mem_filter.1 h).2)
      clear hks ho hm5 HKE
      generalize ks.filter (pref q) = F at *
      go_wp2_with fail
      go_loopw [9] (fun x wr => ∃ (i : Nat), i ≤ F.length ∧ x = .int .i64 i ∧ Mod No w5 wr) (fun x _ => 21 - (intOf x).toNat)
      case atStart => exact ⟨0, by omega, rfl, Mod.refl _ _⟩
      case round =>
        obtain ⟨i, hi, rfl, hmod⟩ := hrel
        have hi0 : (0 : Int) ≤ (i : Int) := Int.natCast_nonneg _
        by_cases hlt : i < F.length
        · have hi1 : (i : Int) < (F.length : Int) := by omega
          obtain ⟨b2, o2, k2, hv2, hc2⟩ := str_cell HO.out hlt
          cases hv2
          have hc2 := hmod.cell hc2 (fun f => f)
          have hpf := HPF.out F[i] (List.getElem_mem hlt)
          have hle : q.length ≤ F[i].length := by
            rcases Nat.lt_or_ge F[i].length q.length with g | g
            · rw [pref_short g] at hpf; cases hpf
            · exact g
          have hx := pref_extract hle
          rw [hpf, HQB.out] at hx
          have hsz := str_size_list F[i]
          have HMM := Lib.hid hmod
          by_cases hz : i = 0
          · subst hz
            rw [Nat.add_zero] at hc2
            have hi2 : (0 : Int) < (F.length : Int) := by omega
            generalize (⟨F[0].toArray⟩ : ByteArray) = K at *
            have hle2 : decide ((K.size : Int) < (qb.size : Int)) = false := decide_eq_false (by have := HQL.out; omega)
            have hle4 : (qb.size : Int) ≤ (K.size : Int) := by have := HQL.out; omega
            have hle3 : decide (K.size < qb.size) = false := decide_eq_false (by omega)
            have hle5 : (0 : Int) ≤ (qb.size : Int) := Int.natCast_nonneg _
            clear hmod hpf hsz
            go_wp2_with fail
            go_quiet (fail)
            go_wp2_with fail
            exact ⟨⟨0 + 1, by omega, by go_num, HMM.out.drewN _⟩, by go_light; simp only [intOf]; omega⟩
          · have hi4 : ((i - 1 : Nat) : Int) = (i : Int) - 1 := by omega
            obtain ⟨b1, o1, k1, hv1, hc1⟩ := str_cell HO.out (k := i - 1) (by omega)
            cases hv1
            have hc1 := hmod.cell hc1 (fun f => f)
            have hbl : Op.bytesLess F[i - 1] F[i] = true := by
              have h1 := HRI.out (i - 1) F[i - 1] F[i] (List.getElem?_eq_getElem _) (by rw [show i - 1 + 1 = i by omega]; exact List.getElem?_eq_getElem _)
              rw [bytesLess_eq]; simpa using h1
            have hbl2 : Op.bytesLess (⟨F[i - 1].toArray⟩ : ByteArray).toList (⟨F[i].toArray⟩ : ByteArray).toList = true := by
              rw [ByteArray.toList_eq, ByteArray.toList_eq]; simpa using hbl
            have hip : (0 : Int) < (i : Int) := by omega
            generalize (⟨F[i - 1].toArray⟩ : ByteArray) = K1 at *
            generalize (⟨F[i].toArray⟩ : ByteArray) = K at *
            have hle2 : decide ((K.size : Int) < (qb.size : Int)) = false := decide_eq_false (by have := HQL.out; omega)
            have hle4 : (qb.size : Int) ≤ (K.size : Int) := by have := HQL.out; omega
            have hle3 : decide (K.size < qb.size) = false := decide_eq_false (by omega)
            have hle5 : (0 : Int) ≤ (qb.size : Int) := Int.natCast_nonneg _
            have hip3 : decide (0 < i) = true := decide_eq_true (by omega)
            have hip2 : decide ((0 : Int) < (i : Int)) = true := decide_eq_true hip
            clear hmod hpf hbl hsz
            go_wp2_with fail
            go_quiet (fail)
            go_wp2_with fail
            exact ⟨⟨i + 1, by omega, by go_num, HMM.out.drewN _⟩, by go_light; simp only [intOf]; omega⟩
        · have hiF : (F.length : Int) ≤ (i : Int) := by omega
          have HMM := Lib.hid (HM5.out.trans hmod)
          clear hmod
          go_wp2_with fail
          clear hiF
          go_loopw [10, 11] (fun x y W => ∃ (j : Nat), j ≤ ls.length ∧ y = .int .i64 j ∧ x = .int .i64 ((firsts q ls j).length : Nat) ∧ Mod No wS W) (fun _ y _ => 21 - (intOf y).toNat)
          case atStart => exact ⟨0, by omega, rfl, rfl, HMM.out⟩
          case round =>
            obtain ⟨j, hj, rfl, rfl, hmod⟩ := hrel
            have hj0 : (0 : Int) ≤ (j : Int) := Int.natCast_nonneg _
            by_cases hlt : j < ls.length
            · have hj1 : (j : Int) < (ls.length : Int) := by omega
              have HAJ := Lib.hid (HA.out.stay (HS.out.mod.trans hmod))
              obtain ⟨ab, ao, rfl, c0⟩ := HAJ.out.at_ j hlt
              have HSJ := Lib.hid (HS.out.stay hmod)
              have HMJ := Lib.hid hmod
              clear hmod
              have hfst := firsts_le q ls j
              have HFN := Lib.hid (show firsts q ls (j + 1) = firsts q ls j ++ if (pref q ls[j] && !(ls.take j).contains ls[j]) = true then [ls[j]] else [] by
                rw [firsts, List.getElem?_eq_getElem hlt])
              have HTI := Lib.hid (List.getElem_mem hlt)
              have HT := Lib.hid (show ls[j]? = some ls[j] from List.getElem?_eq_getElem hlt)
              generalize hcn0 : (firsts q ls j).length = cn at *
              have HCN := Lib.hid hcn0
              clear hcn0
              have hcn : cn ≤ 20 := by omega
              clear hfst
              obtain ⟨t, ht⟩ : ∃ t, t = ls[j] := ⟨_, rfl⟩
              rw [← ht] at HFN HTI HT c0
              have hts := str_size_list t
              obtain ⟨p0, hp0⟩ : ∃ p0, p0 = pref q t := ⟨_, rfl⟩
              rw [← hp0] at HFN
              have hnt : (ls.take 0).contains t = false := by simp
              have HPX := Lib.hid (show q.length ≤ t.length → (((⟨t.toArray⟩ : ByteArray).extract 0 qb.size).toList == qb.toList) = p0 from fun hle => by rw [hp0, ← pref_extract hle, HQB.out])
              have HPS := Lib.hid (show t.length < q.length → p0 = false from fun hle => by rw [hp0]; exact pref_short hle)
              have HGE := Lib.hid (show ∀ W, Mod No wS W → Calls Tryz.prog 17 #[.pointer (some ⟨s, 0, none⟩), .string ⟨t.toArray⟩] W fun e w' => e = .returned (.tuple #[.string ⟨#[]⟩, .bool true]) ∧ w' = W from fun W hW => by
                have h1 := (HS.out.stay hW).get t (by have := H30.out t HTI.out; omega)
                rw [getV_some (PM_in HTI.out)] at h1
                exact h1)
              have HEQ := Lib.hid (show ∀ u, ((⟨u.toArray⟩ : ByteArray).toList == (⟨t.toArray⟩ : ByteArray).toList) = decide (u = t) from fun u => by
                rw [ByteArray.toList_eq, ByteArray.toList_eq, Bool.eq_iff_iff]; simp)
              clear ht hp0 HSJ
              generalize hTT : (⟨t.toArray⟩ : ByteArray) = T at *
              have HTT := Lib.hid hTT
              have HTS := Lib.hid hts
              clear hTT hts hnt
              have hgp : ((T.size : Int) < (qb.size : Int) ∧ p0 = false) ∨ ((qb.size : Int) ≤ (T.size : Int) ∧ decide ((qb.size : Int) ≤ (T.size : Int)) = true ∧ ((T.extract 0 qb.size).toList == qb.toList) = p0) := by
                rcases Nat.lt_or_ge t.length q.length with g | g
                · exact .inl ⟨by have := HTS.out; have := HQL.out; omega, HPS.out g⟩
                · have := HTS.out; have := HQL.out; exact .inr ⟨by omega, decide_eq_true (by omega), HPX.out g⟩
              go_upto_region 25 with fail
              obtain ⟨wJ, hwJ⟩ : ∃ wJ, wJ = wr := ⟨_, rfl⟩
              rw [← hwJ] at c0 HMJ HAJ ⊢
              clear hwJ
              go_cut [12] from 98 to 157 (fun f wx => wJ = wx ∧ f = .bool p0)
              case first =>
                rcases hgp with ⟨g1, g2⟩ | ⟨g1, g2, g3⟩
                · subst g2
                  go_wp2_with fail
                  go_meet
                  exact ⟨rfl, rfl⟩
                · go_wp2_with fail
                  go_meet
                  exact ⟨rfl, rfl⟩
              case rest =>
                obtain ⟨rfl, rfl⟩ := hcut
                clear hgp
                go_wp2_with fail
                go_loopw [12, 13] (fun x y W => ∃ (m : Nat), m ≤ j ∧ y = .int .i64 m ∧ x = .bool (p0 && !(ls.take m).contains t) ∧ Mod No wJ W) (fun _ y _ => 21 - (intOf y).toNat)
                case atStart => exact ⟨0, by omega, rfl, by simp, Mod.refl _ _⟩
                case round =>
                  obtain ⟨m, hm, rfl, rfl, hmodm⟩ := hrel
                  have hm0 : (0 : Int) ≤ (m : Int) := Int.natCast_nonneg _
                  have HMM2 := Lib.hid hmodm
                  by_cases hlm : m < j
                  · have hm1 : (m : Int) < (j : Int) := by omega
                    have hm2 : (m : Int) < (ls.length : Int) := by omega
                    obtain ⟨ab2, ao2, hv2, c2⟩ := HAJ.out.at_ m (by omega)
                    cases hv2
                    have c2 := hmodm.cell c2 (fun f => f)
                    have c0 := hmodm.cell c0 (fun f => f)
                    have HNX := Lib.hid (met_next p0 ls t m (by omega))
                    have hq := HEQ.out ls[m]
                    generalize hbb : decide (ls[m] = t) = bb at *
                    generalize (⟨ls[m].toArray⟩ : ByteArray) = U at *
                    generalize (p0 && !(ls.take m).contains t) = fb at *
                    clear hmodm hbb
                    cases fb with
                    | false =>
                      go_wp2_with fail
                      go_quiet (fail)
                      go_wp2_with fail
                      exact ⟨⟨m + 1, by omega, by go_num, by rw [HNX.out]; rfl, HMM2.out.drewN _⟩, by go_light; simp only [intOf]; omega⟩
                    | true =>
                      go_wp2_with fail
                      go_quiet (fail)
                      go_wp2_with fail
                      exact ⟨⟨m + 1, by omega, by go_num, by rw [HNX.out]; simp, HMM2.out.drewN _⟩, by go_light; simp only [intOf]; omega⟩
                  · have hmj : m = j := by omega
                    subst hmj
                    have HGE2 := Lib.hid (HGE.out _ (HMJ.out.trans hmodm))
                    have c0 := hmodm.cell c0 (fun f => f)
                    have HMF := Lib.hid (HMJ.out.trans hmodm)
                    clear hmodm
                    generalize (p0 && !(ls.take m).contains t) = fb at *
                    cases fb with
                    | false =>
                      go_wp2_with fail
                      with_reducible refine HGE2.out.mono ?_
                      rintro e w9 ⟨rfl, h2⟩
                      subst h2
                      go_wp2_with fail
                      exact ⟨⟨m + 1, by omega, by go_num, by rw [HFN.out, List.length_append, HCN.out]; simp, HMF.out⟩, by go_light; simp only [intOf]; omega⟩
                    | true =>
                      go_wp2_with fail
                      with_reducible refine HGE2.out.mono ?_
                      rintro e w9 ⟨rfl, h2⟩
                      subst h2
                      go_wp2_with fail
                      exact ⟨⟨m + 1, by omega, by go_num, by rw [HFN.out, if_pos trivial, List.length_append, HCN.out]; go_num, HMF.out⟩, by go_light; simp only [intOf]; omega⟩
            · have hjl : j = ls.length := by omega
              subst hjl
              rw [HFL.out]
              have HMZ := Lib.hid (HS.out.mod.trans hmod)
              clear hmod
              go_wp2_with fail
              exact fin hR ⟨rfl, HMZ.out⟩

end Go.Proofs.YtkeopmfmlciadaaGreat
namespace Go.Proofs.YtkeopmfmlciadaaGreat.lawStorePrefix
open Go.ChangeShapes Go.WideShapes Go.ChangeAt Go.RowKit
open Go.ChangeMaps (open_string shut_string)

theorem own : ownKnob Tryz.prog.godebug = none := by kernel_rfl
theorem laidOut : laidOutB Tryz.prog = true := by kernel_rfl

set_option maxRecDepth 100000 in
theorem lifted (os : Os) (started : os.Started) (H : Type) (enc : TypeId × Value → H) :
    ReturnsInHanded {} Tryz.checked os 6 .any (Rows.storePrefixSpec.pre6 enc Tryz.prog Tryz.f6 Rows.storePrefixRow.domain false) (Rows.storePrefixSpec.post enc Tryz.prog Tryz.f6 false true false false) := by
  refine returnsInHanded_of_change (C := Tryz.checked) own started (by kernel_rfl) Tryz.func6
    (ChangeSpec.witness6 (enc := enc) (C := Tryz.checked) false ⟨#[], #[.slice none 0 0, .string ⟨#[]⟩], []⟩ 8 (by kernel_rfl) (by kernel_rfl) (by kernel_rfl) (by kernel_rfl)) ?_
  intro W base args ds gs before hval0 hW _ _
  have hval : ∀ (j : Nat) t v, Tryz.f6.params[j]? = some t → args[j]? = some v → Value.okWide Tryz.prog W .any base t v := hval0
  have hW' := hW
  obtain ⟨p, q, hA0, hV, rfl, hfz, hnd⟩ := hW
  have hA : DataW.TrodAll enc Tryz.prog W 0 (fun _ => true) true Tryz.f6.params.toList args.toList ds p := hA0
  rw [Tryz.params6] at hA hval
  obtain ⟨v0, vs0, d0, ds0, p0, q0, hargs, rfl, rfl, h0, r0⟩ := trodAll_cons hA
  obtain ⟨v1, vs1, d1, ds1, p1, q1, rfl, rfl, rfl, h1, r1⟩ := trodAll_cons r0
  obtain ⟨rfl, rfl, rfl⟩ := trodAll_nil r1
  obtain rfl : args = #[v0, v1] := by cases args; simp_all
  obtain ⟨rfl, rfl⟩ := trodVars_none hV
  obtain ⟨a0, len0, cap0, rfl⟩ := okWide_slice Tryz.underlying22 (hval 0 22 v0 rfl rfl)
  have k0 := h0
  have lt0 : ∀ x ∈ p0, x.block < W.heap.size := by obtain ⟨m, hm⟩ := k0; exact DataW.trod_lt m _ _ _ hm
  obtain ⟨z0, w0⟩ : ∃ l, SsIn W a0 len0 l := by
    obtain ⟨fuel, hf⟩ := h0
    obtain ⟨a', len', cap', l', hcs, hl'⟩ := ss_open hf
    simp [Value.cells] at hcs
    obtain ⟨rfl, rfl, rfl⟩ := hcs
    exact ⟨l', hl'⟩
  obtain ⟨a1, rfl, rfl, rfl, w1⟩ := open_string Tryz.underlying9 (hval 1 9 v1 rfl rfl) h1
  clear hA0 hval0
  refine (prefix5_walk a0 len0 cap0 z0 w0 a1 w1).mono fun e W' ⟨he, hm⟩ => ?_
  have bel := hm.below
  subst he
  exact ⟨_, rfl, _, _, _, [], _, [], hW', trodAll_mk1 (shut_bool Tryz.underlying4 _), (trodAll_cons_mk (Below.trod laidOut (by kernel_rfl) (of_decide_eq_true (by kernel_rfl)) k0 bel lt0) (trodAll_cons_mk (shut_string Tryz.underlying9 w1) trodAll_mk0)), rfl, bel.frame _, fun h => by cases h⟩

/-- The statement. -/
theorem proved : Rows.StorePrefixSaid :=
  OpenClaim.holds_of_wide 6 Tryz.f6 rfl rfl rfl rfl rfl rfl rfl ⟨rfl, rfl, rfl, rfl, rfl⟩ rfl rfl rfl rfl rfl (by kernel_rfl) Tryz.func6 (by kernel_rfl)
    (of_decide_eq_true (by kernel_rfl)) (by unfold Func.isWrapper; first | (rw [if_pos (by decide +kernel)]; kernel_rfl) | (rw [if_neg (by decide +kernel)]; exact ⟨rfl, rfl⟩))
    (fun os started H enc _ => lifted os started H enc)

end Go.Proofs.YtkeopmfmlciadaaGreat.lawStorePrefix
