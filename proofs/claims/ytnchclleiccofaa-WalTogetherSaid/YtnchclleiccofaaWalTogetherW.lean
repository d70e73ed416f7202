/-
  WalTogether: the walk. No statement is proved here; no condition.
-/
import Derived.Test.YtnchclleiccofaaWalTwo
namespace Go.Proofs.Ytnchclleiccofaa
open Go.RowKit

set_option maxRecDepth 100000 in
set_option maxHeartbeats 4000000 in
theorem together_walk (a : Option Addr) (len cap : Nat) (zs : List Int) {w : World} (hin : InRow .u8 w a len cap zs) (a2 : Option Addr) (len2 cap2 : Nat) (zs2 : List Int) (hin2 : InRow .u8 w a2 len2 cap2 zs2) :
    Calls Try.prog 8 #[.slice a len cap, .slice a2 len2 cap2] w fun e w' => e = .returned (.bool true) ∧ Mod No w w' := by
  refine calls_hide fun R hR => ?_
  obtain ⟨bs, hbl, hbs⟩ := in_bytes hin
  obtain ⟨cs, hcl, hcs⟩ := in_bytes hin2
  have HIN := Lib.hid hbs
  have HBL := Lib.hid hbl
  have HIN2 := Lib.hid hcs
  have HCL := Lib.hid hcl
  clear hin hbs hbl hin2 hcs hcl
  by_cases h12 : 12 < len ∨ len2 < len
  · rcases Nat.lt_or_ge 12 len with h | h
    · have h6' : (12 : Int) < (len : Int) := by omega
      clear h12
      go_enter Try.func8, Try.ntmps8
      go_wp2_with fail
      with_reducible refine (known4_any w).mono ?_
      rintro e w1 ⟨rfl, hm1⟩
      have HM1 := Lib.hid hm1
      clear hm1
      go_wp2_with fail
      exact fin hR ⟨rfl, HM1.out⟩
    · have h6' : (len : Int) ≤ 12 := by omega
      have h7' : len2 < len := by omega
      clear h12
      go_enter Try.func8, Try.ntmps8
      go_wp2_with fail
      with_reducible refine (known4_any w).mono ?_
      rintro e w1 ⟨rfl, hm1⟩
      have HM1 := Lib.hid hm1
      clear hm1
      go_wp2_with fail
      exact fin hR ⟨rfl, HM1.out⟩
  · have h6' : (len : Int) ≤ 12 := by omega
    have h7' : len ≤ len2 := by omega
    clear h12
    go_enter Try.func8, Try.ntmps8
    go_wp2_with fail
    with_reducible refine (known4_any w).mono ?_
    rintro e w1 ⟨rfl, hm1⟩
    have HM1 := Lib.hid hm1
    clear hm1
    go_wp2_with fail
    with_reducible refine (disk_new No 200 256 w1 (no_lt w1)).mono ?_
    rintro e w2 ⟨b1, s1, m1, rfl, hb1, hb2, hb3, hd2, hm2⟩
    have HD2 := Lib.hid (show DkAt w2 No b1 s1 m1 (Dk.new 200 256) ∧ (∀ q, Own3 b1 s1 m1 q → w.heap.size ≤ q ∧ q < w2.heap.size) ∧ Mod No w w2 from ⟨hd2, fun q e => by
      have := HM1.out.size
      refine ⟨?_, hd2.lt e⟩
      rcases e with e | e | e <;> omega, HM1.out.trans hm2⟩)
    clear hb1 hb2 hb3 hd2 hm2
    go_wp2_with fail
    with_reducible refine (disk_new No 200 256 w2 (no_lt w2)).mono ?_
    rintro e w3 ⟨b2, s2, m2, rfl, hb1, hb2, hb3, hd3, hm3⟩
    have HD3 := Lib.hid (show DkAt w3 No b2 s2 m2 (Dk.new 200 256) ∧ (∀ q, Own3 b2 s2 m2 q → w2.heap.size ≤ q ∧ q < w3.heap.size) ∧ Mod No w2 w3 from ⟨hd3, fun q e => by
      refine ⟨?_, hd3.lt e⟩
      rcases e with e | e | e <;> omega, hm3⟩)
    clear hb1 hb2 hb3 hd3 hm3
    go_wp2_with fail
    with_reducible refine (open_has (L := ⟨0, 0, 0, []⟩) (d := Dk.new 200 256) (by decide) (by decide) (new_well 200 256) (HD2.out.1.stay HD3.out.2.2) (new_log 200 256)).mono ?_
    rintro e w4 ⟨p1, u1, v1, rfl, hL4, hr4, hm4, hp4, hu4⟩
    obtain ⟨va1, vc1, rfl⟩ := (hr4.recs (X := No) (fun _ _ f => f)).len
    have HL4 := Lib.hid (And.intro hL4 (And.intro hm4 (And.intro hp4 hu4)))
    clear hL4 hr4 hm4 hp4 hu4
    go_wp2_with fail
    with_reducible refine (open_has (L := ⟨0, 0, 0, []⟩) (d := Dk.new 200 256) (by decide) (by decide) (new_well 200 256) (HD3.out.1.stay HL4.out.2.1) (new_log 200 256)).mono ?_
    rintro e w5 ⟨p2, u2, v2, rfl, hL5, hr5, hm5, hp5, hu5⟩
    obtain ⟨va2, vc2, rfl⟩ := (hr5.recs (X := No) (fun _ _ f => f)).len
    have hTwo : ∃ O, Two w w5 b1 p1 b2 p2 O ⟨0, 0, 0, []⟩ ⟨0, 0, 0, []⟩ := by
      have z1 := HD2.out.2.2.size
      have z2 := HD3.out.2.2.size
      have z3 := HL4.out.2.1.size
      have l2 := HD2.out.2.1
      have l3 := HD3.out.2.1
      have l4 := HL4.out.2.2
      have t4 := fun q => HL4.out.1.lt (q := q)
      refine ⟨_, Two.first (w' := w5) ⟨rfl, rfl⟩ ⟨rfl, rfl⟩ HL4.out.1 hL5 hm5 ((HD2.out.2.2.trans HD3.out.2.2).trans HL4.out.2.1) (fun q e => ?_) (fun q e => ?_) (fun q e f => ?_) rfl⟩
      · rcases e with e | e | e
        · exact (l2 q e).1
        · omega
        · omega
      · rcases e with e | e | e
        · have := (l3 q e).1; omega
        · omega
        · omega
      · have h1 := t4 q e
        rcases f with f | f | f
        · have := l3 q f
          rcases e with e | e | e
          · have := l2 q e; omega
          · omega
          · omega
        · omega
        · omega
    obtain ⟨O, hTwo⟩ := hTwo
    have HT5 := Lib.hid hTwo
    clear hL5 hr5 hm5 hp5 hu5 hTwo HD2 HD3 HL4 HM1
    go_wp2_with fail
    with_reducible refine (HT5.out.left.batch 5 5 rfl (by decide) a len cap bs HBL.out (by omega) (HIN.out.keep (S := No) HT5.out.mod (fun _ _ _ f => f))).mono ?_
    rintro e w6 ⟨v, rfl, hrv, -, hm6⟩
    obtain ⟨va6, vc6, rfl⟩ := hrv.len
    have HLB := Lib.hid (show (batchB 5 bs).length = len by rw [batchB_len, HBL.out])
    have HMEM := Lib.hid (show ∀ r ∈ batchB 5 bs, r.length ≤ 255 from fun r => batchB_mem)
    have HT6 := Lib.hid (HT5.out.stay hm6)
    obtain ⟨B, hB⟩ : ∃ B, B = batchB 5 bs := ⟨_, rfl⟩
    rw [← hB] at hrv HLB HMEM
    rw [← hB, HLB.out]
    have HLL := Lib.hid (show B.length ≤ 1000000000 by rw [HLB.out]; omega)
    have HR6 := Lib.hid hrv
    clear hrv hB HT5 HIN HBL hm6
    have HE6 := Lib.hid (show wrE 100 240 (Lg.at_ ⟨0, 0, 0, []⟩) B = 0 from wrE_short HMEM.out (by rw [HLB.out]; show 32 + 259 * len ≤ 100 * 240; omega))
    go_wp2_with fail
    rw [← HLB.out]
    with_reducible refine (HT6.out.commit HR6.out.no HLL.out HE6.out).mono ?_
    rintro e w7 ⟨rfl, hT7, hm7⟩
    have HT7 := Lib.hid hT7
    have HR7 := Lib.hid (HR6.out.keep hm7 (fun _ e => e))
    clear hT7 hm7 HT6 HR6
    have HE7 := Lib.hid (show wrE 100 240 (0 + secs 240 (32 + (bodyB B).length)) [] = 0 from wrE_short (by simp) (by
      have := secs_le (size := 240) (n := 32 + (bodyB B).length) (k := 14) (by decide) (by have := body_short B HMEM.out; rw [HLB.out] at this; omega)
      show 32 + 259 * 0 ≤ (100 - (0 + secs 240 (32 + (bodyB B).length))) * 240; omega))
    go_wp2_with fail
    have h0 : ([] : List (List UInt8)).length ≤ 1000000000 := by decide
    with_reducible refine (HT7.out.commit (recs_nil _ _) h0 HE7.out).mono ?_
    clear h0
    rintro e w8 ⟨rfl, hT8, hm8⟩
    obtain ⟨L1, hL1⟩ : ∃ L1 : Lg, L1.all = B ∧ Two w w8 b1 p1 b2 p2 O L1 ⟨0, 0, 0, []⟩ := ⟨_, by show ([] ++ B) ++ [] = B; simp, hT8⟩
    have HR8 := Lib.hid (HR7.out.keep hm8 (fun _ e => e))
    have HL1 := Lib.hid hL1.1
    have HT8 := Lib.hid hL1.2
    clear hT8 hm8 HT7 HR7 hL1
    rw [HLB.out]
    go_wp2_with fail
    go_loopw [14] (fun q wr => ∃ (i : Nat) (L2 : Lg), i ≤ len ∧ q = .int .i64 i ∧ Two w wr b1 p1 b2 p2 O L1 L2 ∧ Recs wr O (.slice va6 len vc6) B ∧ L2.all = B.take i ∧ L2.at_ ≤ 4 * i) (fun q _ => 41 - (intOf q).toNat)
    case atStart => exact ⟨0, _, by omega, rfl, HT8.out, by rw [← HLB.out]; exact HR8.out, rfl, Nat.le_refl _⟩
    case round =>
      clear HT8 HR8
      obtain ⟨i, L2, hi, rfl, hT, hrv, hall, hat⟩ := hrel
      have HT := Lib.hid hT
      have HRV := Lib.hid hrv
      have HALL := Lib.hid hall
      clear hT hrv hall
      have hi0 : (0 : Int) ≤ (i : Int) := Int.natCast_nonneg _
      by_cases hlt : i < len
      · have hi1 : (i : Int) < (len : Int) := by omega
        obtain ⟨pb, po, rfl, hc⟩ := HIN2.out.cell i (by omega)
        have hib : i < cs.length := by have := HCL.out; omega
        rw [bv_get _ _ hib] at hc
        have hc := HT.out.mod.cell hc (fun f => f)
        have hx := UInt8.toNat_lt cs[i]
        generalize cs[i].toNat = pv at *
        obtain ⟨n, hn⟩ : ∃ n : Nat, n = min (1 + pv % 3) (len - i) := ⟨_, rfl⟩
        have HN := Lib.hid (show min (1 + (pv : Int) % 3) ((len : Int) - (i : Int)) = (n : Int) by omega)
        have hn1 : 1 ≤ n := by omega
        have hn2 : i + n ≤ len := by omega
        have hn3 : n ≤ 3 := by omega
        clear hn
        obtain ⟨g, o, hg, hcap⟩ : ∃ g o, va6 = some ⟨g, o, none⟩ ∧ len ≤ vc6 := by
          obtain ⟨vs, e1, e2, e3⟩ := HRV.out.row
          obtain ⟨g, o, c, hv, h1, -, -⟩ := e2.shape (by rw [HLB.out]; omega)
          rw [HLB.out] at h1
          cases hv
          exact ⟨g, o, rfl, h1⟩
        subst hg
        have hne : ¬ vc6 = i := by omega
        have hci : (i : Int) + (n : Int) ≤ (vc6 : Int) := by omega
        go_upto_region 16 with fail
        rw [HN.out]
        have hnI : (1 : Int) ≤ (n : Int) := by omega
        have hinI : (i : Int) + (n : Int) ≤ (len : Int) := by omega
        go_wp2_with fail
        have hsub := Recs.sub (rs := B) (by have := HRV.out.no; rw [← HLB.out] at this; exact this) i n (by rw [HLB.out]; exact hn2)
        have hlen : ((B.drop i).take n).length = n := by rw [List.length_take, List.length_drop, HLB.out]; omega
        have hE := wrE_short (H := 100) (at_ := L2.at_) (rs := (B.drop i).take n) (fun r hr => HMEM.out r (List.mem_of_mem_drop (List.mem_of_mem_take hr))) (by rw [hlen]; omega)
        have hln : ((B.drop i).take n).length ≤ 1000000000 := by omega
        with_reducible refine (HT.out.swap.commit hsub hln hE).mono ?_
        rintro e w9 ⟨rfl, hT9, hm9⟩
        have HT9 := Lib.hid hT9.swap
        have HR9 := Lib.hid (HRV.out.keep hm9 (fun _ e => e))
        have HA9 := Lib.hid (show L2.all ++ (B.drop i).take n = B.take (i + n) by rw [HALL.out, List.take_add])
        have HS9 := Lib.hid (show secs 240 (32 + (bodyB ((B.drop i).take n)).length) ≤ 4 from secs_le (by decide) (by have := body_short _ (fun r (hr : r ∈ (B.drop i).take n) => HMEM.out r (List.mem_of_mem_drop (List.mem_of_mem_take hr))); rw [hlen] at this; omega))
        clear hsub hE hln hT9 hm9 hlen HT HRV
        go_wp2_with fail
        exact ⟨⟨i + n, _, hn2, by go_num, HT9.out, HR9.out, HA9.out, by show L2.at_ + _ ≤ _; have := HS9.out; omega⟩, by go_light; simp only [intOf]; omega⟩
      · have hil : i = len := by omega
        subst hil
        rw [← HLB.out, List.take_length] at HALL
        go_wp2_with fail
        with_reducible refine HT.out.left.reopen.mono ?_
        rintro e w9 ⟨p9, v9, O9, rfl, -, -, hr9, -, hm9⟩
        have HT9 := Lib.hid (HT.out.stay hm9)
        have HR9 := Lib.hid hr9
        have HV9 := Lib.hid (HRV.out.keep hm9 (fun _ f => f.elim))
        rw [HL1.out] at HR9
        obtain ⟨a9, c9, rfl⟩ := HR9.out.len
        clear hr9 hm9 HT HRV
        go_wp2_with fail
        with_reducible refine HT9.out.swap.left.reopen.mono ?_
        rintro e w10 ⟨p10, v10, O10, rfl, -, -, hr10, -, hm10⟩
        have HT10 := Lib.hid (HT9.out.stay hm10)
        have HR10 := Lib.hid hr10
        rw [HALL.out] at HR10
        have HV10 := Lib.hid (HV9.out.keep hm10 (fun _ f => f.elim))
        have HQ10 := Lib.hid (HR9.out.keep hm10 (fun _ f => f.elim))
        obtain ⟨a10, c10, rfl⟩ := HR10.out.len
        clear hr10 hm10 HT9 HV9 HR9
        have HS1 := Lib.hid (same_ok HQ10.out HV10.out HLL.out)
        go_wp2_with fail
        with_reducible refine HS1.out.mono ?_
        rintro e w11 ⟨rfl, hm11⟩
        have HT11 := Lib.hid (HT10.out.stay hm11)
        have HS2 := Lib.hid (same_ok (HR10.out.keep hm11 (fun _ f => f.elim)) (HV10.out.keep hm11 (fun _ f => f.elim)) HLL.out)
        clear hm11 HS1 HT10
        go_wp2_with fail
        with_reducible refine HS2.out.mono ?_
        rintro e w12 ⟨rfl, hm12⟩
        have HT12 := Lib.hid (HT11.out.stay hm12)
        clear hm12 HS2 HT11
        go_wp2_with fail
        with_reducible refine HT12.out.left.count.mono ?_
        rintro e w13 ⟨rfl, h2⟩
        subst h2
        rw [HL1.out, HLB.out]
        go_wp2_with fail
        with_reducible refine HT12.out.swap.left.count.mono ?_
        rintro e w14 ⟨rfl, h2⟩
        subst h2
        rw [HALL.out, HLB.out]
        go_wp2_with fail
        exact fin hR ⟨rfl, HT12.out.mod⟩

end Go.Proofs.Ytnchclleiccofaa
