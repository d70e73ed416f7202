/-
  WalForeign: the walk. No statement is proved here; no condition.
-/
import Derived.Test.YtnchclleiccofaaWalX
import Derived.Test.YtnchclleiccofaaPlace
import Derived.Laws.Closers25b
import Derived.StillTailTactics
namespace Go.Proofs.Ytnchclleiccofaa
open Go.RowKit

/-- A cell of a row of one's own is written. -/
theorem own_set {w : World} {base g n c r : Nat} {e : TypeId} {L : List UInt8} (h : w.ownsRow base e 1 (.slice (some ⟨g, 0, none⟩) n c) n (bv L)) (hr : r < n) (v : UInt8) :
    Sl (w.setCell ⟨g, r, none⟩ (.int .u8 ((v.toNat : Nat) : Int))) No e (.slice (some ⟨g, 0, none⟩) n c) n (bv (L.set r v)) := by
  obtain ⟨hl, ⟨hv, _⟩ | ⟨g', cap, cur, hv, hg, hh, hnc, hcm, hsz, htk⟩⟩ := h
  · cases hv
  · cases hv
    rw [Nat.mul_one] at hsz htk hl
    have hL : L.length = n := by rw [bv_length] at hl; omega
    refine .inr ⟨g, 0, c, _, (0, 0), rfl, hnc, hcm, fun f => f, heap_setCell hh _, by rw [bv_length, List.length_set, Array.size_setIfInBounds]; omega, fun i hi => ?_⟩
    rw [bv_length, List.length_set] at hi
    rw [Nat.zero_add]
    by_cases hir : i = r
    · subst hir
      rw [Array.getElem?_setIfInBounds_self_of_lt (by omega), bv_get?, List.getElem?_set_self (by omega)]
      rfl
    · rw [Array.getElem?_setIfInBounds_ne (by omega), bv_get?, List.getElem?_set_ne (by omega), ← bv_get?]
      have h1 : (cur.toList.take n)[i]? = cur[i]? := by rw [List.getElem?_take_of_lt (by omega), Array.getElem?_toList]
      rw [← h1, htk]

/-- The disk of the loop. -/
def FgInv (w wr : World) (b : Nat) : Prop := ∃ sb mb d, DkAt wr No b sb mb d ∧ Well d ∧ d.n = 60 ∧ d.sz = 256 ∧ (∀ q, Own3 b sb mb q → w.heap.size ≤ q) ∧ Mod No w wr

set_option maxRecDepth 100000 in
set_option maxHeartbeats 4000000 in
theorem foreign_walk (a1 : Option Addr) (len1 cap1 : Nat) (zs1 : List Int) {w : World} (hin1 : InRow .u16 w a1 len1 cap1 zs1) (a2 : Option Addr) (len2 cap2 : Nat) (zs2 : List Int) (hin2 : InRow .u8 w a2 len2 cap2 zs2) (a : Option Addr) (len cap : Nat) (zs : List Int) (hin : InRow .u8 w a len cap zs) :
    Calls Try.prog 7 #[.slice a1 len1 cap1, .slice a2 len2 cap2, .slice a len cap] w fun e w' => e = .returned (.bool true) ∧ Mod No w w' := by
  refine calls_hide fun R hR => ?_
  obtain ⟨bs, hbl, hbs⟩ := in_bytes hin
  obtain ⟨cs, hcl, hcs⟩ := in_bytes hin2
  obtain ⟨-, -, hks, hkw⟩ := in_of_row hin1
  have hkl := hks.len
  rw [List.length_map] at hkl
  have HKW := Lib.hid hkw
  obtain ⟨ks, hkk⟩ : ∃ ks, ks = zs1.take len1 := ⟨_, rfl⟩
  rw [← hkk] at hks hkl HKW
  have HIN := Lib.hid hbs
  have HBL := Lib.hid hbl
  have HIN2 := Lib.hid hcs
  have HCL := Lib.hid hcl
  have HIN1 := Lib.hid hks
  have HKL := Lib.hid hkl
  clear hin hbs hbl hin2 hcs hcl hin1 hks hkl hkk hkw
  by_cases h30 : 30 < len1
  · have q1 : (30 : Int) < (len1 : Int) := by omega
    go_enter Try.func7, Try.ntmps7
    go_wp2_with fail
    with_reducible refine (known4_any w).mono ?_
    rintro e w1 ⟨rfl, hm1⟩
    have HM1 := Lib.hid hm1
    clear hm1
    go_wp2_with fail
    exact fin hR ⟨rfl, HM1.out⟩
  have q1 : (len1 : Int) ≤ 30 := by omega
  by_cases h21 : len2 < len1
  · go_enter Try.func7, Try.ntmps7
    go_wp2_with fail
    with_reducible refine (known4_any w).mono ?_
    rintro e w1 ⟨rfl, hm1⟩
    have HM1 := Lib.hid hm1
    clear hm1
    go_wp2_with fail
    exact fin hR ⟨rfl, HM1.out⟩
  have q2 : len1 ≤ len2 := by omega
  by_cases h6 : 6 < len
  · have q3 : (6 : Int) < (len : Int) := by omega
    go_enter Try.func7, Try.ntmps7
    go_wp2_with fail
    with_reducible refine (known4_any w).mono ?_
    rintro e w1 ⟨rfl, hm1⟩
    have HM1 := Lib.hid hm1
    clear hm1
    go_wp2_with fail
    exact fin hR ⟨rfl, HM1.out⟩
  have q3 : (len : Int) ≤ 6 := by omega
  clear h30 h21 h6
  go_enter Try.func7, Try.ntmps7
  go_wp2_with fail
  with_reducible refine (known4_any w).mono ?_
  rintro e w1 ⟨rfl, hm1⟩
  have HM1 := Lib.hid hm1
  clear hm1
  go_wp2_with fail
  with_reducible refine (disk_new No 60 256 w1 (no_lt w1)).mono ?_
  rintro e w2 ⟨b, sb, mb, rfl, hb1, hb2, hb3, hd2, hm2⟩
  have HD2 := Lib.hid (show DkAt w2 No b sb mb (Dk.new 60 256) ∧ (w.heap.size ≤ b ∧ w.heap.size ≤ sb ∧ w.heap.size ≤ mb) ∧ Mod No w w2 from ⟨hd2, by have := HM1.out.size; omega, HM1.out.trans hm2⟩)
  clear hb1 hb2 hb3 hd2 hm2
  go_wp2_with fail
  with_reducible refine (St.first (N := 60) (by decide) (by decide) HD2.out.1 HD2.out.2.1 HD2.out.2.2).mono ?_
  rintro e w3 ⟨p, v0, O, rfl, hst, hr0, hm3⟩
  obtain ⟨va, vc, rfl⟩ := hr0.len
  have HST := Lib.hid hst
  clear hst hr0 hm3 HD2 HM1
  go_wp2_with fail
  with_reducible refine (HST.out.batch 3 3 rfl (by decide) a len cap bs HBL.out (by omega) (HIN.out.keep (S := No) HST.out.mod (fun _ _ _ f => f))).mono ?_
  rintro e w4 ⟨v, rfl, hrv, hst4, -⟩
  obtain ⟨va4, vc4, rfl⟩ := hrv.len
  have HLB := Lib.hid (show (batchB 3 bs).length = len by rw [batchB_len, HBL.out])
  have HFIT := Lib.hid (show wrE (60 / 2) 240 (Lg.at_ ⟨0, 0, 0, []⟩) (batchB 3 bs) = 0 from wrE_batch (by have := HBL.out; show 32 + 259 * bs.length ≤ 30 * 240; omega))
  obtain ⟨B, hB⟩ : ∃ B, B = batchB 3 bs := ⟨_, rfl⟩
  rw [← hB] at hrv HLB HFIT
  rw [← hB, HLB.out]
  have HLL := Lib.hid (show B.length ≤ 1000000000 by rw [HLB.out]; omega)
  have HST4 := Lib.hid hst4
  have HR4 := Lib.hid hrv
  clear hrv hst4 hB HST HIN HBL
  go_wp2_with fail
  rw [← HLB.out]
  with_reducible refine (HST4.out.commit HR4.out.no HLL.out).mono ?_
  rw [HFIT.out]
  rintro e w5 ⟨rfl, hst5, -⟩
  have HI5 := Lib.hid (show FgInv w w5 b from by
    obtain ⟨sb', mb', ub', d', h1, h2, h3, h4⟩ := hst5.has
    exact ⟨sb', mb', d', h1.disk, h1.well, h2, h3, fun q e => hst5.low q (h4 q (.inl e)), hst5.mod⟩)
  clear hst5 HST4 HR4 HFIT HLL
  rw [HLB.out]
  go_wp2_with fail
  go_loopw [11] (fun q wr => ∃ i : Nat, i ≤ len1 ∧ q = .int .i64 i ∧ FgInv w wr b) (fun q _ => len1 - (intOf q).toNat)
  case atStart => exact ⟨0, by omega, rfl, HI5.out⟩
  case round =>
    clear HI5
    obtain ⟨i, hi, rfl, hinv⟩ := hrel
    have hi0 : (0 : Int) ≤ (i : Int) := Int.natCast_nonneg _
    obtain ⟨sb', mb', d', hd, hw, hn, hz, hlow, hmod⟩ := hinv
    have HD := Lib.hid (And.intro hd (And.intro hw (And.intro hn (And.intro hz (And.intro hlow hmod)))))
    clear hd hw hn hz hlow hmod
    by_cases hlt : i < len1
    · have hi1 : (i : Int) < (len1 : Int) := by omega
      obtain ⟨kb, ko, rfl, hck⟩ := HIN1.out.cell i hlt
      obtain ⟨xb, xo, rfl, hcx⟩ := HIN2.out.cell i (by omega)
      have hkl : i < ks.length := by have := HKL.out; omega
      have hxl : i < cs.length := by have := HCL.out; omega
      rw [bv_get _ _ hxl] at hcx
      rw [List.getElem?_map, List.getElem?_eq_getElem hkl] at hck
      dsimp only [Option.map_some] at hck
      have hwf := HKW.out ks[i] (List.getElem_mem hkl)
      have hk0 : (0 : Int) ≤ ks[i] ∧ ks[i] ≤ 65535 := by
        have := bounds_u16 hwf
        omega
      have hck := HD.out.2.2.2.2.2.cell hck (fun f => f)
      have hcx := HD.out.2.2.2.2.2.cell hcx (fun f => f)
      clear hwf
      generalize ks[i] = k at *
      generalize cs[i] = x at *
      obtain ⟨hk0, hk1⟩ := hk0
      obtain ⟨P, hP⟩ : ∃ P : Nat, k % 15360 = (P : Int) := Int.eq_ofNat_of_zero_le (Int.emod_nonneg _ (by decide))
      have hP2 : P < 15360 := by omega
      have HP := Lib.hid hP
      clear hP
      go_wp2_with fail
      with_reducible refine (place_any k 15360 wr (by decide) (by decide)).mono ?_
      rintro e w' ⟨rfl, h2⟩
      subst h2
      rw [HP.out]
      obtain ⟨Q, hQ⟩ : ∃ Q : Nat, Q = P / 256 := ⟨_, rfl⟩
      obtain ⟨r, hr⟩ : ∃ r : Nat, r = P % 256 := ⟨_, rfl⟩
      have hQI : (P : Int) / 256 = (Q : Int) := by omega
      have hrI : (P : Int) % 256 = (r : Int) := by omega
      have hQ60 : Q < 60 := by omega
      have hr256 : r < 256 := by omega
      have hP0 : (0 : Int) ≤ (P : Int) := Int.natCast_nonneg _
      clear hQ hr
      have hE := Lib.hid (show atE d'.dead (Q : Int) d'.n = 0 by
        rw [HD.out.2.1.1, HD.out.2.2.1]; unfold atE; rw [if_neg (by decide), if_neg (by omega)])
      go_wp2_with fail
      with_reducible refine (read_ok HD.out.1 hE.out HD.out.2.2.2.1 rfl).mono ?_
      rintro e w6 ⟨g, c, rfl, hown, hcells, hm6, hg⟩
      have hLd' : (d'.last (Q : Int).toNat) = d'.last Q := rfl
      rw [hLd'] at hown hcells
      have hLd : (d'.last Q).length = 256 := by
        have := hown.1
        rw [bv_length] at this; omega
      obtain ⟨y, hy⟩ : ∃ y, (d'.last Q)[r]? = some y := ⟨_, List.getElem?_eq_getElem (by omega)⟩
      have hcr := hcells r (.int .u8 ((y.toNat : Nat) : Int)) (by rw [bv_get?, hy]; rfl)
      have hcx6 := hm6.cell hcx (fun f => f)
      obtain ⟨hfz, hcap⟩ : w6.frozen? ⟨g, r, none⟩ = false ∧ 256 ≤ c := by
        obtain ⟨hl, ⟨hv, _⟩ | ⟨g', cap, cur, hv, hg, hh, hnc, hcm, hsz, htk⟩⟩ := hown
        · cases hv
        · cases hv
          exact ⟨frozen_of r hh, hnc⟩
      have HO6 := Lib.hid hown
      have HM6 := Lib.hid hm6
      have HG6 := Lib.hid hg
      have hyb := UInt8.toNat_lt y
      have hxb := UInt8.toNat_lt x
      have hri : (r : Int) < 256 := by omega
      have hi2 : (i : Int) < (len2 : Int) := by omega
      obtain ⟨V, hV⟩ : ∃ V : UInt8, bits .xor .u8 ((y.toNat : Nat) : Int) ((x.toNat : Nat) : Int) = ((V.toNat : Nat) : Int) := by
        have h1 := bits_lo_u8 .xor ((y.toNat : Nat) : Int) ((x.toNat : Nat) : Int)
        have h2 := bits_hi_u8 .xor ((y.toNat : Nat) : Int) ((x.toNat : Nat) : Int)
        refine ⟨UInt8.ofNat (bits .xor .u8 ((y.toNat : Nat) : Int) ((x.toNat : Nat) : Int)).toNat, ?_⟩
        rw [UInt8.toNat_ofNat_of_lt' (by have : UInt8.size = 256 := rfl; omega)]
        omega
      clear hown hcells hm6 hg hLd' hy
      generalize y.toNat = yv at *
      generalize x.toNat = xv at *
      go_wp2_with fail
      go_upto_region 16 with fail
      -- REGION 16
      have HTM := Lib.hid (show (P : Int).tmod 256 = (r : Int) by rw [Int.tmod_eq_emod_of_nonneg hP0]; exact hrI)
      have hS0 : w6.drew.cell? ⟨g, r, none⟩ = some (.int .u8 (yv : Int)) ∧ w6.drew.cell? ⟨xb, xo + i, none⟩ = some (.int .u8 (xv : Int)) ∧ w6.drew.frozen? ⟨g, r, none⟩ = false := ⟨hcr, hcx6, hfz⟩
      refine wp_region_T (fun w' => w'.cell? ⟨g, r, none⟩ = some (.int .u8 (yv : Int)) ∧ w'.cell? ⟨xb, xo + i, none⟩ = some (.int .u8 (xv : Int)) ∧ w'.frozen? ⟨g, r, none⟩ = false) 11 (by kernel_rfl) ?_
      refine wpAnyT_take 0 (some 73) ?_ rfl rfl (by kernel_rfl) (fun _ _ _ h => h) hS0 (Or.inl ⟨by rfl, ?_⟩) ?_
      rotate_left
      · (intro w' hSw; (try dsimp only at hSw); go_simp; try with_reducible rfl)
      simp only [Act.put, List.setIfInBounds_toArray, List.set_cons_zero, List.set_cons_succ]
      refine wpAnyT_take 1 (some 74) ?_ rfl rfl (by kernel_rfl) (fun _ _ _ h => h) hS0 (Or.inl ⟨by rfl, ?_⟩) ?_
      rotate_left
      · (intro w' hSw; (try dsimp only at hSw); go_simp; try with_reducible rfl)
      simp only [Act.put, List.setIfInBounds_toArray, List.set_cons_zero, List.set_cons_succ]
      refine wpAnyT_take 2 (some 75) (.int .i64 (r : Int)) rfl rfl (by kernel_rfl) (fun _ _ _ h => h) hS0 (Or.inl ⟨by rfl, ?_⟩) ?_
      · (intro w' hSw; go_simp; rw [HTM.out])
      simp only [Act.put, List.setIfInBounds_toArray, List.set_cons_zero, List.set_cons_succ]
      refine wpAnyT_take 3 (some 76) ?_ rfl rfl (by kernel_rfl) (fun _ _ _ h => h) hS0 (Or.inl ⟨by rfl, ?_⟩) ?_
      rotate_left
      · (intro w' hSw; (try dsimp only at hSw); go_simp; try with_reducible rfl)
      simp only [Act.put, List.setIfInBounds_toArray, List.set_cons_zero, List.set_cons_succ]
      refine wpAnyT_take 4 (some 77) ?_ rfl rfl (by kernel_rfl) (fun _ _ _ h => h) hS0 (Or.inl ⟨by rfl, ?_⟩) ?_
      rotate_left
      · (intro w' hSw; (try dsimp only at hSw); go_simp; try with_reducible rfl)
      simp only [Act.put, List.setIfInBounds_toArray, List.set_cons_zero, List.set_cons_succ]
      refine wpAnyT_take 5 (some 78) ?_ rfl rfl (by kernel_rfl) (fun _ _ _ h => h) hS0 (Or.inl ⟨by rfl, ?_⟩) ?_
      rotate_left
      · (intro w' hSw; (try dsimp only at hSw); go_simp; try with_reducible rfl)
      simp only [Act.put, List.setIfInBounds_toArray, List.set_cons_zero, List.set_cons_succ]
      refine wpAnyT_take 6 (some 79) ?_ rfl rfl (by kernel_rfl) (fun _ _ _ h => h) hS0 (Or.inl ⟨by rfl, ?_⟩) ?_
      rotate_left
      · (intro w' hSw; (try dsimp only at hSw); go_simp; try with_reducible rfl)
      simp only [Act.put, List.setIfInBounds_toArray, List.set_cons_zero, List.set_cons_succ]
      refine wpAnyT_take 7 (some 80) ?_ rfl rfl (by kernel_rfl) (fun _ _ _ h => h) hS0 (Or.inl ⟨by rfl, ?_⟩) ?_
      rotate_left
      · (intro w' hSw; (try dsimp only at hSw); go_simp; try with_reducible rfl)
      simp only [Act.put, List.setIfInBounds_toArray, List.set_cons_zero, List.set_cons_succ]
      refine wpAnyT_take 8 (some 81) ?_ rfl rfl (by kernel_rfl) (fun _ _ _ h => h) hS0 (Or.inl ⟨by rfl, ?_⟩) ?_
      rotate_left
      · (intro w' hSw; (try dsimp only at hSw); go_simp; try with_reducible rfl)
      simp only [Act.put, List.setIfInBounds_toArray, List.set_cons_zero, List.set_cons_succ]
      refine wpAnyT_take 9 (some 82) ?_ rfl rfl (by kernel_rfl) (fun _ _ _ h => h) hS0 (Or.inl ⟨by rfl, ?_⟩) ?_
      rotate_left
      · (intro w' hSw; (try dsimp only at hSw); go_simp; try with_reducible rfl)
      simp only [Act.put, List.setIfInBounds_toArray, List.set_cons_zero, List.set_cons_succ]
      refine wpAnyT_take 10 (some 83) ?_ rfl rfl (by kernel_rfl) (fun _ _ _ h => h) hS0 (Or.inl ⟨by rfl, ?_⟩) ?_
      rotate_left
      · (intro w' hSw; (try dsimp only at hSw); go_simp; try with_reducible rfl)
      simp only [Act.put, List.setIfInBounds_toArray, List.set_cons_zero, List.set_cons_succ]
      refine wpAnyT_one 11 rfl (by kernel_rfl) rfl ?_
      intro K hK
      obtain ⟨hcr', hcx', hfz'⟩ := hS0
      go_simp
      show K _ _
      refine hK.out _ _ (fun h => absurd rfl h) ?_
      clear hK K
      refine wpAnyT_done (by kernel_rfl) ?_ _
      -- REGION 16 END
      try rw [hV]
      have hm67 : Mod (fun q => q = g) w6 (w6.setCell ⟨g, r, none⟩ (.int .u8 ((V.toNat : Nat) : Int))).drew := ((Mod.refl (fun q => q = g) w6).setCell (fun _ => rfl) _).drew
      have hsl := (own_set (w := w6) HO6.out hr256 V).keep (S := No) (Mod.refl No _).drew (fun _ _ _ f => f.elim)
      have hgo : ∀ q, Own3 b sb' mb' q → q ≠ g := fun q e => by have := HD.out.1.lt e; have := HG6.out; omega
      have hd7 := (HD.out.1.avoid.stay HM6.out).keep hm67 (hgo _ (.inl rfl)) (hgo _ (.inr (.inl rfl))) (hgo _ (.inr (.inr rfl))) (fun q e => .inl (.inr (by subst e; exact HG6.out)))
      have hd7 := hd7.shrink (Y := No) (fun _ _ f => f.elim)
      have HM7 := Lib.hid ((HD.out.2.2.2.2.2.trans HM6.out).then hm67 (fun q hq e => by have := HG6.out; have := HD.out.2.2.2.2.2.size; omega))
      have hll : ((d'.last Q).set r V).length = 256 := by rw [List.length_set]; exact hLd
      have HW := write_any No No b sb' mb' d' (Q : Int) (.slice (some ⟨g, 0, none⟩) 256 c) ((d'.last Q).set r V) _ hd7 (by rw [hll]; exact hsl) (by rw [hll]; omega) (fun _ f => f.elim)
      have HWW := Lib.hid (Dk.write_well (i := Q) (l := (d'.last Q).set r V) HD.out.2.1 (by rw [HD.out.2.2.1]; exact hQ60) (by rw [hll, HD.out.2.2.2.1]))
      have HW := Lib.hid HW
      clear hm67 hsl hgo hd7 hll hLd hcr hfz hcx6 hV
      go_wp2_with fail
      with_reducible refine HW.out.mono ?_
      rintro e w8 ⟨rfl, hd8, hm8⟩
      have HI8 := Lib.hid (show FgInv w w8 b from ⟨sb', mb', _, hd8, HWW.out.1, by rw [HWW.out.2.1]; exact HD.out.2.2.1, by rw [HWW.out.2.2.1]; exact HD.out.2.2.2.1, HD.out.2.2.2.2.1, HM7.out.then hm8 (fun q hq e => by have := HD.out.2.2.2.2.1 q (own2_own3 q e); omega)⟩)
      clear hd8 hm8 HW
      generalize Dk.writeE _ _ _ = ee
      go_wp2_with fail
      exact ⟨⟨i + 1, by omega, by go_num, HI8.out⟩, by go_light; simp only [intOf]; omega⟩
    · have hil : i = len1 := by omega
      subst hil
      have HF := Lib.hid (flush_any No b sb' mb' d' wr HD.out.1)
      go_wp2_with fail
      with_reducible refine HF.out.mono ?_
      rintro e w6 ⟨rfl, hd6, hm6⟩
      have f := Dk.flush_well d' HD.out.2.1
      have HM6 := Lib.hid (HD.out.2.2.2.2.2.then hm6 (fun q hq e => by have := HD.out.2.2.2.2.1 q e; omega))
      have HOP := Lib.hid (wopen_any (by rw [f.2.1, HD.out.2.2.1]; decide) (by rw [f.2.2.1, HD.out.2.2.2.1]; decide) f.1 hd6)
      clear hd6 hm6 f HF
      generalize d'.flushE = ee
      go_wp2_with fail
      with_reducible refine HOP.out.mono ?_
      rintro e w7 ⟨p7, ub7, v7, L7, rfl, -, hr7, -, -, -, hm7, -, -⟩
      obtain ⟨a7, c7, rfl⟩ := (hr7.recs (X := No) (fun _ _ f => f)).len
      have HM7 := Lib.hid (HM6.out.trans hm7)
      clear hr7 hm7 HOP
      generalize L7.all.length = n7
      go_wp2_with fail
      exact fin hR ⟨rfl, HM7.out⟩

end Go.Proofs.Ytnchclleiccofaa
