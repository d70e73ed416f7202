/-
  The law DiskPlays: its switch: write. No statement is proved here; no condition.
-/
import Derived.Test.YtjmnpfbinjlegaaPlayW
namespace Go.Proofs.Ytjmnpfbinjlegaa
open Go.RowKit Go.Maps

theorem write_dims (d : Dk) (t : Int) (L : List UInt8) : (d.write t L).n = d.n ∧ (d.write t L).sz = d.sz := by
  unfold Dk.write
  split
  · exact ⟨rfl, rfl⟩
  · split
    · exact ⟨rfl, rfl⟩
    · exact ⟨rfl, rfl⟩

noncomputable def wr5 : Code := (wayAt 24 body5).getD .skip
/-- What follows the filling of a write's bytes. -/
noncomputable def end5 : Code := (behind 5 body5).getD .skip

set_option maxRecDepth 100000 in
set_option maxHeartbeats 4000000 in
theorem end_any (w0 w : World) (b sb mb q lb sm fb : Nat) (d : Dk) (va vi : Value) (t : Int) (x g : Nat) (an : Int) (L : List UInt8) (f : Act) (hpl : Pl w0 w b sb mb q lb sm fb d d) (hg : w.heap[g]? = some (.cells (bv L).toArray 5 (0, 0))) (hL : L.length = d.sz)
    (hx2 : w.cell? ⟨x, 2, none⟩ = some (.int .i64 an)) (ht : -1 ≤ t ∧ t ≤ (d.n : Int))
    (hF : Fr 344 [(2, va), (7, .pointer (some ⟨b, 0, none⟩)), (8, .pointer (some ⟨q, 0, none⟩)), (10, vi), (11, .pointer (some ⟨x, 0, none⟩)), (12, .int .i64 t), (13, .bool (decide (0 ≤ t) && decide (t < (d.n : Int)))), (14, .slice (some ⟨g, 0, none⟩) d.sz d.sz)] f) :
    Code.wp Try.prog end5 (Exit.then (Sw w0 q lb sm fb d.n d.sz va vi t) Nope) f w := by
  refine wp_part fun J K' hJ hK => ?_
  obtain ⟨ts, ds⟩ := f
  obtain ⟨hsz, hds, hs2, hs7, hs8, hs10, hs11, hs12, hs13, hs14, -⟩ := hF
  dsimp only at hsz hds hs2 hs7 hs8 hs10 hs11 hs12 hs13 hs14
  subst hds
  obtain ⟨c, rfl, hc⟩ := lit344 ts hsz
  rw [hc] at hs2
  rw [hc] at hs7
  rw [hc] at hs8
  rw [hc] at hs10
  rw [hc] at hs11
  rw [hc] at hs12
  rw [hc] at hs13
  rw [hc] at hs14
  simp only [hs2, hs7, hs8, hs10, hs11, hs12, hs13, hs14]
  clear hc hsz hs2 hs7 hs8 hs10 hs11 hs12 hs13 hs14

  have HJ := Lib.hid hJ
  have HP := Lib.hid hpl
  have hz1 : 64 ≤ d.sz := hpl.m.s1
  have hz2 : d.sz ≤ 4096 := hpl.m.s2
  have HG := Lib.hid hg
  have HL := Lib.hid hL
  have HW := Lib.hid (write_any No No b sb mb d t)
  have hbd := ht
  clear hJ hpl hg hL ht
  generalize hin : (decide (0 ≤ t) && decide (t < (d.n : Int))) = inn at *
  have HIN := Lib.hid hin
  clear hin
  by_cases hs : an.tmod 7 = 0
  · have hsb : (an.tmod 7 == 0) = true := by simpa using hs
    have hll : (L.drop 1).length = d.sz - 1 := by rw [List.length_drop, HL.out]
    have hsl : Sl w No 5 (.slice (some ⟨g, 1, none⟩) (d.sz - 1) (d.sz - 1)) (L.drop 1).length (bv (L.drop 1)) := by
      have hrow : Sl w No 5 (.slice (some ⟨g, 0, none⟩) d.sz d.sz) d.sz (bv L) := row_sl HG.out HL.out (by omega)
      have := hrow.dropN (m := 1) (by simp [bv, HL.out]) (by omega)
      rw [hll]
      simpa [bv, show ¬ d.sz = 1 by omega] using this
    have SL := Lib.hid hsl
    have HLL := Lib.hid hll
    have hz3 : (1 : Int) ≤ (d.sz : Int) := by omega
    clear hll hsl
    clear hs
    conv => arg 2; whnf
    go_upto_block 7 with fail
    refine wp_only (blk7_any w0 w b sb mb q lb sm fb d va vi (.slice (some ⟨g, 1, none⟩) (d.sz - 1) (d.sz - 1)) t _ (L.drop 1) HP.out SL.out (by have := HLL.out; omega) ⟨rfl, rfl, rfl, rfl, rfl, rfl, rfl, by rw [HIN.out]; rfl, rfl, rfl, trivial⟩) ?_
    rintro a' w' ⟨⟨hp1, hm1⟩, hF1⟩
    obtain ⟨ts, ds⟩ := a'
    obtain ⟨hsz, hds, hs2, hs7, hs8, hs10, hs12, hs13, hs14, hs16, -⟩ := hF1
    dsimp only at hsz hds hs2 hs7 hs8 hs10 hs12 hs13 hs14 hs16
    subst hds
    obtain ⟨c, rfl, hc⟩ := lit344 ts hsz
    rw [hc] at hs2
    rw [hc] at hs7
    rw [hc] at hs8
    rw [hc] at hs10
    rw [hc] at hs12
    rw [hc] at hs13
    rw [hc] at hs14
    rw [hc] at hs16
    simp only [hs2, hs7, hs8, hs10, hs12, hs13, hs14, hs16]
    clear hc hsz hs2 hs7 hs8 hs10 hs12 hs13 hs14 hs16

    have hs1 := SL.out.keep hm1 fun k cur fz s _ hx => HP.out.m.not_bytes s cur fz hx
    have HC := Lib.hid (HW.out _ _ w' hp1.d hs1 (by have := HLL.out; omega) (fun _ f => f.elim))
    have P1 := Lib.hid hp1
    clear hp1 hm1 hs1 hx2 HG HW
    go_wp2_with fail
    refine HC.out.mono ?_
    clear HC
    rintro e w2 ⟨rfl, hd2, hm2⟩
    have P2 := Lib.hid (P1.out.disk hd2 (hm2.weaken fun k _ e => own2_own3 k e))
    clear hd2 hm2 P1
    go_wp2_with fail
    exact Met.intro (HJ.out _ _ ⟨_, _, _, _, (write_dims d t _).1, (write_dims d t _).2, P2.out, rfl, rfl, rfl, rfl, rfl, rfl, rfl, by rw [HIN.out]; rfl, trivial⟩)
  · have hsb : (an.tmod 7 == 0) = false := by simpa using hs
    have SL := Lib.hid (show Sl w No 5 (.slice (some ⟨g, 0, none⟩) d.sz d.sz) L.length (bv L) from HL.out.symm ▸ row_sl HG.out HL.out (by omega))
    have HLL := HL
    clear hs
    conv => arg 2; whnf
    go_upto_block 7 with fail
    refine wp_only (blk7_any w0 w b sb mb q lb sm fb d va vi (.slice (some ⟨g, 0, none⟩) d.sz d.sz) t _ L HP.out SL.out (by have := HLL.out; omega) ⟨rfl, rfl, rfl, rfl, rfl, rfl, rfl, by rw [HIN.out]; rfl, rfl, rfl, trivial⟩) ?_
    rintro a' w' ⟨⟨hp1, hm1⟩, hF1⟩
    obtain ⟨ts, ds⟩ := a'
    obtain ⟨hsz, hds, hs2, hs7, hs8, hs10, hs12, hs13, hs14, hs16, -⟩ := hF1
    dsimp only at hsz hds hs2 hs7 hs8 hs10 hs12 hs13 hs14 hs16
    subst hds
    obtain ⟨c, rfl, hc⟩ := lit344 ts hsz
    rw [hc] at hs2
    rw [hc] at hs7
    rw [hc] at hs8
    rw [hc] at hs10
    rw [hc] at hs12
    rw [hc] at hs13
    rw [hc] at hs14
    rw [hc] at hs16
    simp only [hs2, hs7, hs8, hs10, hs12, hs13, hs14, hs16]
    clear hc hsz hs2 hs7 hs8 hs10 hs12 hs13 hs14 hs16

    have hs1 := SL.out.keep hm1 fun k cur fz s _ hx => HP.out.m.not_bytes s cur fz hx
    have HC := Lib.hid (HW.out _ _ w' hp1.d hs1 (by have := HLL.out; omega) (fun _ f => f.elim))
    have P1 := Lib.hid hp1
    clear hp1 hm1 hs1 hx2 HG HW
    go_wp2_with fail
    refine HC.out.mono ?_
    clear HC
    rintro e w2 ⟨rfl, hd2, hm2⟩
    have P2 := Lib.hid (P1.out.disk hd2 (hm2.weaken fun k _ e => own2_own3 k e))
    clear hd2 hm2 P1
    go_wp2_with fail
    exact Met.intro (HJ.out _ _ ⟨_, _, _, _, (write_dims d t _).1, (write_dims d t _).2, P2.out, rfl, rfl, rfl, rfl, rfl, rfl, rfl, by rw [HIN.out]; rfl, trivial⟩)

theorem u8_fill (x : UInt8) (k : Nat) : (((x + UInt8.ofNat k).toNat : Nat) : Int) = ((x.toNat : Int) + (k : Int)) % 256 := by
  rw [UInt8.toNat_add]
  simp

/-- The bytes of a write, k of them filled in. -/
def fillL (x : UInt8) (n k : Nat) : List UInt8 := (List.range n).map fun i => if i < k then x + UInt8.ofNat i else 0

theorem fillL_len (x : UInt8) (n k : Nat) : (fillL x n k).length = n := by simp [fillL]
theorem fillL_zero (x : UInt8) (n : Nat) : fillL x n 0 = List.replicate n 0 := by
  apply List.ext_getElem
  · simp [fillL]
  · intro i h1 h2; simp [fillL]
theorem fillL_succ (x : UInt8) (n k : Nat) (_ : k < n) : (bv (fillL x n k)).toArray.setIfInBounds k (.int .u8 (((x + UInt8.ofNat k).toNat : Nat) : Int)) = (bv (fillL x n (k + 1))).toArray := by
  apply Array.ext
  · simp [bv, fillL]
  · intro i h1 h2
    have hi : i < n := by simpa [bv, fillL] using h2
    rw [Array.getElem_setIfInBounds (by simpa [bv, fillL] using hi)]
    by_cases e : k = i
    · subst e; simp [bv, fillL]
    · rw [if_neg e]
      simp only [bv, fillL, List.getElem_toArray, List.getElem_map, List.getElem_range]
      by_cases e2 : i < k
      · rw [if_pos e2, if_pos (by omega)]
      · rw [if_neg e2, if_neg (by omega)]


noncomputable def blk5 : Code := (blockAt 5 body5).getD .skip

set_option maxRecDepth 100000 in
set_option maxHeartbeats 4000000 in
theorem blk5_any (w : World) (b q g x n : Nat) (ax : UInt8) (va vi vt vn : Value) (f : Act) (hg : w.heap[g]? = some (.cells (bv (fillL ax n 0)).toArray 5 (0, 0))) (hx : w.cell? ⟨x, 6, none⟩ = some (.int .u8 (ax.toNat : Int))) (hgx : x ≠ g) (hn : n ≤ 4096)
    (hF : Fr 344 [(2, va), (7, .pointer (some ⟨b, 0, none⟩)), (8, .pointer (some ⟨q, 0, none⟩)), (10, vi), (11, .pointer (some ⟨x, 0, none⟩)), (12, vt), (13, vn), (14, .slice (some ⟨g, 0, none⟩) n n), (15, .int .i64 0)] f) :
    Code.wp Try.prog blk5 (Exit.then (fun a' w' => (w'.heap[g]? = some (.cells (bv (fillL ax n n)).toArray 5 (0, 0)) ∧ Mod (· = g) w w') ∧ Fr 344 [(2, va), (7, .pointer (some ⟨b, 0, none⟩)), (8, .pointer (some ⟨q, 0, none⟩)), (10, vi), (11, .pointer (some ⟨x, 0, none⟩)), (12, vt), (13, vn), (14, .slice (some ⟨g, 0, none⟩) n n)] a') Nope) f w := by
  refine wp_part fun J K' hJ hK => ?_
  obtain ⟨ts, ds⟩ := f
  obtain ⟨hsz, hds, hs2, hs7, hs8, hs10, hs11, hs12, hs13, hs14, hs15, -⟩ := hF
  dsimp only at hsz hds hs2 hs7 hs8 hs10 hs11 hs12 hs13 hs14 hs15
  subst hds
  obtain ⟨c, rfl, hc⟩ := lit344 ts hsz
  rw [hc] at hs2
  rw [hc] at hs7
  rw [hc] at hs8
  rw [hc] at hs10
  rw [hc] at hs11
  rw [hc] at hs12
  rw [hc] at hs13
  rw [hc] at hs14
  rw [hc] at hs15
  simp only [hs2, hs7, hs8, hs10, hs11, hs12, hs13, hs14, hs15]
  clear hc hsz hs2 hs7 hs8 hs10 hs11 hs12 hs13 hs14 hs15

  have HJ := Lib.hid hJ
  have HG := Lib.hid hg
  clear hJ hg
  conv => arg 2; whnf
  go_wp2_with fail
  go_loopw [15] (fun i wr => ∃ k : Nat, k ≤ n ∧ i = .int .i64 k ∧ wr.heap[g]? = some (.cells (bv (fillL ax n k)).toArray 5 (0, 0)) ∧ Mod (· = g) w wr) (fun i _ => n - (intOf i).toNat)
  case atStart => exact ⟨0, by omega, rfl, HG.out, Mod.refl _ _⟩
  case round =>
    obtain ⟨k, hk, rfl, hg, hm⟩ := hrel
    have hk0 : (0 : Int) ≤ (k : Int) := Int.natCast_nonneg _
    have x6 := hm.cell hx hgx
    have HM := Lib.hid hm
    have HGK := Lib.hid hg
    by_cases hlt : k < n
    · have hk1 : (k : Int) < (n : Int) := by omega
      have hki : ∃ v, (bv (fillL ax n k)).toArray[k]? = some v := ⟨_, Array.getElem?_eq_getElem (by simp [bv, fillL_len, hlt])⟩
      obtain ⟨v, hv⟩ := hki
      have cg := cell_ofA hg hv
      have fg := frozen_of k hg
      clear hv hg hm hx
      go_wp2_with fail
      rw [← u8_fill]
      exact ⟨⟨k + 1, by omega, by go_num, by rw [heap_setCell HGK.out, fillL_succ ax n k hlt], HM.out.setCell (fun _ => rfl) _⟩, by go_light; simp only [intOf]; omega⟩
    · have hkn : k = n := by omega
      subst hkn
      clear hg hm hx
      go_wp2_with fail
      exact Met.intro (HJ.out _ _ ⟨⟨HGK.out, HM.out⟩, rfl, rfl, rfl, rfl, rfl, rfl, rfl, rfl, rfl, rfl, trivial⟩)

set_option maxRecDepth 100000 in
set_option maxHeartbeats 4000000 in
theorem wr_any (w0 w : World) (b sb mb q lb sm fb : Nat) (d : Dk) (x : Nat) (av : ActV) (va vi : Value) (t : Int) (f : Act) (h : Sx w0 w b sb mb q lb sm fb d x av va vi t f)  :
    Code.wp Try.prog wr5 (Exit.then (Sw w0 q lb sm fb d.n d.sz va vi t) Nope) f w := by
  refine wp_part fun J K' hJ hK => ?_
  obtain ⟨hpl, hx, ox1, ox2, hF, hkp, hav⟩ := h
  obtain ⟨ts, ds⟩ := f
  obtain ⟨hsz, hds, hs2, hs7, hs8, hs10, hs11, hs12, hs13, hs129, -⟩ := hF
  dsimp only at hsz hds hs2 hs7 hs8 hs10 hs11 hs12 hs13 hs129
  subst hds
  obtain ⟨c, rfl, hc⟩ := lit344 ts hsz
  rw [hc] at hs2
  rw [hc] at hs7
  rw [hc] at hs8
  rw [hc] at hs10
  rw [hc] at hs11
  rw [hc] at hs12
  rw [hc] at hs13
  rw [hc] at hs129
  simp only [hs2, hs7, hs8, hs10, hs11, hs12, hs13, hs129]
  clear hc hsz hs2 hs7 hs8 hs10 hs11 hs12 hs13 hs129

  obtain ⟨wh, ai, an, keep, torn, at_, ax⟩ := av
  dsimp only at hx hkp 
  have HJ := Lib.hid hJ
  have HP := Lib.hid hpl
  have hn1 : 1 ≤ d.n := hpl.m.n1
  have hn2 : d.n ≤ 4096 := hpl.m.n2
  have hz1 : 64 ≤ d.sz := hpl.m.s1
  have hz2 : d.sz ≤ 4096 := hpl.m.s2
  obtain ⟨lc, sc, fc, nn, (ho : w.heap[q]? = some (.cells #[.slice (some ⟨lb, 0, none⟩) d.n lc, .slice (some ⟨sm, 0, none⟩) d.n sc, .slice (some ⟨fb, 0, none⟩) d.n fc, .bool d.dead, .bool (decide (d.cut ≠ -1)), .int .i64 nn] 48 (0, 0))), hnn, hcaps⟩ := hpl.m.obj
  have x0 := cell_of (i := 0) hx rfl
  have x1 := cell_of (i := 1) hx rfl
  have x2 := cell_of (i := 2) hx rfl
  have x3 := cell_of (i := 3) hx rfl
  have x4 := cell_of (i := 4) hx rfl
  have x5 := cell_of (i := 5) hx rfl
  have x6 := cell_of (i := 6) hx rfl
  have qb : ¬ Own3 b sb mb q := fun e => hpl.off q e (.inl rfl)
  have HX : x < w.heap.size := (Array.getElem?_eq_some_iff.1 hx).1
  clear hJ hpl hx
  generalize hin : (decide (0 ≤ t) && decide (t < (d.n : Int))) = inn at *
  have HIN := Lib.hid hin
  clear hin

  have HZ := Lib.hid (size_ok HP.out.d)
  obtain ⟨ZB, hZB⟩ : ∃ ZB : Array Value, ZB = (bv (List.replicate d.sz 0)).toArray := ⟨_, rfl⟩
  have hmk : ∀ w, (Instr.makeSlice 33 (.int .i64 (d.sz : Int)) (.int .i64 (d.sz : Int))).run Try.prog w = .ok (.slice (some ⟨w.heap.size, 0, none⟩) d.sz d.sz) (w.alloc (.cells ZB 5)) := fun w => by
    rw [hZB, ← madeBytes]
    exact run_make_row' (P := Try.prog) 33 5 (.int .u8 0) 1 Try.underlying33 info_u8 rfl .i64 .i64 d.sz (by omega) (by omega) w
  have HZB := Lib.hid hZB
  have hxw : x < w.heap.size := HX
  clear hZB x0 x1 x3 x4 x5 hnn hcaps qb ox1 ox2 ho hkp
  conv => arg 2; whnf
  go_wp2_with fail
  refine HZ.out.mono ?_
  clear HZ
  rintro e w' ⟨rfl, rfl⟩
  go_upto_block 5 with fail
  rename_i K1 hK1
  have hm1 : Mod No w (w.alloc (.cells ZB 5)) := (Mod.refl No w).alloc _
  have hg : (w.alloc (.cells ZB 5)).heap[w.heap.size]? = some (.cells (bv (fillL ax d.sz 0)).toArray 5 (0, 0)) := by
    rw [fillL_zero, ← HZB.out]; exact heap_at_new w _ rfl
  have hxg : x ≠ w.heap.size := by omega
  generalize w.alloc (.cells ZB 5) = w1 at *
  have y6 := hm1.cell x6 (fun f => f)
  have y2 := hm1.cell x2 (fun f => f)
  refine wp_only (blk5_any w1 b q w.heap.size x d.sz ax va vi _ _ _ hg y6 hxg hz2 ⟨rfl, rfl, rfl, rfl, rfl, rfl, rfl, rfl, rfl, rfl, rfl, trivial⟩) ?_
  rintro a' w' ⟨⟨hg2, hm2⟩, hF2⟩
  have hm3 : Mod No w w' := hm1.then hm2 fun i hi e => by omega
  refine hK1 _ _ ?_
  have z2 := hm2.cell y2 hxg
  exact wp_only (end_any w0 w' b sb mb q lb sm fb d va vi t x w.heap.size an (fillL ax d.sz d.sz) a' (HP.out.stay hm3) hg2 (fillL_len _ _ _) z2 hav (by rw [HIN.out]; exact hF2)) fun a2 w2 h2 => hK _ _ (Met.intro (HJ.out _ _ h2))


set_option maxRecDepth 100000 in
set_option maxHeartbeats 4000000 in
theorem sw_write0 (w0 w : World) (b sb mb q lb sm fb : Nat) (d : Dk) (x : Nat) (av : ActV) (va vi : Value) (t : Int) (f : Act) (h : Sx w0 w b sb mb q lb sm fb d x av va vi t f) (hw : av.what = 0) :
    Code.wp Try.prog blk4 (Exit.then (Sw w0 q lb sm fb d.n d.sz va vi t) Nope) f w := by

  refine wp_part fun J K' hJ hK => ?_
  have H := wr_any w0 w b sb mb q lb sm fb d x av va vi t
  obtain ⟨hpl, hx, ox1, ox2, hF, hkp, hav⟩ := h
  rw [hw] at hF
  obtain ⟨ts, ds⟩ := f
  obtain ⟨hsz, hds, hs2, hs7, hs8, hs10, hs11, hs12, hs13, hs129, -⟩ := hF
  dsimp only at hsz hds hs2 hs7 hs8 hs10 hs11 hs12 hs13 hs129
  subst hds
  obtain ⟨c, rfl, hc⟩ := lit344 ts hsz
  rw [hc] at hs2
  rw [hc] at hs7
  rw [hc] at hs8
  rw [hc] at hs10
  rw [hc] at hs11
  rw [hc] at hs12
  rw [hc] at hs13
  rw [hc] at hs129
  simp only [hs2, hs7, hs8, hs10, hs11, hs12, hs13, hs129]
  clear hc hsz hs2 hs7 hs8 hs10 hs11 hs12 hs13 hs129

  have HH := Lib.hid fun f' hf => H f' ⟨hpl, hx, ox1, ox2, hf, hkp, hav⟩
  have HW := Lib.hid hw
  clear H hpl hx ox1 ox2 hkp hav hw
  conv => arg 2; whnf
  go_upto_if 130 with fail
  go_step
  go_upto_if 130 with fail
  refine wp_cond_true rfl ?_
  refine wp_way (HH.out _ ⟨rfl, rfl, rfl, rfl, rfl, rfl, rfl, rfl, rfl, by rw [HW.out]; rfl, trivial⟩) ?_
  exact fun a' w' h2 => hK _ _ (Met.intro (hJ _ _ h2))


set_option maxRecDepth 100000 in
set_option maxHeartbeats 4000000 in
theorem sw_write1 (w0 w : World) (b sb mb q lb sm fb : Nat) (d : Dk) (x : Nat) (av : ActV) (va vi : Value) (t : Int) (f : Act) (h : Sx w0 w b sb mb q lb sm fb d x av va vi t f) (hw : av.what = 1) :
    Code.wp Try.prog blk4 (Exit.then (Sw w0 q lb sm fb d.n d.sz va vi t) Nope) f w := by

  refine wp_part fun J K' hJ hK => ?_
  have H := wr_any w0 w b sb mb q lb sm fb d x av va vi t
  obtain ⟨hpl, hx, ox1, ox2, hF, hkp, hav⟩ := h
  rw [hw] at hF
  obtain ⟨ts, ds⟩ := f
  obtain ⟨hsz, hds, hs2, hs7, hs8, hs10, hs11, hs12, hs13, hs129, -⟩ := hF
  dsimp only at hsz hds hs2 hs7 hs8 hs10 hs11 hs12 hs13 hs129
  subst hds
  obtain ⟨c, rfl, hc⟩ := lit344 ts hsz
  rw [hc] at hs2
  rw [hc] at hs7
  rw [hc] at hs8
  rw [hc] at hs10
  rw [hc] at hs11
  rw [hc] at hs12
  rw [hc] at hs13
  rw [hc] at hs129
  simp only [hs2, hs7, hs8, hs10, hs11, hs12, hs13, hs129]
  clear hc hsz hs2 hs7 hs8 hs10 hs11 hs12 hs13 hs129

  have HH := Lib.hid fun f' hf => H f' ⟨hpl, hx, ox1, ox2, hf, hkp, hav⟩
  have HW := Lib.hid hw
  clear H hpl hx ox1 ox2 hkp hav hw
  conv => arg 2; whnf
  go_upto_if 130 with fail
  go_step
  go_upto_if 130 with fail
  go_step
  go_upto_if 130 with fail
  refine wp_cond_true rfl ?_
  refine wp_way (HH.out _ ⟨rfl, rfl, rfl, rfl, rfl, rfl, rfl, rfl, rfl, by rw [HW.out]; rfl, trivial⟩) ?_
  exact fun a' w' h2 => hK _ _ (Met.intro (hJ _ _ h2))


set_option maxRecDepth 100000 in
set_option maxHeartbeats 4000000 in
theorem sw_write2 (w0 w : World) (b sb mb q lb sm fb : Nat) (d : Dk) (x : Nat) (av : ActV) (va vi : Value) (t : Int) (f : Act) (h : Sx w0 w b sb mb q lb sm fb d x av va vi t f) (hw : av.what = 2) :
    Code.wp Try.prog blk4 (Exit.then (Sw w0 q lb sm fb d.n d.sz va vi t) Nope) f w := by

  refine wp_part fun J K' hJ hK => ?_
  have H := wr_any w0 w b sb mb q lb sm fb d x av va vi t
  obtain ⟨hpl, hx, ox1, ox2, hF, hkp, hav⟩ := h
  rw [hw] at hF
  obtain ⟨ts, ds⟩ := f
  obtain ⟨hsz, hds, hs2, hs7, hs8, hs10, hs11, hs12, hs13, hs129, -⟩ := hF
  dsimp only at hsz hds hs2 hs7 hs8 hs10 hs11 hs12 hs13 hs129
  subst hds
  obtain ⟨c, rfl, hc⟩ := lit344 ts hsz
  rw [hc] at hs2
  rw [hc] at hs7
  rw [hc] at hs8
  rw [hc] at hs10
  rw [hc] at hs11
  rw [hc] at hs12
  rw [hc] at hs13
  rw [hc] at hs129
  simp only [hs2, hs7, hs8, hs10, hs11, hs12, hs13, hs129]
  clear hc hsz hs2 hs7 hs8 hs10 hs11 hs12 hs13 hs129

  have HH := Lib.hid fun f' hf => H f' ⟨hpl, hx, ox1, ox2, hf, hkp, hav⟩
  have HW := Lib.hid hw
  clear H hpl hx ox1 ox2 hkp hav hw
  conv => arg 2; whnf
  go_upto_if 130 with fail
  go_step
  go_upto_if 130 with fail
  go_step
  go_upto_if 130 with fail
  refine wp_cond_true rfl ?_
  refine wp_way (HH.out _ ⟨rfl, rfl, rfl, rfl, rfl, rfl, rfl, rfl, rfl, by rw [HW.out]; rfl, trivial⟩) ?_
  exact fun a' w' h2 => hK _ _ (Met.intro (hJ _ _ h2))

end Go.Proofs.Ytjmnpfbinjlegaa
