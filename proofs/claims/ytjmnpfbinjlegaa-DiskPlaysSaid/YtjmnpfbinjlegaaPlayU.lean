/-
  The law DiskPlays: its switch: cut, crash, copy, any other act. No statement is proved here; no condition.
-/
import Derived.Test.YtjmnpfbinjlegaaPlayT
namespace Go.Proofs.Ytjmnpfbinjlegaa
open Go.RowKit Go.Maps

theorem MdAt.lt {w : World} {q lb sb fb : Nat} {d : Dk} (h : MdAt w q lb sb fb d) {k : Nat} (hk : Own4 q lb sb fb k) : k < w.heap.size := by
  obtain ⟨_, _, _, _, ho, _⟩ := h.obj
  obtain ⟨_, hl⟩ := h.l
  obtain ⟨_, hs⟩ := h.s
  obtain ⟨_, hf⟩ := h.f
  have hl := hl.heap
  have hs := hs.heap
  have hf := hf.heap
  rcases hk with r | r | r | r <;> subst r
  · exact (Array.getElem?_eq_some_iff.1 ho).1
  · exact (Array.getElem?_eq_some_iff.1 hl).1
  · exact (Array.getElem?_eq_some_iff.1 hs).1
  · exact (Array.getElem?_eq_some_iff.1 hf).1

/-- Ahead of the switch. -/
structure Sx (w0 w : World) (b sb mb q lb sm fb : Nat) (d : Dk) (x : Nat) (a : ActV) (va vi : Value) (t : Int) (f : Act) : Prop where
  pl : Pl w0 w b sb mb q lb sm fb d d
  hx : w.heap[x]? = some (.cells #[.int .i64 a.what, .int .i64 a.i, .int .i64 a.n, .int .u64 (a.keep : Int), .int .i64 a.torn, .int .i64 a.at_, .int .u8 (a.x.toNat : Int)] 50 (0, 0))
  offD : ¬ Own3 b sb mb x
  offM : ¬ Own4 q lb sm fb x
  fr : Fr 344 [(2, va), (7, .pointer (some ⟨b, 0, none⟩)), (8, .pointer (some ⟨q, 0, none⟩)), (10, vi), (11, .pointer (some ⟨x, 0, none⟩)), (12, .int .i64 t), (13, .bool (decide (0 ≤ t) && decide (t < (d.n : Int)))), (129, .int .i64 a.what)] f
  keep : a.keep < 18446744073709551616
  t : -1 ≤ t ∧ t ≤ (d.n : Int)

set_option maxRecDepth 100000 in
set_option maxHeartbeats 4000000 in
theorem sw_other (w0 w : World) (b sb mb q lb sm fb : Nat) (d : Dk) (x : Nat) (av : ActV) (va vi : Value) (t : Int) (f : Act) (h : Sx w0 w b sb mb q lb sm fb d x av va vi t f) (h0 : av.what ≠ 0) (h1 : av.what ≠ 1) (h2 : av.what ≠ 2) (h3 : av.what ≠ 3) (h4 : av.what ≠ 4) (h5 : av.what ≠ 5) (h6 : av.what ≠ 6) :
    Code.wp Try.prog blk4 (Exit.then (Sw w0 q lb sm fb d.n d.sz va vi t) Nope) f w := by
  refine wp_part fun J K' hJ hK => ?_
  obtain ⟨hpl, hx, ox1, ox2, hF, hkp, hav⟩ := h
  obtain ⟨ts, ds⟩ := f
  obtain ⟨hsz, hds, hs2, hs7, hs8, hs10, hs11, hs12, hs13, hs129, -⟩ := hF
  dsimp only at hsz hds hs2 hs7 hs8 hs10 hs11 hs12 hs13 hs129
  subst hds
  obtain ⟨c, rfl, hc⟩ := lit344 ts hsz
  rw [hc] at hs2
  rw [hc] at hs7
  rw [hc] at hs8
  rw [hc] at hs10
  rw [hc] at hs11
  rw [hc] at hs12
  rw [hc] at hs13
  rw [hc] at hs129
  simp only [hs2, hs7, hs8, hs10, hs11, hs12, hs13, hs129]
  clear hc hsz hs2 hs7 hs8 hs10 hs11 hs12 hs13 hs129

  obtain ⟨wh, ai, an, keep, torn, at_, ax⟩ := av
  dsimp only at hx hkp h0 h1 h2 h3 h4 h5 h6
  have HJ := Lib.hid hJ
  have HP := Lib.hid hpl
  have hn1 : 1 ≤ d.n := hpl.m.n1
  have hn2 : d.n ≤ 4096 := hpl.m.n2
  have hz1 : 64 ≤ d.sz := hpl.m.s1
  have hz2 : d.sz ≤ 4096 := hpl.m.s2
  obtain ⟨lc, sc, fc, nn, (ho : w.heap[q]? = some (.cells #[.slice (some ⟨lb, 0, none⟩) d.n lc, .slice (some ⟨sm, 0, none⟩) d.n sc, .slice (some ⟨fb, 0, none⟩) d.n fc, .bool d.dead, .bool (decide (d.cut ≠ -1)), .int .i64 nn] 48 (0, 0))), hnn, hcaps⟩ := hpl.m.obj
  have x0 := cell_of (i := 0) hx rfl
  have x1 := cell_of (i := 1) hx rfl
  have x2 := cell_of (i := 2) hx rfl
  have x3 := cell_of (i := 3) hx rfl
  have x4 := cell_of (i := 4) hx rfl
  have x5 := cell_of (i := 5) hx rfl
  have x6 := cell_of (i := 6) hx rfl
  have qb : ¬ Own3 b sb mb q := fun e => hpl.off q e (.inl rfl)
  have HX : x < w.heap.size := (Array.getElem?_eq_some_iff.1 hx).1
  clear hJ hpl hx
  generalize hin : (decide (0 ≤ t) && decide (t < (d.n : Int))) = inn at *
  have HIN := Lib.hid hin
  clear hin

  have b0 : (wh == 0) = false := by simpa using h0
  have b1 : (wh == 1) = false := by simpa using h1
  have b2 : (wh == 2) = false := by simpa using h2
  have b3 : (wh == 3) = false := by simpa using h3
  have b4 : (wh == 4) = false := by simpa using h4
  have b5 : (wh == 5) = false := by simpa using h5
  have b6 : (wh == 6) = false := by simpa using h6
  clear HX h0 h1 h2 h3 h4 h5 h6 hkp hav hnn hcaps qb ox1 ox2 ho x0 x1 x2 x3 x4 x5 x6
  conv => arg 2; whnf
  go_wp2_with fail
  exact Met.intro (HJ.out _ _ ⟨_, _, _, _, rfl, rfl, HP.out, rfl, rfl, rfl, rfl, rfl, rfl, rfl, by rw [HIN.out]; rfl, trivial⟩)

set_option maxRecDepth 100000 in
set_option maxHeartbeats 4000000 in
theorem sw_cut (w0 w : World) (b sb mb q lb sm fb : Nat) (d : Dk) (x : Nat) (av : ActV) (va vi : Value) (t : Int) (f : Act) (h : Sx w0 w b sb mb q lb sm fb d x av va vi t f) (hw : av.what = 4) :
    Code.wp Try.prog blk4 (Exit.then (Sw w0 q lb sm fb d.n d.sz va vi t) Nope) f w := by
  refine wp_part fun J K' hJ hK => ?_
  obtain ⟨hpl, hx, ox1, ox2, hF, hkp, hav⟩ := h
  obtain ⟨ts, ds⟩ := f
  obtain ⟨hsz, hds, hs2, hs7, hs8, hs10, hs11, hs12, hs13, hs129, -⟩ := hF
  dsimp only at hsz hds hs2 hs7 hs8 hs10 hs11 hs12 hs13 hs129
  subst hds
  obtain ⟨c, rfl, hc⟩ := lit344 ts hsz
  rw [hc] at hs2
  rw [hc] at hs7
  rw [hc] at hs8
  rw [hc] at hs10
  rw [hc] at hs11
  rw [hc] at hs12
  rw [hc] at hs13
  rw [hc] at hs129
  simp only [hs2, hs7, hs8, hs10, hs11, hs12, hs13, hs129]
  clear hc hsz hs2 hs7 hs8 hs10 hs11 hs12 hs13 hs129

  obtain ⟨wh, ai, an, keep, torn, at_, ax⟩ := av
  dsimp only at hx hkp hw
  have HJ := Lib.hid hJ
  have HP := Lib.hid hpl
  have hn1 : 1 ≤ d.n := hpl.m.n1
  have hn2 : d.n ≤ 4096 := hpl.m.n2
  have hz1 : 64 ≤ d.sz := hpl.m.s1
  have hz2 : d.sz ≤ 4096 := hpl.m.s2
  obtain ⟨lc, sc, fc, nn, (ho : w.heap[q]? = some (.cells #[.slice (some ⟨lb, 0, none⟩) d.n lc, .slice (some ⟨sm, 0, none⟩) d.n sc, .slice (some ⟨fb, 0, none⟩) d.n fc, .bool d.dead, .bool (decide (d.cut ≠ -1)), .int .i64 nn] 48 (0, 0))), hnn, hcaps⟩ := hpl.m.obj
  have x0 := cell_of (i := 0) hx rfl
  have x1 := cell_of (i := 1) hx rfl
  have x2 := cell_of (i := 2) hx rfl
  have x3 := cell_of (i := 3) hx rfl
  have x4 := cell_of (i := 4) hx rfl
  have x5 := cell_of (i := 5) hx rfl
  have x6 := cell_of (i := 6) hx rfl
  have qb : ¬ Own3 b sb mb q := fun e => hpl.off q e (.inl rfl)
  have HX : x < w.heap.size := (Array.getElem?_eq_some_iff.1 hx).1
  clear hJ hpl hx
  generalize hin : (decide (0 ≤ t) && decide (t < (d.n : Int))) = inn at *
  have HIN := Lib.hid hin
  clear hin

  subst hw
  have hbq : ¬ q = b := fun e => qb (.inl e)
  have HPL := Lib.hid (place_any an 7 w (by omega) (by omega))
  have m0 := Int.emod_nonneg an (show (7 : Int) ≠ 0 by omega)
  have m1 := Int.emod_lt_of_pos an (show (0 : Int) < 7 by omega)
  have HO := Lib.hid ho
  clear HX x0 x1 x3 x4 x5 x6 hav hkp ox1 ox2 qb hnn ho
  generalize hm : an % 7 = m at *
  clear hm
  conv => arg 2; whnf
  go_wp2_with fail
  refine HPL.out.mono ?_
  clear HPL
  rintro e w1 ⟨rfl, rfl⟩
  have HC := Lib.hid (cut_ok (n := m - 1) HP.out.d (by omega))
  go_wp2_with fail
  refine HC.out.mono ?_
  clear HC
  rintro e w1 ⟨rfl, hd1, hm1⟩
  have hm1' : Mod (Own3 b sb mb) w w1 := hm1.weaken fun _ _ e => .inl e
  have P1 := Lib.hid (HP.out.disk hd1 hm1')
  have ho1 := hm1.keep HO.out hbq
  have c4 := cell_of (i := 4) ho1 rfl
  have f4 := frozen_of 4 ho1
  have q1 := heap_setCell (i := 4) ho1 (.bool true)
  have c5 := cell_of (i := 5) q1 rfl
  have f5 := frozen_of 5 q1
  have q2 := heap_setCell (i := 5) q1 (.int .i64 (max (m - 1) 0))
  have Q2 := Lib.hid q2
  have HCP := Lib.hid hcaps
  clear ho1 q1 q2 hd1 hm1 hm1' hcaps x2 HP
  go_wp2_with fail
  have m2 : Mod (· = q) w1 ((w1.setCell ⟨q, 4, none⟩ (.bool true)).setCell ⟨q, 5, none⟩ (.int .i64 (max (m - 1) 0))) := ((Mod.refl (· = q) w1).setCell (fun _ => rfl) _).setCell (fun _ => rfl) _
  have hmx : -1 ≤ max (m - 1) 0 ∧ max (m - 1) 0 ≤ 9223372036854775807 ∧ max (m - 1) 0 ≠ -1 := by omega
  have hmd := P1.out.m.turned (d' := { d with cut := max (m - 1) 0 }) m2 rfl rfl rfl rfl (by rw [show decide (({ d with cut := max (m - 1) 0 } : Dk).cut ≠ -1) = true from decide_eq_true hmx.2.2]; exact Q2.out) (fun _ => rfl) HCP.out hmx.1 hmx.2.1
  exact Met.intro (HJ.out _ _ ⟨_, _, _, { d with cut := max (m - 1) 0 }, rfl, rfl, P1.out.model hmd (m2.weaken fun _ _ e => .inl e), rfl, rfl, rfl, rfl, rfl, rfl, rfl, by rw [HIN.out]; rfl, trivial⟩)

set_option maxRecDepth 100000 in
set_option maxHeartbeats 4000000 in
theorem sw_crash (w0 w : World) (b sb mb q lb sm fb : Nat) (d : Dk) (x : Nat) (av : ActV) (va vi : Value) (t : Int) (f : Act) (h : Sx w0 w b sb mb q lb sm fb d x av va vi t f) (hw : av.what = 5) :
    Code.wp Try.prog blk4 (Exit.then (Sw w0 q lb sm fb d.n d.sz va vi t) Nope) f w := by
  refine wp_part fun J K' hJ hK => ?_
  obtain ⟨hpl, hx, ox1, ox2, hF, hkp, hav⟩ := h
  obtain ⟨ts, ds⟩ := f
  obtain ⟨hsz, hds, hs2, hs7, hs8, hs10, hs11, hs12, hs13, hs129, -⟩ := hF
  dsimp only at hsz hds hs2 hs7 hs8 hs10 hs11 hs12 hs13 hs129
  subst hds
  obtain ⟨c, rfl, hc⟩ := lit344 ts hsz
  rw [hc] at hs2
  rw [hc] at hs7
  rw [hc] at hs8
  rw [hc] at hs10
  rw [hc] at hs11
  rw [hc] at hs12
  rw [hc] at hs13
  rw [hc] at hs129
  simp only [hs2, hs7, hs8, hs10, hs11, hs12, hs13, hs129]
  clear hc hsz hs2 hs7 hs8 hs10 hs11 hs12 hs13 hs129

  obtain ⟨wh, ai, an, keep, torn, at_, ax⟩ := av
  dsimp only at hx hkp hw
  have HJ := Lib.hid hJ
  have HP := Lib.hid hpl
  have hn1 : 1 ≤ d.n := hpl.m.n1
  have hn2 : d.n ≤ 4096 := hpl.m.n2
  have hz1 : 64 ≤ d.sz := hpl.m.s1
  have hz2 : d.sz ≤ 4096 := hpl.m.s2
  obtain ⟨lc, sc, fc, nn, (ho : w.heap[q]? = some (.cells #[.slice (some ⟨lb, 0, none⟩) d.n lc, .slice (some ⟨sm, 0, none⟩) d.n sc, .slice (some ⟨fb, 0, none⟩) d.n fc, .bool d.dead, .bool (decide (d.cut ≠ -1)), .int .i64 nn] 48 (0, 0))), hnn, hcaps⟩ := hpl.m.obj
  have x0 := cell_of (i := 0) hx rfl
  have x1 := cell_of (i := 1) hx rfl
  have x2 := cell_of (i := 2) hx rfl
  have x3 := cell_of (i := 3) hx rfl
  have x4 := cell_of (i := 4) hx rfl
  have x5 := cell_of (i := 5) hx rfl
  have x6 := cell_of (i := 6) hx rfl
  have qb : ¬ Own3 b sb mb q := fun e => hpl.off q e (.inl rfl)
  have HX : x < w.heap.size := (Array.getElem?_eq_some_iff.1 hx).1
  clear hJ hpl hx
  generalize hin : (decide (0 ≤ t) && decide (t < (d.n : Int))) = inn at *
  have HIN := Lib.hid hin
  clear hin

  subst hw
  have HC := Lib.hid (crash_any No b sb mb d keep torn at_ w HP.out.d hkp (fun _ f => f.elim))
  have HK := Lib.hid hkp
  clear HX x0 x1 x2 x6 hav hkp ox2 qb hnn hcaps ho
  conv => arg 2; whnf
  go_wp2_with fail
  refine HC.out.mono ?_
  clear HC
  rintro e w1 ⟨rfl, hd1, hm1⟩
  have P1 := Lib.hid (HP.out.disk hd1 hm1)
  have y3 := hm1.cell x3 ox1
  have y4 := hm1.cell x4 ox1
  have y5 := hm1.cell x5 ox1
  have HC := Lib.hid (mcrash_any q lb sm fb d keep torn at_ w1 P1.out.m HK.out)
  clear x3 x4 x5 hd1 hm1 HP
  go_wp2_with fail
  refine HC.out.mono ?_
  clear HC
  rintro e w2 ⟨rfl, hd2, hm2⟩
  have P2 := Lib.hid (P1.out.model hd2 hm2)
  clear y3 y4 y5 hd2 hm2 P1
  go_wp2_with fail
  exact Met.intro (HJ.out _ _ ⟨_, _, _, d.crash keep torn at_, rfl, rfl, P2.out, rfl, rfl, rfl, rfl, rfl, rfl, rfl, by rw [HIN.out]; rfl, trivial⟩)

set_option maxRecDepth 100000 in
set_option maxHeartbeats 4000000 in
theorem sw_copy (w0 w : World) (b sb mb q lb sm fb : Nat) (d : Dk) (x : Nat) (av : ActV) (va vi : Value) (t : Int) (f : Act) (h : Sx w0 w b sb mb q lb sm fb d x av va vi t f) (hw : av.what = 6) :
    Code.wp Try.prog blk4 (Exit.then (Sw w0 q lb sm fb d.n d.sz va vi t) Nope) f w := by
  refine wp_part fun J K' hJ hK => ?_
  obtain ⟨hpl, hx, ox1, ox2, hF, hkp, hav⟩ := h
  obtain ⟨ts, ds⟩ := f
  obtain ⟨hsz, hds, hs2, hs7, hs8, hs10, hs11, hs12, hs13, hs129, -⟩ := hF
  dsimp only at hsz hds hs2 hs7 hs8 hs10 hs11 hs12 hs13 hs129
  subst hds
  obtain ⟨c, rfl, hc⟩ := lit344 ts hsz
  rw [hc] at hs2
  rw [hc] at hs7
  rw [hc] at hs8
  rw [hc] at hs10
  rw [hc] at hs11
  rw [hc] at hs12
  rw [hc] at hs13
  rw [hc] at hs129
  simp only [hs2, hs7, hs8, hs10, hs11, hs12, hs13, hs129]
  clear hc hsz hs2 hs7 hs8 hs10 hs11 hs12 hs13 hs129

  obtain ⟨wh, ai, an, keep, torn, at_, ax⟩ := av
  dsimp only at hx hkp hw
  have HJ := Lib.hid hJ
  have HP := Lib.hid hpl
  have hn1 : 1 ≤ d.n := hpl.m.n1
  have hn2 : d.n ≤ 4096 := hpl.m.n2
  have hz1 : 64 ≤ d.sz := hpl.m.s1
  have hz2 : d.sz ≤ 4096 := hpl.m.s2
  obtain ⟨lc, sc, fc, nn, (ho : w.heap[q]? = some (.cells #[.slice (some ⟨lb, 0, none⟩) d.n lc, .slice (some ⟨sm, 0, none⟩) d.n sc, .slice (some ⟨fb, 0, none⟩) d.n fc, .bool d.dead, .bool (decide (d.cut ≠ -1)), .int .i64 nn] 48 (0, 0))), hnn, hcaps⟩ := hpl.m.obj
  have x0 := cell_of (i := 0) hx rfl
  have x1 := cell_of (i := 1) hx rfl
  have x2 := cell_of (i := 2) hx rfl
  have x3 := cell_of (i := 3) hx rfl
  have x4 := cell_of (i := 4) hx rfl
  have x5 := cell_of (i := 5) hx rfl
  have x6 := cell_of (i := 6) hx rfl
  have qb : ¬ Own3 b sb mb q := fun e => hpl.off q e (.inl rfl)
  have HX : x < w.heap.size := (Array.getElem?_eq_some_iff.1 hx).1
  clear hJ hpl hx
  generalize hin : (decide (0 ≤ t) && decide (t < (d.n : Int))) = inn at *
  have HIN := Lib.hid hin
  clear hin

  subst hw
  have HC := Lib.hid (copy_any No b sb mb d w HP.out.d (fun _ f => f.elim))
  clear HX x0 x1 x2 x3 x4 x5 x6 hav hkp ox1 ox2 qb hnn hcaps ho
  conv => arg 2; whnf
  go_wp2_with fail
  refine HC.out.mono ?_
  clear HC
  rintro e w1 ⟨b', sb', mb', rfl, hd1, hm1, h1, h2, h3⟩
  have P1 := Lib.hid (HP.out.stay hm1)
  have D1 := Lib.hid hd1
  have HS := Lib.hid (size_ok P1.out.d)
  obtain ⟨ZB, hZB⟩ : ∃ ZB : Array Value, ZB = (bv (List.replicate d.sz 0)).toArray := ⟨_, rfl⟩
  have hmk : ∀ w, (Instr.makeSlice 33 (.int .i64 (d.sz : Int)) (.int .i64 (d.sz : Int))).run Try.prog w = .ok (.slice (some ⟨w.heap.size, 0, none⟩) d.sz d.sz) (w.alloc (.cells ZB 5)) := fun w => by
    rw [hZB, ← madeBytes]
    exact run_make_row' (P := Try.prog) 33 5 (.int .u8 0) 1 Try.underlying33 info_u8 rfl .i64 .i64 d.sz (by omega) (by omega) w
  have HZB := Lib.hid hZB
  have OLD := Lib.hid HP.out.d
  have PN := Lib.hid HP.out.newD
  have PM := Lib.hid HP.out.newM
  have hsz0 : w0.heap.size ≤ w.heap.size := HP.out.mod.size
  have hD : ∀ y, Own3 b sb mb y → y < w.heap.size := fun y e => HP.out.d.lt e
  have hM : ∀ y, Own4 q lb sm fb y → y < w.heap.size := fun y e => HP.out.m.lt e
  have HSZ0 := Lib.hid hsz0
  have HDL := Lib.hid hD
  have HML := Lib.hid hM
  clear hZB hm1 hd1 hsz0 hD hM HP
  go_wp2_with fail
  refine HS.out.mono ?_
  clear HS
  rintro e w2 ⟨rfl, rfl⟩
  go_wp2_with fail
  obtain ⟨w2, hw2⟩ : ∃ w2, w2 = w1.alloc (.cells ZB 5) := ⟨_, rfl⟩
  rw [← hw2]
  have hm2 : Mod No w1 w2 := by rw [hw2]; exact (Mod.refl No w1).alloc _
  have hh : w2.heap[w1.heap.size]? = some (.cells (bv (List.replicate d.sz 0)).toArray 5 (0, 0)) := by
    rw [hw2, ← HZB.out]; exact heap_at_new w1 _ rfl
  have hsl : Sl w2 No 5 (.slice (some ⟨w1.heap.size, 0, none⟩) d.sz d.sz) (List.replicate d.sz (0 : UInt8)).length (bv (List.replicate d.sz 0)) := by
    have e : (List.replicate d.sz (0 : UInt8)).length = d.sz := List.length_replicate
    rw [e]
    exact row_sl hh e (by omega)
  have P2 := Lib.hid (P1.out.stay hm2)
  have D2 := Lib.hid (D1.out.stay hm2)
  have HW := Lib.hid (write_any No No b sb mb d 0 _ (List.replicate d.sz 0) w2 P2.out.d hsl (by simp; omega) (fun _ f => f.elim))
  clear hw2 hm2 hh hsl hmk HZB P1 D1
  generalize w1.heap.size = g1 at *
  refine HW.out.mono ?_
  clear HW
  rintro e w3 ⟨rfl, hd3, hm3⟩
  have hm3' : Mod (Own3 b sb mb) w2 w3 := hm3.weaken fun k _ e => own2_own3 k e
  have P3 := Lib.hid (P2.out.disk hd3 hm3')
  have nb : ∀ y, Own3 b' sb' mb' y → ¬ Own3 b sb mb y := fun y h4 h5 => by
    have := HDL.out y h5
    rcases h4 with r | r | r <;> omega
  have D3 := Lib.hid (D2.out.keep hm3' (nb b' (.inl rfl)) (nb sb' (.inr (.inl rfl))) (nb mb' (.inr (.inr rfl))) (fun k hk => .inr fun cur fz => P2.out.d.not_bytes hk cur fz))
  have HC := Lib.hid (crash_any No b sb mb _ 0 (-1) 0 w3 P3.out.d (by omega) (fun _ f => f.elim))
  have NB := Lib.hid nb
  clear hd3 hm3 hm3' nb P2 D2
  go_wp2_with fail
  refine HC.out.mono ?_
  clear HC
  rintro e w4 ⟨rfl, hd4, hm4⟩
  have P4 := Lib.hid (P3.out.disk hd4 hm4)
  have D4 := Lib.hid (D3.out.keep hm4 (NB.out b' (.inl rfl)) (NB.out sb' (.inr (.inl rfl))) (NB.out mb' (.inr (.inr rfl))) (fun k hk => .inr fun cur fz => P3.out.d.not_bytes hk cur fz))
  clear hd4 hm4 P3 D3
  go_wp2_with fail
  have PL := P4.out.turn D4.out (fun y e => by have h5 := HSZ0.out; rcases e with r | r | r <;> omega) (fun y e e4 => by have h6 := HML.out y e4; rcases e with r | r | r <;> omega)
  exact Met.intro (HJ.out _ _ ⟨_, _, _, _, rfl, rfl, PL, rfl, rfl, rfl, rfl, rfl, rfl, rfl, by rw [HIN.out]; rfl, trivial⟩)

end Go.Proofs.Ytjmnpfbinjlegaa
