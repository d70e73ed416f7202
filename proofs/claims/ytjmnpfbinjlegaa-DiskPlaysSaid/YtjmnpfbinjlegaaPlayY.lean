/-
  The law DiskPlays: its main loop. No statement is proved here; no condition.
-/
import Derived.Test.YtjmnpfbinjlegaaPlayX
namespace Go.Proofs.Ytjmnpfbinjlegaa
open Go.RowKit Go.Maps

theorem sw_any {w0 w : World} {b sb mb q lb sm fb : Nat} {d : Dk} {x : Nat} {av : ActV} {va vi : Value} {t : Int} {f : Act} (h : Sx w0 w b sb mb q lb sm fb d x av va vi t f) :
    Code.wp Try.prog blk4 (Exit.then (Sw w0 q lb sm fb d.n d.sz va vi t) Nope) f w := by
  by_cases h0 : av.what = 0
  · exact sw_write0 _ _ _ _ _ _ _ _ _ _ _ _ _ _ _ _ h h0
  by_cases h1 : av.what = 1
  · exact sw_write1 _ _ _ _ _ _ _ _ _ _ _ _ _ _ _ _ h h1
  by_cases h2 : av.what = 2
  · exact sw_write2 _ _ _ _ _ _ _ _ _ _ _ _ _ _ _ _ h h2
  by_cases h3 : av.what = 3
  · exact sw_flush _ _ _ _ _ _ _ _ _ _ _ _ _ _ _ _ h h3
  by_cases h4 : av.what = 4
  · exact sw_cut _ _ _ _ _ _ _ _ _ _ _ _ _ _ _ _ h h4
  by_cases h5 : av.what = 5
  · exact sw_crash _ _ _ _ _ _ _ _ _ _ _ _ _ _ _ _ h h5
  by_cases h6 : av.what = 6
  · exact sw_copy _ _ _ _ _ _ _ _ _ _ _ _ _ _ _ _ h h6
  exact sw_other _ _ _ _ _ _ _ _ _ _ _ _ _ _ _ _ h h0 h1 h2 h3 h4 h5 h6

/-- The main loop: k rounds to come. -/
def Lp (w0 : World) (q lb sm fb n sz : Nat) (va : Value) (len k : Nat) (a : Act) (w : World) : Prop :=
  ∃ j b sb mb d, j + k = len ∧ d.n = n ∧ d.sz = sz ∧ Pl w0 w b sb mb q lb sm fb d d ∧ Fr 344 [(2, va), (7, .pointer (some ⟨b, 0, none⟩)), (8, .pointer (some ⟨q, 0, none⟩)), (10, .int .i64 (j : Int))] a

noncomputable def blk2 : Code := (blockAt 2 body5).getD .skip

set_option maxRecDepth 100000 in
set_option maxHeartbeats 4000000 in
theorem loop_any (w0 w : World) (aa : Option Addr) (la ca : Nat) (l : List ActV) (hacts : ActsIn w0 aa la l) (hla : la ≤ 60) (b sb mb q lb sm fb : Nat) (d : Dk) (hn4 : d.n ≤ 4) (f : Act) (hpl : Pl w0 w b sb mb q lb sm fb d d)
    (hF : Fr 344 [(2, .slice aa la ca), (7, .pointer (some ⟨b, 0, none⟩)), (8, .pointer (some ⟨q, 0, none⟩)), (10, .int .i64 0)] f) :
    Code.wp Try.prog blk2 (Exit.then (fun a' w' => Mod No w0 w' ∧ Fr 344 [] a') Nope) f w := by
  refine wp_part fun J K' hJ hK => ?_
  have hlen : l.length = la := hacts.len
  subst hlen
  have H0 := Lib.hid (show Lp w0 q lb sm fb d.n d.sz (.slice aa l.length ca) l.length l.length f w from ⟨0, b, sb, mb, d, by omega, rfl, rfl, hpl, hF⟩)
  have HA := Lib.hid hacts
  have HJ := Lib.hid hJ
  clear hacts hpl hF hJ
  generalize d.n = n at *
  generalize d.sz = sz at *
  clear b sb mb d
  conv => arg 2; whnf
  go_step
  refine wp_loop_ghost_k (Lp w0 q lb sm fb n sz (.slice aa l.length ca) l.length) l.length H0.out ?_
  clear H0 f w
  intro k f w hI J2 K2 hJ2 hK2
  have HJ2 := Lib.hid hJ2
  obtain ⟨j, b, sb, mb, d, hjk, rfl, rfl, hpl, hF⟩ := hI
  obtain ⟨ts, ds⟩ := f
  obtain ⟨hsz, hds, hs2, hs7, hs8, hs10, -⟩ := hF
  dsimp only at hsz hds hs2 hs7 hs8 hs10
  subst hds
  obtain ⟨c, rfl, hc⟩ := lit344 ts hsz
  rw [hc] at hs2
  rw [hc] at hs7
  rw [hc] at hs8
  rw [hc] at hs10
  simp only [hs2, hs7, hs8, hs10]
  clear hc hsz hs2 hs7 hs8 hs10

  have HP := Lib.hid hpl
  have hn1 : 1 ≤ d.n := hpl.m.n1
  clear hpl hJ2
  have hj0 : (0 : Int) ≤ (j : Int) := Int.natCast_nonneg _
  by_cases hjl : j < l.length
  · obtain ⟨ab, ao, hab, hcells⟩ := HA.out.cell j hjl
    have hkp := HA.out.keep l[j] (List.getElem_mem hjl)
    generalize l[j] = a at *
    subst hab
    have mm := HP.out.mod
    have a0 : w.cell? ⟨ab, ao + j * 7, none⟩ = some (.int .i64 a.what) := mm.cell (hcells 0 _ rfl) (fun f => f)
    have a1 := mm.cell (hcells 1 _ rfl) (fun f => f)
    have a2 := mm.cell (hcells 2 _ rfl) (fun f => f)
    have a3 := mm.cell (hcells 3 _ rfl) (fun f => f)
    have a4 := mm.cell (hcells 4 _ rfl) (fun f => f)
    have a5 := mm.cell (hcells 5 _ rfl) (fun f => f)
    have a6 := mm.cell (hcells 6 _ rfl) (fun f => f)
    have hj1 : (j : Int) < (l.length : Int) := by omega
    have hx1 : ¬ Own3 b sb mb w.heap.size := fun e => by have := HP.out.d.lt e; omega
    have hx2 : ¬ Own4 q lb sm fb w.heap.size := fun e => by have := HP.out.m.lt e; omega
    have HX := Lib.hid (And.intro hx1 hx2)
    have HKP := Lib.hid hkp
    clear hcells mm hx1 hx2 hkp
    obtain ⟨wx, hwx⟩ : ∃ wx, wx = w.alloc (.cells #[.int .i64 a.what, .int .i64 a.i, .int .i64 a.n, .int .u64 (a.keep : Int), .int .i64 a.torn, .int .i64 a.at_, .int .u8 (a.x.toNat : Int)] 50) := ⟨_, rfl⟩
    have mX : Mod No w wx := by rw [hwx]; exact (Mod.refl No w).alloc _
    have hX : wx.heap[w.heap.size]? = some (.cells #[.int .i64 a.what, .int .i64 a.i, .int .i64 a.n, .int .u64 (a.keep : Int), .int .i64 a.torn, .int .i64 a.at_, .int .u8 (a.x.toNat : Int)] 50 (0, 0)) := by rw [hwx]; exact heap_at_new w _ rfl
    have HWX := Lib.hid hwx
    have PX := Lib.hid (HP.out.stay mX)
    obtain ⟨lc, sc, fc, nn, (ho : wx.heap[q]? = some (.cells #[.slice (some ⟨lb, 0, none⟩) d.n lc, .slice (some ⟨sm, 0, none⟩) d.n sc, .slice (some ⟨fb, 0, none⟩) d.n fc, .bool d.dead, .bool (decide (d.cut ≠ -1)), .int .i64 nn] 48 (0, 0))), _⟩ := PX.out.m.obj
    have x0 := cell_of (i := 0) hX rfl
    have x1 := cell_of (i := 1) hX rfl
    have c0 := cell_of (i := 0) ho rfl
    have HXX := Lib.hid hX
    have hpla : ∀ nq, Calls Try.prog 16 #[.int .i64 a.i, .int .i64 ((d.n : Int) + 2)] (wx.drewN nq) fun e w' => e = .returned (.int .i64 (a.i % ((d.n : Int) + 2))) ∧ w' = wx.drewN nq := fun nq =>
      (place_any a.i ((d.n : Int) + 2) (wx.drewN nq) (by omega) (by omega)).mono fun e w' ⟨h1, h2⟩ => ⟨h1, h2.symm⟩
    have HPLA := Lib.hid hpla
    clear hpla hwx ho hX mX HP
    have hn4' : (d.n : Int) ≤ 4 := by omega
    have ht0 := Int.emod_nonneg a.i (show ((d.n : Int) + 2) ≠ 0 by omega)
    have ht1 := Int.emod_lt_of_pos a.i (show (0 : Int) < (d.n : Int) + 2 by omega)
    go_upto_region 18 with fail
    rw [← HWX.out]
    clear a0 a1 a2 a3 a4 a5 a6 HWX
    generalize w.heap.size = x at *
    go_quiet (first | (go_at_call 16; refine Calls.quiet_of_same (HPLA.out _)))
    generalize hat : a.i % ((d.n : Int) + 2) - 1 = t at *
    have ht2 : -1 ≤ t ∧ t ≤ (d.n : Int) := by omega
    clear hat ht0 ht1 HPLA x1
    go_upto_region 19 with fail
    refine wp_cut (fun a' wy => (∃ nq, wy = wx.drewN nq) ∧ Fr 344 [(2, .slice (some ⟨ab, ao, none⟩) l.length ca), (7, .pointer (some ⟨b, 0, none⟩)), (8, .pointer (some ⟨q, 0, none⟩)), (10, .int .i64 (j : Int)), (11, .pointer (some ⟨x, 0, none⟩)), (12, .int .i64 t), (13, .bool (decide (0 ≤ t) && decide (t < (d.n : Int))))] a') ?_ ?_
    · rintro a' wy ⟨⟨nq, rfl⟩, hF⟩
      obtain ⟨ts, ds⟩ := a'
      obtain ⟨hsz, hds, hs2, hs7, hs8, hs10, hs11, hs12, hs13, -⟩ := hF
      dsimp only at hsz hds hs2 hs7 hs8 hs10 hs11 hs12 hs13
      subst hds
      obtain ⟨c, rfl, hc⟩ := lit344 ts hsz
      rw [hc] at hs2
      rw [hc] at hs7
      rw [hc] at hs8
      rw [hc] at hs10
      rw [hc] at hs11
      rw [hc] at hs12
      rw [hc] at hs13
      simp only [hs2, hs7, hs8, hs10, hs11, hs12, hs13]
      clear hc hsz hs2 hs7 hs8 hs10 hs11 hs12 hs13

      clear c0
      go_upto_block 4 with fail
      rename_i K5 hK5 _ K4 hK4
      refine wp_only (sw_any (av := a) (d := d) (x := x) (w0 := w0) (b := b) (sb := sb) (mb := mb) (q := q) (lb := lb) (sm := sm) (fb := fb) (va := .slice (some ⟨ab, ao, none⟩) l.length ca) (vi := .int .i64 (j : Int)) (t := t) ⟨PX.out.stay ((Mod.refl No wx).drewN nq), HXX.out, HX.out.1, HX.out.2, ⟨rfl, rfl, rfl, rfl, rfl, rfl, rfl, rfl, rfl, rfl, trivial⟩, HKP.out, ht2⟩) ?_
      clear PX HXX HX HKP x0
      intro a2 w2 h2
      refine hK4 _ _ (tail_any _ w0 w2 q lb sm fb d.n d.sz _ _ t a2 h2 ht2.1 ht2.2 ?_)
      clear hK4 K4 h2
      rintro a3 w3 ⟨b3, sb3, mb3, d3, hn3, hz3, hpl3, hF⟩
      obtain ⟨ts, ds⟩ := a3
      obtain ⟨hsz, hds, hs2, hs7, hs8, hs10, -⟩ := hF
      dsimp only at hsz hds hs2 hs7 hs8 hs10
      subst hds
      obtain ⟨c, rfl, hc⟩ := lit344 ts hsz
      rw [hc] at hs2
      rw [hc] at hs7
      rw [hc] at hs8
      rw [hc] at hs10
      simp only [hs2, hs7, hs8, hs10]
      clear hc hsz hs2 hs7 hs8 hs10

      have HP3 := Lib.hid hpl3
      have HN3 := Lib.hid (And.intro hn3 hz3)
      clear hpl3 hn3 hz3
      show K5 _ _
      go_wp2_with fail
      exact Handed.intro (k - 1) (by omega) (HJ2.out _ _ _ ⟨j + 1, b3, sb3, mb3, d3, by omega, HN3.out.1, HN3.out.2, HP3.out, rfl, rfl, rfl, rfl, rfl, by go_num, trivial⟩)
    · intro J3 K3 hJ3 hK3
      have HJ3 := Lib.hid hJ3
      clear hJ3
      by_cases h0 : 0 ≤ t
      · have hd0 : decide (0 ≤ t) = true := decide_eq_true h0
        have HD := Lib.hid hd0
        clear hd0
        go_wp2_with fail
        exact Met.intro (HJ3.out _ _ ⟨⟨_, rfl⟩, rfl, rfl, rfl, rfl, rfl, rfl, rfl, rfl, by rw [HD.out]; rfl, trivial⟩)
      · have hd0 : decide (0 ≤ t) = false := decide_eq_false h0
        have HD := Lib.hid hd0
        clear hd0
        go_wp2_with fail
        exact Met.intro (HJ3.out _ _ ⟨⟨_, rfl⟩, rfl, rfl, rfl, rfl, rfl, rfl, rfl, rfl, by rw [HD.out]; rfl, trivial⟩)
  · have hjn : j = l.length := by omega
    subst hjn
    have HM := Lib.hid HP.out.mod
    go_wp2_with fail
    exact Met.intro (HJ.out _ _ ⟨HM.out, rfl, rfl, trivial⟩)

end Go.Proofs.Ytjmnpfbinjlegaa
