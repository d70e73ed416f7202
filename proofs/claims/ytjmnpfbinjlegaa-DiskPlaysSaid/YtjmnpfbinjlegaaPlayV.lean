/-
  The law DiskPlays: its switch: flush. No statement is proved here; no condition.
-/
import Derived.Test.YtjmnpfbinjlegaaPlayU
namespace Go.Proofs.Ytjmnpfbinjlegaa
open Go.RowKit Go.Maps

theorem fl_soon (d : Dk) (j : Nat) : d.soon (fun _ _ l => l) j = d.last j := by
  unfold Dk.soon Dk.last
  cases d.dirty j <;> rfl

set_option maxRecDepth 100000 in
set_option maxHeartbeats 4000000 in
theorem sw_flush (w0 w : World) (b sb mb q lb sm fb : Nat) (d : Dk) (x : Nat) (av : ActV) (va vi : Value) (t : Int) (f : Act) (h : Sx w0 w b sb mb q lb sm fb d x av va vi t f) (hw : av.what = 3) :
    Code.wp Try.prog blk4 (Exit.then (Sw w0 q lb sm fb d.n d.sz va vi t) Nope) f w := by
  refine wp_part fun J K' hJ hK => ?_
  obtain ⟨hpl, hx, ox1, ox2, hF, hkp, hav⟩ := h
  obtain ⟨ts, ds⟩ := f
  obtain ⟨hsz, hds, hs2, hs7, hs8, hs10, hs11, hs12, hs13, hs129, -⟩ := hF
  dsimp only at hsz hds hs2 hs7 hs8 hs10 hs11 hs12 hs13 hs129
  subst hds
  obtain ⟨c, rfl, hc⟩ := lit344 ts hsz
  rw [hc] at hs2
  rw [hc] at hs7
  rw [hc] at hs8
  rw [hc] at hs10
  rw [hc] at hs11
  rw [hc] at hs12
  rw [hc] at hs13
  rw [hc] at hs129
  simp only [hs2, hs7, hs8, hs10, hs11, hs12, hs13, hs129]
  clear hc hsz hs2 hs7 hs8 hs10 hs11 hs12 hs13 hs129

  obtain ⟨wh, ai, an, keep, torn, at_, ax⟩ := av
  dsimp only at hx hkp hw
  have HJ := Lib.hid hJ
  have HP := Lib.hid hpl
  have hn1 : 1 ≤ d.n := hpl.m.n1
  have hn2 : d.n ≤ 4096 := hpl.m.n2
  have hz1 : 64 ≤ d.sz := hpl.m.s1
  have hz2 : d.sz ≤ 4096 := hpl.m.s2
  obtain ⟨lc, sc, fc, nn, (ho : w.heap[q]? = some (.cells #[.slice (some ⟨lb, 0, none⟩) d.n lc, .slice (some ⟨sm, 0, none⟩) d.n sc, .slice (some ⟨fb, 0, none⟩) d.n fc, .bool d.dead, .bool (decide (d.cut ≠ -1)), .int .i64 nn] 48 (0, 0))), hnn, hcaps⟩ := hpl.m.obj
  have x0 := cell_of (i := 0) hx rfl
  have x1 := cell_of (i := 1) hx rfl
  have x2 := cell_of (i := 2) hx rfl
  have x3 := cell_of (i := 3) hx rfl
  have x4 := cell_of (i := 4) hx rfl
  have x5 := cell_of (i := 5) hx rfl
  have x6 := cell_of (i := 6) hx rfl
  have qb : ¬ Own3 b sb mb q := fun e => hpl.off q e (.inl rfl)
  have HX : x < w.heap.size := (Array.getElem?_eq_some_iff.1 hx).1
  clear hJ hpl hx
  generalize hin : (decide (0 ≤ t) && decide (t < (d.n : Int))) = inn at *
  have HIN := Lib.hid hin
  clear hin

  subst hw
  have c3 := cell_of (i := 3) ho rfl
  have HFL := Lib.hid (flush_any No b sb mb d)
  clear HX x0 x1 x2 x3 x4 x5 x6 hav hkp ox1 ox2 hnn hcaps ho
  cases hdd : d.dead with
  | true =>
    have e1 : d.flush = d := by unfold Dk.flush; rw [if_pos hdd]
    have e2 : d.flushE = 32 := by unfold Dk.flushE; rw [if_pos (.inl hdd)]
    have HC := HFL.out w HP.out.d
    rw [e1, e2] at HC
    have HC := Lib.hid HC
    rw [hdd] at c3
    clear HFL hdd e1 e2
    conv => arg 2; whnf
    go_wp2_with fail
    refine HC.out.mono ?_
    clear HC
    rintro e w1 ⟨rfl, hd1, hm1⟩
    have P1 := Lib.hid (HP.out.disk hd1 hm1)
    clear hd1 hm1 c3
    go_wp2_with fail
    exact Met.intro (HJ.out _ _ ⟨_, _, _, _, rfl, rfl, P1.out, rfl, rfl, rfl, rfl, rfl, rfl, rfl, by rw [HIN.out]; rfl, trivial⟩)

  | false =>
    rw [hdd] at c3
    have HPW := Lib.hid (mpower_any q lb sm fb d w HP.out.m)
    by_cases hc : d.cut = 0
    · have e1 : d.flush = d.power := by unfold Dk.flush; rw [if_neg (by rw [hdd]; exact Bool.noConfusion), if_pos hc]
      have e2 : d.flushE = 32 := by unfold Dk.flushE; rw [if_pos (.inr hc)]
      have e3 : decide (d.cut ≠ 0) = false := by simp [hc]
      have HE := Lib.hid (And.intro e1 (And.intro e2 e3))
      clear e1 e2 e3 hc hdd
      conv => arg 2; whnf
      go_wp2_with fail
      refine HPW.out.mono ?_
      clear HPW
      rintro e w1 ⟨rfl, hd1, hm1⟩
      have P1 := Lib.hid (HP.out.model hd1 (hm1.weaken fun _ _ e => .inl e))
      have HC := HFL.out w1 P1.out.d
      rw [HE.out.1, HE.out.2.1] at HC
      have HC := Lib.hid HC
      rw [HE.out.2.2]
      clear HFL hd1 hm1 c3 HP
      go_wp2_with fail
      refine HC.out.mono ?_
      clear HC
      rintro e w2 ⟨rfl, hd1, hm1⟩
      have P2 := Lib.hid (P1.out.disk hd1 hm1)
      clear hd1 hm1 P1
      go_wp2_with fail
      exact Met.intro (HJ.out _ _ ⟨_, _, _, d.power, rfl, rfl, P2.out, rfl, rfl, rfl, rfl, rfl, rfl, rfl, by rw [HIN.out]; rfl, trivial⟩)

    · have e1 : d.flush = d.power.settle fun _ _ l => l := by unfold Dk.flush; rw [if_neg (by rw [hdd]; exact Bool.noConfusion), if_neg hc]
      have e2 : d.flushE = 0 := by unfold Dk.flushE; rw [if_neg (by rw [hdd]; rintro (e | e); exact Bool.noConfusion e; exact hc e)]
      have e3 : decide (d.cut ≠ 0) = true := by simp [hc]
      have HE := Lib.hid (And.intro e1 (And.intro e2 e3))
      clear e1 e2 e3 hc hdd
      conv => arg 2; whnf
      go_wp2_with fail
      refine HPW.out.mono ?_
      clear HPW
      rintro e w1 ⟨rfl, hd1, hm1⟩
      rw [HE.out.2.2]
      have H0 := Lib.hid (show CrInv w1 w1 q lb sm fb d.power (fun _ _ l => l) 0 from ⟨by rw [upTo_zero]; exact hd1, Mod.refl _ _⟩)
      have HLN := Lib.hid (show ∀ i, i < d.n → (d.power.soon (fun _ _ l => l) i).length = d.sz from fun i hi => by rw [fl_soon]; exact hd1.lenL i hi)
      have M1 := Lib.hid hm1
      clear hd1 hm1 c3
      go_wp2_with fail
      go_loopw [18] (fun i wr => ∃ j : Nat, j ≤ d.n ∧ i = .int .i64 j ∧ CrInv w1 wr q lb sm fb d.power (fun _ _ l => l) j) (fun i _ => d.n - (intOf i).toNat)
      case atStart => exact ⟨0, by omega, rfl, H0.out⟩
      case round =>
        clear H0
        obtain ⟨j, hj, rfl, hinv⟩ := hrel
        have HI := Lib.hid hinv
        obtain ⟨lc, sc, fc, nn, (ho : wr.heap[q]? = some (.cells #[.slice (some ⟨lb, 0, none⟩) d.n lc, .slice (some ⟨sm, 0, none⟩) d.n sc, .slice (some ⟨fb, 0, none⟩) d.n fc, .bool d.power.dead, .bool (decide (d.power.cut ≠ -1)), .int .i64 nn] 48 (0, 0))), hnn, hcaps⟩ := hinv.md.obj
        have q0 := cell_of (i := 0) ho rfl
        have q1 := cell_of (i := 1) ho rfl
        have q2 := cell_of (i := 2) ho rfl
        have HCP := Lib.hid hcaps
        clear hinv ho hnn hcaps
        have hj0 : (0 : Int) ≤ (j : Int) := Int.natCast_nonneg _
        by_cases hlt : j < d.n
        · have hj1 : (j : Int) < (d.n : Int) := by omega
          have hmid := HI.out.md.mid (by rw [fl_soon])
          have HM := Lib.hid hmid
          obtain ⟨cul, hcl⟩ := hmid.l
          obtain ⟨cus, hcs⟩ := hmid.s
          obtain ⟨cuf, hcf⟩ := hmid.f
          obtain ⟨vl, hvl, (hsl : Sl wr No 5 vl d.sz (bv (if j = j then d.power.soon (fun _ _ l => l) j else (d.power.upTo (fun _ _ l => l) j).last j)))⟩ := hcl.cell j hlt
          rw [if_pos rfl] at hsl
          obtain ⟨vs, hvs, hss⟩ := hcs.cell j hlt
          obtain ⟨vb, vo, vc, rfl, hlc1, hlc2, _⟩ := hsl.shape (show 0 < d.sz by omega)
          obtain ⟨e1, e2, e3, e4, e5, e6⟩ := HI.out.md.diff
          have cl := cell_ofA hcl.heap hvl
          have cs := cell_ofA hcs.heap hvs
          have cf := cell_ofA hcf.heap (hcf.cell j hlt)
          have ff := frozen_of j hcf.heap
          have fs := frozen_of j hcs.heap
          have HSL := Lib.hid hsl
          generalize fresh (d.power.upTo (fun _ _ l => l) j) j = p at *
          have hm18 : Mod (· = sm) wr (wr.drew.setCell ⟨sm, j, none⟩ (.slice (some ⟨vb, vo, none⟩) d.sz vc)) := ((Mod.refl (· = sm) wr).drew).setCell (fun _ => rfl) _
          have HS18 := Lib.hid (show (wr.drew.setCell ⟨sm, j, none⟩ (.slice (some ⟨vb, vo, none⟩) d.sz vc)).cell? ⟨q, 0, none⟩ = some (.slice (some ⟨lb, 0, none⟩) d.n lc) ∧ (wr.drew.setCell ⟨sm, j, none⟩ (.slice (some ⟨vb, vo, none⟩) d.sz vc)).cell? ⟨q, 1, none⟩ = some (.slice (some ⟨sm, 0, none⟩) d.n sc) ∧ (wr.drew.setCell ⟨sm, j, none⟩ (.slice (some ⟨vb, vo, none⟩) d.sz vc)).cell? ⟨q, 2, none⟩ = some (.slice (some ⟨fb, 0, none⟩) d.n fc) ∧ (wr.drew.setCell ⟨sm, j, none⟩ (.slice (some ⟨vb, vo, none⟩) d.sz vc)).cell? ⟨lb, j, none⟩ = some (.slice (some ⟨vb, vo, none⟩) d.sz vc) ∧ (wr.drew.setCell ⟨sm, j, none⟩ (.slice (some ⟨vb, vo, none⟩) d.sz vc)).cell? ⟨fb, j, none⟩ = some (.bool p) from ⟨hm18.cell q0 e2, hm18.cell q1 e2, hm18.cell q2 e2, hm18.cell cl e4, hm18.cell cf (Ne.symm e6)⟩)
          have hm19 : Mod (· = sm) wr (wr.setCell ⟨sm, j, none⟩ (.slice (some ⟨vb, vo, none⟩) d.sz vc)) := (Mod.refl (· = sm) wr).setCell (fun _ => rfl) _
          have ff18 := frozen_of j (hm19.keep hcf.heap (Ne.symm e6))
          have cf18 := hm19.cell cf (Ne.symm e6)
          clear hmid hcl hcs hcf hvl hvs hsl hss e1 e2 e3 e4 e5 e6 hm18 hm19
          go_upto_region 50 with fail
          have hS0 : wr.drew.cell? ⟨q, 0, none⟩ = some (.slice (some ⟨lb, 0, none⟩) d.n lc) ∧ wr.drew.cell? ⟨q, 1, none⟩ = some (.slice (some ⟨sm, 0, none⟩) d.n sc) ∧ wr.drew.cell? ⟨q, 2, none⟩ = some (.slice (some ⟨fb, 0, none⟩) d.n fc) ∧ wr.drew.cell? ⟨lb, j, none⟩ = some (.slice (some ⟨vb, vo, none⟩) d.sz vc) ∧ wr.drew.cell? ⟨fb, j, none⟩ = some (.bool p) := ⟨q0, q1, q2, cl, cf⟩
          refine wp_region_T (fun w' => w'.cell? ⟨q, 0, none⟩ = some (.slice (some ⟨lb, 0, none⟩) d.n lc) ∧ w'.cell? ⟨q, 1, none⟩ = some (.slice (some ⟨sm, 0, none⟩) d.n sc) ∧ w'.cell? ⟨q, 2, none⟩ = some (.slice (some ⟨fb, 0, none⟩) d.n fc) ∧ w'.cell? ⟨lb, j, none⟩ = some (.slice (some ⟨vb, vo, none⟩) d.sz vc) ∧ w'.cell? ⟨fb, j, none⟩ = some (.bool p)) 20 (by kernel_rfl) ?_
          refine wpAnyT_take 0 (some 218) ?_ rfl rfl (by kernel_rfl) (fun _ _ _ h => h) hS0 (Or.inl ⟨by rfl, ?_⟩) ?_
          rotate_left
          · (intro w' hSw; (try dsimp only at hSw); go_simp; try with_reducible rfl)
          simp only [Act.put, List.setIfInBounds_toArray, List.set_cons_zero, List.set_cons_succ]
          refine wpAnyT_take 1 (some 219) ?_ rfl rfl (by kernel_rfl) (fun _ _ _ h => h) hS0 (Or.inl ⟨by rfl, ?_⟩) ?_
          rotate_left
          · (intro w' hSw; (try dsimp only at hSw); go_simp; try with_reducible rfl)
          simp only [Act.put, List.setIfInBounds_toArray, List.set_cons_zero, List.set_cons_succ]
          refine wpAnyT_take 2 (some 220) ?_ rfl rfl (by kernel_rfl) (fun _ _ _ h => h) hS0 (Or.inl ⟨by rfl, ?_⟩) ?_
          rotate_left
          · (intro w' hSw; (try dsimp only at hSw); go_simp; try with_reducible rfl)
          simp only [Act.put, List.setIfInBounds_toArray, List.set_cons_zero, List.set_cons_succ]
          refine wpAnyT_take 3 (some 221) ?_ rfl rfl (by kernel_rfl) (fun _ _ _ h => h) hS0 (Or.inl ⟨by rfl, ?_⟩) ?_
          rotate_left
          · (intro w' hSw; (try dsimp only at hSw); go_simp; try with_reducible rfl)
          simp only [Act.put, List.setIfInBounds_toArray, List.set_cons_zero, List.set_cons_succ]
          refine wpAnyT_take 4 (some 222) ?_ rfl rfl (by kernel_rfl) (fun _ _ _ h => h) hS0 (Or.inl ⟨by rfl, ?_⟩) ?_
          rotate_left
          · (intro w' hSw; (try dsimp only at hSw); go_simp; try with_reducible rfl)
          simp only [Act.put, List.setIfInBounds_toArray, List.set_cons_zero, List.set_cons_succ]
          refine wpAnyT_take 5 (some 223) ?_ rfl rfl (by kernel_rfl) (fun _ _ _ h => h) hS0 (Or.inl ⟨by rfl, ?_⟩) ?_
          rotate_left
          · (intro w' hSw; (try dsimp only at hSw); go_simp; try with_reducible rfl)
          simp only [Act.put, List.setIfInBounds_toArray, List.set_cons_zero, List.set_cons_succ]
          refine wpAnyT_take 6 (some 224) ?_ rfl rfl (by kernel_rfl) (fun _ _ _ h => h) hS0 (Or.inl ⟨by rfl, ?_⟩) ?_
          rotate_left
          · (intro w' hSw; (try dsimp only at hSw); go_simp; try with_reducible rfl)
          simp only [Act.put, List.setIfInBounds_toArray, List.set_cons_zero, List.set_cons_succ]
          refine wpAnyT_take 7 (some 225) ?_ rfl rfl (by kernel_rfl) (fun _ _ _ h => h) hS0 (Or.inl ⟨by rfl, ?_⟩) ?_
          rotate_left
          · (intro w' hSw; (try dsimp only at hSw); go_simp; try with_reducible rfl)
          simp only [Act.put, List.setIfInBounds_toArray, List.set_cons_zero, List.set_cons_succ]
          refine wpAnyT_take 8 (some 226) ?_ rfl rfl (by kernel_rfl) (fun _ _ _ h => h) hS0 (Or.inl ⟨by rfl, ?_⟩) ?_
          rotate_left
          · (intro w' hSw; (try dsimp only at hSw); go_simp; try with_reducible rfl)
          simp only [Act.put, List.setIfInBounds_toArray, List.set_cons_zero, List.set_cons_succ]
          refine wpAnyT_take 9 (some 227) ?_ rfl rfl (by kernel_rfl) (fun _ _ _ h => h) hS0 (Or.inl ⟨by rfl, ?_⟩) ?_
          rotate_left
          · (intro w' hSw; (try dsimp only at hSw); go_simp; try with_reducible rfl)
          simp only [Act.put, List.setIfInBounds_toArray, List.set_cons_zero, List.set_cons_succ]
          refine wpAnyT_take 10 (some 228) ?_ rfl rfl (by kernel_rfl) (fun _ _ _ h => h) hS0 (Or.inl ⟨by rfl, ?_⟩) ?_
          rotate_left
          · (intro w' hSw; (try dsimp only at hSw); go_simp; try with_reducible rfl)
          simp only [Act.put, List.setIfInBounds_toArray, List.set_cons_zero, List.set_cons_succ]
          refine wpAnyT_take 11 (some 229) ?_ rfl rfl (by kernel_rfl) (fun _ _ _ h => h) hS0 (Or.inl ⟨by rfl, ?_⟩) ?_
          rotate_left
          · (intro w' hSw; (try dsimp only at hSw); go_simp; try with_reducible rfl)
          simp only [Act.put, List.setIfInBounds_toArray, List.set_cons_zero, List.set_cons_succ]
          refine wpAnyT_take 12 (some 230) ?_ rfl rfl (by kernel_rfl) (fun _ _ _ h => h) hS0 (Or.inl ⟨by rfl, ?_⟩) ?_
          rotate_left
          · (intro w' hSw; (try dsimp only at hSw); go_simp; try with_reducible rfl)
          simp only [Act.put, List.setIfInBounds_toArray, List.set_cons_zero, List.set_cons_succ]
          refine wpAnyT_take 13 (some 231) ?_ rfl rfl (by kernel_rfl) (fun _ _ _ h => h) hS0 (Or.inl ⟨by rfl, ?_⟩) ?_
          rotate_left
          · (intro w' hSw; (try dsimp only at hSw); go_simp; try with_reducible rfl)
          simp only [Act.put, List.setIfInBounds_toArray, List.set_cons_zero, List.set_cons_succ]
          refine wpAnyT_take 14 (some 232) ?_ rfl rfl (by kernel_rfl) (fun _ _ _ h => h) hS0 (Or.inl ⟨by rfl, ?_⟩) ?_
          rotate_left
          · (intro w' hSw; (try dsimp only at hSw); go_simp; try with_reducible rfl)
          simp only [Act.put, List.setIfInBounds_toArray, List.set_cons_zero, List.set_cons_succ]
          refine wpAnyT_take 15 (some 233) ?_ rfl rfl (by kernel_rfl) (fun _ _ _ h => h) hS0 (Or.inl ⟨by rfl, ?_⟩) ?_
          rotate_left
          · (intro w' hSw; (try dsimp only at hSw); go_simp; try with_reducible rfl)
          simp only [Act.put, List.setIfInBounds_toArray, List.set_cons_zero, List.set_cons_succ]
          refine wpAnyT_take 16 (some 234) ?_ rfl rfl (by kernel_rfl) (fun _ _ _ h => h) hS0 (Or.inl ⟨by rfl, ?_⟩) ?_
          rotate_left
          · (intro w' hSw; (try dsimp only at hSw); go_simp; try with_reducible rfl)
          simp only [Act.put, List.setIfInBounds_toArray, List.set_cons_zero, List.set_cons_succ]
          refine wpAnyT_take 17 (some 235) ?_ rfl rfl (by kernel_rfl) (fun _ _ _ h => h) hS0 (Or.inl ⟨by rfl, ?_⟩) ?_
          rotate_left
          · (intro w' hSw; (try dsimp only at hSw); go_simp; try with_reducible rfl)
          simp only [Act.put, List.setIfInBounds_toArray, List.set_cons_zero, List.set_cons_succ]
          refine wpAnyT_one 18 rfl (by kernel_rfl) rfl ?_
          intro K hK
          go_simp
          show K _ _
          refine hK.out _ _ (fun _ => HS18.out) ?_
          clear hK K
          refine wpAnyT_one 19 rfl (by kernel_rfl) rfl ?_
          intro K hK
          go_simp
          show K _ _
          refine hK.out _ _ (fun _ => HS18.out) ?_
          clear hK K
          refine wpAnyT_one 20 rfl (by kernel_rfl) rfl ?_
          intro K hK
          go_simp
          show K _ _
          refine hK.out _ _ (fun h => absurd rfl h) ?_
          clear hK K
          refine wpAnyT_done (by kernel_rfl) ?_ _
          go_wp2_with fail
          exact ⟨⟨j + 1, by omega, by go_num, MidAt.done HM.out HI.out.md hlt (Mod.refl No wr).drew (HSL.out.keep (S := No) (Mod.refl No wr).drew (fun _ _ _ f => f.elim)) (HLN.out j hlt), ((HI.out.mod.drew).setCell (fun _ => .inr (.inr (.inl rfl))) _).setCell (fun _ => .inr (.inr (.inr rfl))) _⟩, by go_light; simp only [intOf]; omega⟩
        · have hjn : j = d.n := by omega
          subst hjn
          have hmd : MdAt wr q lb sm fb (d.power.settle fun _ _ l => l) := HI.out.md.congr rfl rfl rfl rfl (fun i hi => (if_pos hi).symm) (fun i hi => (if_pos hi).symm)
          have P1 := Lib.hid (HP.out.model hmd ((M1.out.weaken (T := Own4 q lb sm fb) fun _ _ e => .inl e).trans HI.out.mod))
          have HC := HFL.out wr P1.out.d
          rw [HE.out.1, HE.out.2.1] at HC
          have HC := Lib.hid HC
          clear HFL hmd HP HI HLN M1
          go_wp2_with fail
          refine HC.out.mono ?_
          clear HC
          rintro e w2 ⟨rfl, hd1, hm1⟩
          have P2 := Lib.hid (P1.out.disk hd1 hm1)
          clear hd1 hm1 P1
          go_wp2_with fail
          exact Met.intro (HJ.out _ _ ⟨_, _, _, d.power.settle fun _ _ l => l, rfl, rfl, P2.out, rfl, rfl, rfl, rfl, rfl, rfl, rfl, by rw [HIN.out]; rfl, trivial⟩)

end Go.Proofs.Ytjmnpfbinjlegaa
