/-
  The law DiskPlays: its switch: write: what the model takes of it. No statement is proved here; no condition.
-/
import Derived.Test.YtjmnpfbinjlegaaPlayV
namespace Go.Proofs.Ytjmnpfbinjlegaa
open Go.RowKit Go.Maps

/-- l[k], fresh[k] are stored. -/
theorem MdAt.put {w wd : World} {q lb sb fb : Nat} {d : Dk} {k : Nat} {v : Value} {L : List UInt8} (h0 : MdAt w q lb sb fb d) (hk : k < d.n) (hm : Mod No w wd)
    (hv : Sl wd No 5 v d.sz (bv L)) (hL : L.length = d.sz) : MdAt ((wd.setCell ⟨lb, k, none⟩ v).setCell ⟨fb, k, none⟩ (.bool true)) q lb sb fb (d.put k L) := by
  obtain ⟨e1, e2, e3, e4, e5, e6⟩ := h0.diff
  have h := h0.stay hm
  obtain ⟨cur, hl⟩ := h.l
  obtain ⟨cus, hs⟩ := h.s
  obtain ⟨cuf, hf⟩ := h.f
  have m1 : Mod (· = lb) wd (wd.setCell ⟨lb, k, none⟩ v) := (Mod.refl (· = lb) wd).setCell (fun _ => rfl) _
  have b1 : Beside wd No (· = lb) := fun k hk => .inr fun cur' fz e => by subst hk; rw [hl.heap] at e; cases e
  have hl1 := hl.set (i := k) hk hv
  have hs1 := hs.keep m1 (Ne.symm e4) b1
  have hf1 := hf.keep m1 (Ne.symm e5)
  have ho1 := MObj.keep h.obj m1 e1
  have m2 : Mod (· = fb) (wd.setCell ⟨lb, k, none⟩ v) ((wd.setCell ⟨lb, k, none⟩ v).setCell ⟨fb, k, none⟩ (.bool true)) := (Mod.refl (· = fb) _).setCell (fun _ => rfl) _
  have b2 : Beside (wd.setCell ⟨lb, k, none⟩ v) No (· = fb) := fun k hk => .inr fun cur' fz e => by subst hk; rw [hf1.heap] at e; cases e
  have la : ∀ i, (d.put k L).last i = if i = k then L else d.last i := fun i => by
    unfold Dk.last Dk.put
    by_cases e : i = k <;> simp [e]
  have fa : ∀ i, fresh (d.put k L) i = if i = k then true else fresh d i := fun i => by
    unfold fresh Dk.put
    by_cases e : i = k <;> simp [e]
  refine ⟨MObj.keep ho1 m2 e3, ⟨_, (hl1.keep m2 e5 b2).congr fun i _ => (la i).symm⟩, ⟨_, hs1.keep m2 e6 b2⟩, ⟨_, (hf1.set (i := k) hk true).congr fun i _ => (fa i).symm⟩, e4, fun i hi => ?_, h0.lenS, h0.n1, h0.n2, h0.s1, h0.s2, h0.c1, h0.c2⟩
  rw [la]
  split
  · exact hL
  · exact h0.lenL i hi

noncomputable def blk7 : Code := (blockAt 7 body5).getD .skip

/-- Behind the model's part of a write. -/
def Sw7 (w0 w : World) (b sb mb q lb sm fb : Nat) (d : Dk) (va vi v : Value) (t : Int) (L : List UInt8) (a' : Act) (w' : World) : Prop :=
  (Pl w0 w' b sb mb q lb sm fb d (d.write t L) ∧ Mod (Own4 q lb sm fb) w w') ∧ Fr 344 [(2, va), (7, .pointer (some ⟨b, 0, none⟩)), (8, .pointer (some ⟨q, 0, none⟩)), (10, vi), (12, .int .i64 t), (13, .bool (decide (0 ≤ t) && decide (t < (d.n : Int)))), (14, v), (16, .int .i64 (d.writeE t L.length))] a'

set_option maxRecDepth 100000 in
set_option maxHeartbeats 4000000 in
theorem blk7_any (w0 w : World) (b sb mb q lb sm fb : Nat) (d : Dk) (va vi v : Value) (t : Int) (f : Act) (L : List UInt8) (hpl : Pl w0 w b sb mb q lb sm fb d d) (hv : Sl w No 5 v L.length (bv L)) (hL0 : 0 < L.length)
    (hF : Fr 344 [(2, va), (7, .pointer (some ⟨b, 0, none⟩)), (8, .pointer (some ⟨q, 0, none⟩)), (10, vi), (12, .int .i64 t), (13, .bool (decide (0 ≤ t) && decide (t < (d.n : Int)))), (14, v), (16, .int .i64 0)] f) :
    Code.wp Try.prog blk7 (Exit.then (Sw7 w0 w b sb mb q lb sm fb d va vi v t L) Nope) f w := by
  refine wp_part fun J K' hJ hK => ?_
  obtain ⟨ts, ds⟩ := f
  obtain ⟨hsz, hds, hs2, hs7, hs8, hs10, hs12, hs13, hs14, hs16, -⟩ := hF
  dsimp only at hsz hds hs2 hs7 hs8 hs10 hs12 hs13 hs14 hs16
  subst hds
  obtain ⟨c, rfl, hc⟩ := lit344 ts hsz
  rw [hc] at hs2
  rw [hc] at hs7
  rw [hc] at hs8
  rw [hc] at hs10
  rw [hc] at hs12
  rw [hc] at hs13
  rw [hc] at hs14
  rw [hc] at hs16
  simp only [hs2, hs7, hs8, hs10, hs12, hs13, hs14, hs16]
  clear hc hsz hs2 hs7 hs8 hs10 hs12 hs13 hs14 hs16

  have HJ := Lib.hid hJ
  have HP := Lib.hid hpl
  have hn1 : 1 ≤ d.n := hpl.m.n1
  have hn2 : d.n ≤ 4096 := hpl.m.n2
  have hz1 : 64 ≤ d.sz := hpl.m.s1
  have hz2 : d.sz ≤ 4096 := hpl.m.s2
  obtain ⟨lc, sc, fc, nn, (ho : w.heap[q]? = some (.cells #[.slice (some ⟨lb, 0, none⟩) d.n lc, .slice (some ⟨sm, 0, none⟩) d.n sc, .slice (some ⟨fb, 0, none⟩) d.n fc, .bool d.dead, .bool (decide (d.cut ≠ -1)), .int .i64 nn] 48 (0, 0))), _⟩ := hpl.m.obj
  have c3 := cell_of (i := 3) ho rfl
  obtain ⟨vb, vo, vc, rfl, hlc1, hlc2, _⟩ := hv.shape hL0
  have HV := Lib.hid hv
  generalize hin : (decide (0 ≤ t) && decide (t < (d.n : Int))) = inn at *
  have HIN := Lib.hid hin
  clear hJ hpl ho hv
  cases hdd : d.dead with
  | true =>
    have hE : atE d.dead t d.n = 32 := by rw [hdd]; rfl
    obtain ⟨e1, e2⟩ := Dk.write_err (d := d) (i := t) (l := L) (by rw [hE]; decide)
    rw [hE] at e2
    have E := Lib.hid (And.intro e1 e2)
    rw [hdd] at c3
    clear hE e1 e2 hin hdd
    conv => arg 2; whnf
    go_wp2_with fail
    exact Met.intro (HJ.out _ _ ⟨⟨by rw [E.out.1]; exact HP.out, Mod.refl _ _⟩, rfl, rfl, rfl, rfl, rfl, rfl, rfl, by rw [HIN.out]; rfl, rfl, by rw [E.out.2]; rfl, trivial⟩)

  | false =>
    rw [hdd] at c3
    cases inn with
    | false =>
      have hE : atE d.dead t d.n = 30 := by
        rw [hdd]
        unfold atE
        have : t < 0 ∨ (d.n : Int) ≤ t := by
          simp at hin; omega
        simp [this]
      obtain ⟨e1, e2⟩ := Dk.write_err (d := d) (i := t) (l := L) (by rw [hE]; decide)
      rw [hE] at e2
      have E := Lib.hid (And.intro e1 e2)
      clear hE e1 e2 hin hdd
      conv => arg 2; whnf
      go_wp2_with fail
      exact Met.intro (HJ.out _ _ ⟨⟨by rw [E.out.1]; exact HP.out, Mod.refl _ _⟩, rfl, rfl, rfl, rfl, rfl, rfl, rfl, by rw [HIN.out]; rfl, rfl, by rw [E.out.2]; rfl, trivial⟩)

    | true =>
      have hb : 0 ≤ t ∧ t < (d.n : Int) := by simpa using hin
      have hE : atE d.dead t d.n = 0 := by
        rw [hdd]
        unfold atE
        simp; omega
      obtain ⟨k, rfl⟩ := Int.eq_ofNat_of_zero_le hb.1
      have hkn : k < d.n := by omega
      have HSZ := Lib.hid (size_ok HP.out.d)
      by_cases hl : L.length = d.sz
      · have hlb : ((L.length : Int) == (d.sz : Int)) = true := by simp [hl]
        by_cases hc : d.cut = 0
        · obtain ⟨e1, e2⟩ := Dk.write_dead hE hl hc
          have e3 : decide (d.cut ≠ 0) = false := by simp [hc]
          have E := Lib.hid (And.intro e1 (And.intro e2 e3))
          have HC := Lib.hid (mpower_any q lb sm fb d w HP.out.m)
          clear hE e1 e2 e3 hin hdd hc hl
          conv => arg 2; whnf
          go_wp2_with fail
          refine HSZ.out.mono ?_
          clear HSZ
          rintro e w' ⟨rfl, rfl⟩
          go_wp2_with fail
          refine HC.out.mono ?_
          clear HC
          rintro e w1 ⟨rfl, hd1, hm1⟩
          have hm1' : Mod (Own4 q lb sm fb) w w1 := hm1.weaken fun _ _ e => .inl e
          have P1 := Lib.hid (HP.out.model hd1 hm1')
          have MM := Lib.hid hm1'
          rw [E.out.2.2]
          clear hd1 hm1 hm1' c3
          go_wp2_with fail
          exact Met.intro (HJ.out _ _ ⟨⟨by rw [E.out.1]; exact P1.out, MM.out⟩, rfl, rfl, rfl, rfl, rfl, rfl, rfl, by rw [HIN.out]; rfl, rfl, by rw [E.out.2.1]; rfl, trivial⟩)

        · obtain ⟨e1, e2⟩ := Dk.write_ok hE hl hc
          have e3 : decide (d.cut ≠ 0) = true := by simp [hc]
          have E := Lib.hid (And.intro e1 (And.intro e2 e3))
          have HC := Lib.hid (mpower_any q lb sm fb d w HP.out.m)
          have HL := Lib.hid hl
          clear hE e1 e2 e3 hin hdd hc hl
          conv => arg 2; whnf
          go_wp2_with fail
          refine HSZ.out.mono ?_
          clear HSZ
          rintro e w' ⟨rfl, rfl⟩
          go_wp2_with fail
          refine HC.out.mono ?_
          clear HC
          rintro e w1 ⟨rfl, hd1, hm1⟩
          have hm1' : Mod (Own4 q lb sm fb) w w1 := hm1.weaken fun _ _ e => .inl e
          rw [E.out.2.2]
          clear c3
          obtain ⟨lc, sc, fc, nn, (ho : w1.heap[q]? = some (.cells #[.slice (some ⟨lb, 0, none⟩) d.n lc, .slice (some ⟨sm, 0, none⟩) d.n sc, .slice (some ⟨fb, 0, none⟩) d.n fc, .bool d.power.dead, .bool (decide (d.power.cut ≠ -1)), .int .i64 nn] 48 (0, 0))), _⟩ := hd1.obj
          obtain ⟨cul, hcl⟩ := hd1.l
          obtain ⟨cuf, hcf⟩ := hd1.f
          obtain ⟨vl, hvl, _⟩ := hcl.cell k hkn
          obtain ⟨e1, e2, e3, e4, e5, e6⟩ := hd1.diff
          have q0 := cell_of (i := 0) ho rfl
          have q2 := cell_of (i := 2) ho rfl
          have cl := cell_ofA hcl.heap hvl
          have cf := cell_ofA hcf.heap (hcf.cell k hkn)
          have fl := frozen_of k hcl.heap
          have ff := frozen_of k hcf.heap
          generalize fresh d.power k = p at *
          have hm12 : Mod (· = lb) w1 (w1.drew.setCell ⟨lb, k, none⟩ (.slice (some ⟨vb, vo, none⟩) L.length vc)) := ((Mod.refl (· = lb) w1).drew).setCell (fun _ => rfl) _
          have HS12 := Lib.hid (show (w1.drew.setCell ⟨lb, k, none⟩ (.slice (some ⟨vb, vo, none⟩) L.length vc)).cell? ⟨q, 0, none⟩ = some (.slice (some ⟨lb, 0, none⟩) d.n lc) ∧ (w1.drew.setCell ⟨lb, k, none⟩ (.slice (some ⟨vb, vo, none⟩) L.length vc)).cell? ⟨q, 2, none⟩ = some (.slice (some ⟨fb, 0, none⟩) d.n fc) ∧ (w1.drew.setCell ⟨lb, k, none⟩ (.slice (some ⟨vb, vo, none⟩) L.length vc)).cell? ⟨fb, k, none⟩ = some (.bool p) from ⟨hm12.cell q0 e1, hm12.cell q2 e1, hm12.cell cf (Ne.symm e5)⟩)
          have hm13 : Mod (· = lb) w1 (w1.setCell ⟨lb, k, none⟩ (.slice (some ⟨vb, vo, none⟩) L.length vc)) := (Mod.refl (· = lb) w1).setCell (fun _ => rfl) _
          have ff12 := frozen_of k (hm13.keep hcf.heap (Ne.symm e5))
          have cf12 := hm13.cell cf (Ne.symm e5)
          have MM := Lib.hid hm1'
          have P1 := Lib.hid (HP.out.model hd1 hm1')
          have hk0 : (0 : Int) ≤ (k : Int) := Int.natCast_nonneg _
          have hk1 : (k : Int) < (d.n : Int) := by omega
          have hsl1 : Sl w1.drew No 5 (.slice (some ⟨vb, vo, none⟩) L.length vc) d.sz (bv L) := by
            rw [← HL.out]
            exact HV.out.keep hm1'.drew fun k cur fz s _ hx => HP.out.m.not_bytes s cur fz hx
          have HS1 := Lib.hid hsl1
          clear hd1 hm1 hm1' ho hcl hcf hvl e1 e2 e3 e4 e5 e6 hm12 hm13 hsl1
          go_upto_region 32 with fail
          have hS0 : w1.drew.cell? ⟨q, 0, none⟩ = some (.slice (some ⟨lb, 0, none⟩) d.n lc) ∧ w1.drew.cell? ⟨q, 2, none⟩ = some (.slice (some ⟨fb, 0, none⟩) d.n fc) ∧ w1.drew.cell? ⟨fb, k, none⟩ = some (.bool p) := ⟨q0, q2, cf⟩
          refine wp_region_T (fun w' => w'.cell? ⟨q, 0, none⟩ = some (.slice (some ⟨lb, 0, none⟩) d.n lc) ∧ w'.cell? ⟨q, 2, none⟩ = some (.slice (some ⟨fb, 0, none⟩) d.n fc) ∧ w'.cell? ⟨fb, k, none⟩ = some (.bool p)) 14 (by kernel_rfl) ?_
          refine wpAnyT_take 0 (some 159) ?_ rfl rfl (by kernel_rfl) (fun _ _ _ h => h) hS0 (Or.inl ⟨by rfl, ?_⟩) ?_
          rotate_left
          · (intro w' hSw; (try dsimp only at hSw); go_simp; try with_reducible rfl)
          simp only [Act.put, List.setIfInBounds_toArray, List.set_cons_zero, List.set_cons_succ]
          refine wpAnyT_take 1 (some 160) ?_ rfl rfl (by kernel_rfl) (fun _ _ _ h => h) hS0 (Or.inl ⟨by rfl, ?_⟩) ?_
          rotate_left
          · (intro w' hSw; (try dsimp only at hSw); go_simp; try with_reducible rfl)
          simp only [Act.put, List.setIfInBounds_toArray, List.set_cons_zero, List.set_cons_succ]
          refine wpAnyT_take 2 (some 161) ?_ rfl rfl (by kernel_rfl) (fun _ _ _ h => h) hS0 (Or.inl ⟨by rfl, ?_⟩) ?_
          rotate_left
          · (intro w' hSw; (try dsimp only at hSw); go_simp; try with_reducible rfl)
          simp only [Act.put, List.setIfInBounds_toArray, List.set_cons_zero, List.set_cons_succ]
          refine wpAnyT_take 3 (some 162) ?_ rfl rfl (by kernel_rfl) (fun _ _ _ h => h) hS0 (Or.inl ⟨by rfl, ?_⟩) ?_
          rotate_left
          · (intro w' hSw; (try dsimp only at hSw); go_simp; try with_reducible rfl)
          simp only [Act.put, List.setIfInBounds_toArray, List.set_cons_zero, List.set_cons_succ]
          refine wpAnyT_take 4 (some 163) ?_ rfl rfl (by kernel_rfl) (fun _ _ _ h => h) hS0 (Or.inl ⟨by rfl, ?_⟩) ?_
          rotate_left
          · (intro w' hSw; (try dsimp only at hSw); go_simp; try with_reducible rfl)
          simp only [Act.put, List.setIfInBounds_toArray, List.set_cons_zero, List.set_cons_succ]
          refine wpAnyT_take 5 (some 164) ?_ rfl rfl (by kernel_rfl) (fun _ _ _ h => h) hS0 (Or.inl ⟨by rfl, ?_⟩) ?_
          rotate_left
          · (intro w' hSw; (try dsimp only at hSw); go_simp; try with_reducible rfl)
          simp only [Act.put, List.setIfInBounds_toArray, List.set_cons_zero, List.set_cons_succ]
          refine wpAnyT_take 6 (some 165) ?_ rfl rfl (by kernel_rfl) (fun _ _ _ h => h) hS0 (Or.inl ⟨by rfl, ?_⟩) ?_
          rotate_left
          · (intro w' hSw; (try dsimp only at hSw); go_simp; try with_reducible rfl)
          simp only [Act.put, List.setIfInBounds_toArray, List.set_cons_zero, List.set_cons_succ]
          refine wpAnyT_take 7 (some 166) ?_ rfl rfl (by kernel_rfl) (fun _ _ _ h => h) hS0 (Or.inl ⟨by rfl, ?_⟩) ?_
          rotate_left
          · (intro w' hSw; (try dsimp only at hSw); go_simp; try with_reducible rfl)
          simp only [Act.put, List.setIfInBounds_toArray, List.set_cons_zero, List.set_cons_succ]
          refine wpAnyT_take 8 (some 167) ?_ rfl rfl (by kernel_rfl) (fun _ _ _ h => h) hS0 (Or.inl ⟨by rfl, ?_⟩) ?_
          rotate_left
          · (intro w' hSw; (try dsimp only at hSw); go_simp; try with_reducible rfl)
          simp only [Act.put, List.setIfInBounds_toArray, List.set_cons_zero, List.set_cons_succ]
          refine wpAnyT_take 9 (some 168) ?_ rfl rfl (by kernel_rfl) (fun _ _ _ h => h) hS0 (Or.inl ⟨by rfl, ?_⟩) ?_
          rotate_left
          · (intro w' hSw; (try dsimp only at hSw); go_simp; try with_reducible rfl)
          simp only [Act.put, List.setIfInBounds_toArray, List.set_cons_zero, List.set_cons_succ]
          refine wpAnyT_take 10 (some 169) ?_ rfl rfl (by kernel_rfl) (fun _ _ _ h => h) hS0 (Or.inl ⟨by rfl, ?_⟩) ?_
          rotate_left
          · (intro w' hSw; (try dsimp only at hSw); go_simp; try with_reducible rfl)
          simp only [Act.put, List.setIfInBounds_toArray, List.set_cons_zero, List.set_cons_succ]
          refine wpAnyT_take 11 (some 170) ?_ rfl rfl (by kernel_rfl) (fun _ _ _ h => h) hS0 (Or.inl ⟨by rfl, ?_⟩) ?_
          rotate_left
          · (intro w' hSw; (try dsimp only at hSw); go_simp; try with_reducible rfl)
          simp only [Act.put, List.setIfInBounds_toArray, List.set_cons_zero, List.set_cons_succ]
          refine wpAnyT_one 12 rfl (by kernel_rfl) rfl ?_
          intro K hK
          go_simp
          show K _ _
          refine hK.out _ _ (fun _ => HS12.out) ?_
          clear hK K
          refine wpAnyT_one 13 rfl (by kernel_rfl) rfl ?_
          intro K hK
          go_simp
          show K _ _
          refine hK.out _ _ (fun _ => HS12.out) ?_
          clear hK K
          refine wpAnyT_one 14 rfl (by kernel_rfl) rfl ?_
          intro K hK
          go_simp
          show K _ _
          refine hK.out _ _ (fun h => absurd rfl h) ?_
          clear hK K
          refine wpAnyT_done (by kernel_rfl) ?_ _

          go_wp2_with fail
          have hput := P1.out.m.put hkn (Mod.refl No w1).drew HS1.out HL.out
          have hM : Mod (Own4 q lb sm fb) w1 ((w1.drew.setCell ⟨lb, k, none⟩ (.slice (some ⟨vb, vo, none⟩) L.length vc)).setCell ⟨fb, k, none⟩ (.bool true)) := (((Mod.refl (Own4 q lb sm fb) w1).drew).setCell (fun _ => .inr (.inl rfl)) _).setCell (fun _ => .inr (.inr (.inr rfl))) _
          exact Met.intro (HJ.out _ _ ⟨⟨by rw [E.out.1]; exact P1.out.model hput hM, MM.out.trans hM⟩, rfl, rfl, rfl, rfl, rfl, rfl, rfl, by rw [HIN.out]; rfl, rfl, by rw [E.out.2.1]; rfl, trivial⟩)

      · have hlb : ((L.length : Int) == (d.sz : Int)) = false := by simp; omega
        obtain ⟨e1, e2⟩ := Dk.write_len hE hl
        have E := Lib.hid (And.intro e1 e2)
        clear hE e1 e2 hin hdd hl
        conv => arg 2; whnf
        go_wp2_with fail
        refine HSZ.out.mono ?_
        clear HSZ
        rintro e w' ⟨rfl, rfl⟩
        go_wp2_with fail
        exact Met.intro (HJ.out _ _ ⟨⟨by rw [E.out.1]; exact HP.out, Mod.refl _ _⟩, rfl, rfl, rfl, rfl, rfl, rfl, rfl, by rw [HIN.out]; rfl, rfl, by rw [E.out.2]; rfl, trivial⟩)


end Go.Proofs.Ytjmnpfbinjlegaa
