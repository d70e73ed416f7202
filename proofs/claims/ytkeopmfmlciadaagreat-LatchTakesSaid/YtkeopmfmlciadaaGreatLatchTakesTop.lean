/-
  LatchTakes: for every input the law returns true, and its arguments read as they did. No conditions beyond the given statement's own.
-/
import Derived.Test.YtkeopmfmlciadaaGreatJLatch
import Derived.ProofKit
import Derived.OpenShut
import Derived.ShutString
import Derived.ChangeOld
namespace Go.Proofs.YtkeopmfmlciadaaGreat
open Go.RowKit Go.Maps Go.Sort

theorem refuse_own (o E : Nat) : refuse (some (o, E)) true (o : Int) E = true := by simp [refuse]
theorem refuse_nobody (held : Bool) (ow : Int) (E : Nat) : refuse none held ow E = false := rfl

theorem left_other (ow o : Int) (h : ¬ ow = o) : leftB true ow o = true := by simp [leftB, h]

set_option maxRecDepth 100000 in
set_option maxHeartbeats 4000000 in
theorem takes25_walk (a0 : Int) (h0 : (Lit.int .u8 a0).wf = true) (b0 : Int) (k0 : (Lit.int .u8 b0).wf = true) (t0 : Int) (j0 : (Lit.int .u8 t0).wf = true) (w : World) :
    Calls Tryz.prog 10 #[.int .u8 a0, .int .u8 b0, .int .u8 t0] w fun e w' => e = .returned (.bool true) ∧ Mod No w w' := by
  refine calls_hide fun R hR => ?_
  obtain ⟨ab, rfl⟩ := byte_of a0 h0
  have ha := UInt8.toNat_lt ab
  generalize ab.toNat = a at *
  obtain ⟨bb, rfl⟩ := byte_of b0 k0
  have hb := UInt8.toNat_lt bb
  generalize bb.toNat = c at *
  obtain ⟨tb, rfl⟩ := byte_of t0 j0
  have ht := UInt8.toNat_lt tb
  generalize tb.toNat = t at *
  have ha0 : (0 : Int) ≤ (a : Int) := Int.natCast_nonneg _
  have hc0 : (0 : Int) ≤ (c : Int) := Int.natCast_nonneg _
  have ht0 : (0 : Int) ≤ (t : Int) := Int.natCast_nonneg _
  have ha1 : (a : Int) < 256 := by omega
  have hc1 : (c : Int) < 256 := by omega
  have ht1 : (t : Int) < 256 := by omega
  clear h0 k0 j0
  go_enter Tryz.func10, Tryz.ntmps10
  go_wp2_with fail
  with_reducible refine (known25_any w).mono ?_
  rintro e w0 ⟨rfl, hm0⟩
  have HM0 := Lib.hid hm0
  clear hm0
  go_wp2_with fail
  with_reducible refine (disk_new No 400 512 w0 (no_lt5 w0)).mono ?_
  rintro e w1 ⟨b, sb, mb, rfl, hb1, hb2, hb3, hd1, hm1⟩
  have HD1 := Lib.hid (show DkAt w1 No b sb mb (Dk.new 400 512) ∧ (w.heap.size ≤ b ∧ w.heap.size ≤ sb ∧ w.heap.size ≤ mb) ∧ Mod No w w1 from ⟨hd1, by have := HM0.out.size; omega, HM0.out.trans hm1⟩)
  clear hb1 hb2 hb3 hd1 hm1
  go_wp2_with fail
  with_reducible refine (Sto.first (w0 := w) (n := 400) (z := 512) (N := 400) (sz := 512) (by decide) (by decide) (by decide) (by decide) HD1.out.1 HD1.out.2.1 HD1.out.2.2).mono ?_
  rintro e w2 ⟨s, O, rfl, hs2, -, -⟩
  have HY2 := Lib.hid (Ly.first hs2)
  clear hs2 HD1 HM0
  go_wp2_with fail
  with_reducible refine (HY2.out.open_ (by decide) (by decide) (by decide) (by decide) (by decide)).mono ?_
  rintro e w3 ⟨x, rfl, hy3, hx3, -, -⟩
  have HY3 := Lib.hid (show Ly w w3 400 512 b s 1 none false 1 1 (fun q => No q ∨ q = x) from hy3)
  have HX3 := Lib.hid (show LtAt w3 x s 1 0 false from hx3)
  clear hy3 hx3 HY2
  go_wp2_with fail
  go_loopw [11] (fun i wr => ∃ (j : Nat) (ow : Int), j ≤ 4 ∧ i = .int .i64 j ∧ Ly w wr 400 512 b s 1 none (decide (0 < j)) (1 + 10 * j) (1 + 10 * j) (fun q => No q ∨ q = x) ∧ LtAt wr x s 1 ow false) (fun i _ => 5 - (intOf i).toNat)
  case atStart => exact ⟨0, 0, by omega, rfl, HY3.out, HX3.out⟩
  case round =>
    clear HY3 HX3
    obtain ⟨j, ow, hj, rfl, hy, hx⟩ := hrel
    have hj0 : (0 : Int) ≤ (j : Int) := Int.natCast_nonneg _
    have HY := Lib.hid hy
    have HX := Lib.hid hx
    clear hy hx
    by_cases hlt : j < t % 4 + 1
    · have hj1 : (j : Int) < (t : Int) % 4 + 1 := by omega
      have hj3 : j ≤ 3 := by omega
      have HT := Lib.hid (HY.out.try_yes (by decide) (by decide) (by omega) (by omega) HX.out (.inr rfl) (by decide) (refuse_nobody _ _ _) a (by omega))
      go_wp2_with fail
      with_reducible refine HT.out.mono ?_
      rintro e w4 ⟨rfl, hy4, hx4, -⟩
      have HL4 := Lib.hid (hy4.leave (o := (a : Int) + 1 + (c : Int)) hx4 (.inr rfl))
      clear hy4 hx4 HT HY HX
      go_wp2_with fail
      with_reducible refine HL4.out.mono ?_
      rintro e w5 ⟨rfl, hy5, hx5, -⟩
      rw [left_other _ _ (by omega)] at hx5
      have HY5 := Lib.hid hy5
      have HX5 := Lib.hid hx5
      have HT5 := Lib.hid (hy5.try_no hx5 (refuse_own a 1) (c : Int))
      clear hy5 hx5 HL4
      go_wp2_with fail
      with_reducible refine HT5.out.mono ?_
      rintro e w6 ⟨rfl, hm6⟩
      have HY6 := Lib.hid (HY5.out.stay hm6)
      have HX6 := Lib.hid (HX5.out.stay hm6)
      have HPA := Lib.hid (lpair_any (x := x) (w := w6))
      clear hm6 HT5 HY5 HX5
      go_wp2_with fail
      with_reducible refine HPA.out.mono ?_
      rintro e w7 ⟨rfl, hm7⟩
      obtain ⟨w8, hw8⟩ : ∃ w8, w8 = w7.alloc (.cells #[.string ⟨#[120, 47, 107]⟩, .string ⟨#[49]⟩, .bool false, .string ⟨#[108, 47, 104, 111, 108, 100, 101, 114]⟩, .string ⟨#[]⟩, .bool true] 32) := ⟨_, rfl⟩
      obtain ⟨g, hg⟩ : ∃ g, g = w7.heap.size := ⟨_, rfl⟩
      have h8 : w8.heap[g]? = some (.cells #[.string ⟨keyX.toArray⟩, .string ⟨#[49]⟩, .bool false, .string ⟨keyH.toArray⟩, .string ⟨#[]⟩, .bool true] 32 (0, 0)) := by rw [hw8, hg]; exact heap_alloc_new _ _
      have hm8 : Mod No w6 w8 := by rw [hw8]; exact hm7.alloc _
      have HA8 := Lib.hid ((HY6.out.stay hm8).takes2 (by decide) (by decide) (by omega) (by omega) h8)
      have HX8 := Lib.hid (HX6.out.stay hm8)
      have HG := Lib.hid hg
      have HW8 := Lib.hid hw8
      clear hm7 hw8 hg h8 hm8 HY6 HX6 HPA
      go_wp2_with (rw [← HW8.out, ← HG.out])
      with_reducible refine HA8.out.mono ?_
      rintro e w9 ⟨rfl, hy9, hm9⟩
      have hx9 := HX8.out.keep hm9 (fun f => f (.inr rfl))
      have HL9 := Lib.hid (hy9.leave (o := (a : Int)) hx9 (.inr rfl))
      clear hy9 hm9 hx9 HA8 HX8 HW8 HG
      go_wp2_with fail
      with_reducible refine HL9.out.mono ?_
      rintro e w10 ⟨rfl, hy10, hx10, -⟩
      have HY10 := Lib.hid hy10
      have HX10 := Lib.hid (show LtAt w10 x s 1 (a : Int) false by simpa [leftB] using hx10)
      have HH10 := Lib.hid (show Calls Tryz.prog 30 #[.pointer (some ⟨x, 0, none⟩)] w10 fun e w' => e = .returned (.tuple #[.int .i64 0, .int .i64 0, .bool false]) ∧ Mod No w10 w' from hy10.holder hx10)
      clear hy10 hx10 HL9
      go_wp2_with fail
      with_reducible refine HH10.out.mono ?_
      rintro e w11 ⟨rfl, hm11⟩
      have HY11 := Lib.hid (show Ly w w11 400 512 b s 1 none (decide (0 < j + 1)) (1 + 10 * (j + 1)) (1 + 10 * (j + 1)) (fun q => No q ∨ q = x) from by
        rw [show decide (0 < j + 1) = true from decide_eq_true (by omega)]
        exact (HY10.out.stay hm11).more (by omega) (by omega))
      have HX11 := Lib.hid (HX10.out.stay hm11)
      clear hm11 HH10 HY10 HX10
      go_wp2_with fail
      exact ⟨⟨j + 1, a, by omega, by go_num, HY11.out, HX11.out⟩, by go_light; simp only [intOf]; omega⟩
    · have hj1 : (t : Int) % 4 + 1 ≤ (j : Int) := by omega
      have HG := Lib.hid (show Calls Tryz.prog 17 #[.pointer (some ⟨s, 0, none⟩), .string ⟨#[120, 47, 107]⟩] wr fun e w' => e = .returned (.tuple #[.string ⟨#[49]⟩, .bool true]) ∧ w' = wr from by
        have h := HY.out
        rw [show decide (0 < j) = true from decide_eq_true (by omega)] at h
        exact h.getX)
      have HM := Lib.hid HY.out.mod
      clear HY HX
      go_wp2_with fail
      with_reducible refine HG.out.mono ?_
      rintro e w4 ⟨rfl, h2⟩
      subst h2
      clear HG
      go_wp2_with fail
      exact fin hR ⟨rfl, HM.out⟩

end Go.Proofs.YtkeopmfmlciadaaGreat
namespace Go.Proofs.YtkeopmfmlciadaaGreat.lawLatchTakes
open Go.ChangeShapes Go.WideShapes Go.ChangeAt Go.RowKit
open Go.ChangeMaps (open_string shut_string)

theorem own : ownKnob Tryz.prog.godebug = none := by kernel_rfl
theorem laidOut : laidOutB Tryz.prog = true := by kernel_rfl

set_option maxRecDepth 100000 in
theorem lifted (os : Os) (started : os.Started) (H : Type) (enc : TypeId × Value → H) :
    ReturnsInHanded {} Tryz.checked os 10 .any (Rows.latchTakesSpec.pre6 enc Tryz.prog Tryz.f10 Rows.latchTakesRow.domain false) (Rows.latchTakesSpec.post enc Tryz.prog Tryz.f10 false true false false) := by
  refine returnsInHanded_of_change (C := Tryz.checked) own started (by kernel_rfl) Tryz.func10
    (ChangeSpec.witness6 (enc := enc) (C := Tryz.checked) false ⟨#[], #[.int .u8 0, .int .u8 0, .int .u8 0], []⟩ 8 (by kernel_rfl) (by kernel_rfl) (by kernel_rfl) (by kernel_rfl)) ?_
  intro W base args ds gs before hval0 hW _ _
  have hval : ∀ (j : Nat) t v, Tryz.f10.params[j]? = some t → args[j]? = some v → Value.okWide Tryz.prog W .any base t v := hval0
  have hW' := hW
  obtain ⟨p, q, hA0, hV, rfl, hfz, hnd⟩ := hW
  have hA : DataW.TrodAll enc Tryz.prog W 0 (fun _ => true) true Tryz.f10.params.toList args.toList ds p := hA0
  rw [Tryz.params10] at hA hval
  obtain ⟨v0, vs0, d0, ds0, p0, q0, hargs, rfl, rfl, h0, r0⟩ := trodAll_cons hA
  obtain ⟨v1, vs1, d1, ds1, p1, q1, rfl, rfl, rfl, h1, r1⟩ := trodAll_cons r0
  obtain ⟨v2, vs2, d2, ds2, p2, q2, rfl, rfl, rfl, h2, r2⟩ := trodAll_cons r1
  obtain ⟨rfl, rfl, rfl⟩ := trodAll_nil r2
  obtain rfl : args = #[v0, v1, v2] := by cases args; simp_all
  obtain ⟨rfl, rfl⟩ := trodVars_none hV
  obtain ⟨a0, rfl, rfl, rfl, w0⟩ := open_int Tryz.underlying5 (hval 0 5 v0 rfl rfl) h0
  obtain ⟨a1, rfl, rfl, rfl, w1⟩ := open_int Tryz.underlying5 (hval 1 5 v1 rfl rfl) h1
  obtain ⟨a2, rfl, rfl, rfl, w2⟩ := open_int Tryz.underlying5 (hval 2 5 v2 rfl rfl) h2
  clear hA0 hval0
  refine (takes25_walk a0 w0 a1 w1 a2 w2 W).mono fun e W' ⟨he, hm⟩ => ?_
  have bel := hm.below
  subst he
  exact ⟨_, rfl, _, _, _, [], _, [], hW', trodAll_mk1 (shut_bool Tryz.underlying4 _), (trodAll_cons_mk (shut_int Tryz.underlying5 w0) (trodAll_cons_mk (shut_int Tryz.underlying5 w1) (trodAll_cons_mk (shut_int Tryz.underlying5 w2) trodAll_mk0))), rfl, bel.frame _, fun h => by cases h⟩

/-- The statement. -/
theorem proved : Rows.LatchTakesSaid :=
  OpenClaim.holds_of_wide 10 Tryz.f10 rfl rfl rfl rfl rfl rfl rfl ⟨rfl, rfl, rfl, rfl, rfl⟩ rfl rfl rfl rfl rfl (by kernel_rfl) Tryz.func10 (by kernel_rfl)
    (of_decide_eq_true (by kernel_rfl)) (by unfold Func.isWrapper; first | (rw [if_pos (by decide +kernel)]; kernel_rfl) | (rw [if_neg (by decide +kernel)]; exact ⟨rfl, rfl⟩))
    (fun os started H enc _ => lifted os started H enc)

end Go.Proofs.YtkeopmfmlciadaaGreat.lawLatchTakes
