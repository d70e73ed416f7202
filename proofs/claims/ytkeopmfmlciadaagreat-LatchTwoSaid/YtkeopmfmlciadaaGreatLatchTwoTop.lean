/-
  LatchTwo: for every input the law returns true, and its arguments read as they did. No conditions beyond the given statement's own.
-/
import Derived.Test.YtkeopmfmlciadaaGreatJLatch
import Derived.Deep.CutRange
import Derived.ProofKit
import Derived.OpenShut
import Derived.ShutString
import Derived.ChangeOld
namespace Go.Proofs.YtkeopmfmlciadaaGreat
open Go.RowKit Go.Maps Go.Sort

theorem refuse_not (hs : Option (Nat × Nat)) (ow : Int) (E : Nat) : refuse hs false ow E = false := by
  cases hs with
  | none => rfl
  | some p => rfl

theorem refuse_self (o E : Nat) : refuse (some (o, E)) true (o : Int) E = true := by simp [refuse]

set_option maxRecDepth 100000 in
set_option maxHeartbeats 4000000 in
theorem two25_walk (a0 : Int) (h0 : (Lit.int .u8 a0).wf = true) (b0 : Int) (k0 : (Lit.int .u8 b0).wf = true) (leave : Bool) (w : World) :
    Calls Tryz.prog 8 #[.int .u8 a0, .int .u8 b0, .bool leave] w fun e w' => e = .returned (.bool true) ∧ Mod No w w' := by
  refine calls_hide fun R hR => ?_
  obtain ⟨ab, rfl⟩ := byte_of a0 h0
  have ha := UInt8.toNat_lt ab
  generalize ab.toNat = a at *
  obtain ⟨bb, rfl⟩ := byte_of b0 k0
  have hb := UInt8.toNat_lt bb
  generalize bb.toNat = c at *
  have ha0 : (0 : Int) ≤ (a : Int) := Int.natCast_nonneg _
  have hc0 : (0 : Int) ≤ (c : Int) := Int.natCast_nonneg _
  have ha1 : (a : Int) < 256 := by omega
  have hc1 : (c : Int) < 256 := by omega
  clear h0 k0
  go_enter Tryz.func8, Tryz.ntmps8
  go_wp2_with fail
  with_reducible refine (known25_any w).mono ?_
  rintro e w0 ⟨rfl, hm0⟩
  have HM0 := Lib.hid hm0
  clear hm0
  go_wp2_with fail
  with_reducible refine (disk_new No 400 512 w0 (no_lt5 w0)).mono ?_
  rintro e w1 ⟨b, sb, mb, rfl, hb1, hb2, hb3, hd1, hm1⟩
  have HD1 := Lib.hid (show DkAt w1 No b sb mb (Dk.new 400 512) ∧ (w.heap.size ≤ b ∧ w.heap.size ≤ sb ∧ w.heap.size ≤ mb) ∧ Mod No w w1 from ⟨hd1, by have := HM0.out.size; omega, HM0.out.trans hm1⟩)
  clear hb1 hb2 hb3 hd1 hm1
  go_wp2_with fail
  with_reducible refine (Sto.first (w0 := w) (n := 400) (z := 512) (N := 400) (sz := 512) (by decide) (by decide) (by decide) (by decide) HD1.out.1 HD1.out.2.1 HD1.out.2.2).mono ?_
  rintro e w2 ⟨s, O, rfl, hs2, -, -⟩
  have HY2 := Lib.hid (Ly.first hs2)
  clear hs2 HD1 HM0
  go_wp2_with fail
  with_reducible refine (HY2.out.open_ (by decide) (by decide) (by decide) (by decide) (by decide)).mono ?_
  rintro e w3 ⟨x, rfl, hy3, hx3, -, -⟩
  have HT3 := Lib.hid (show Calls Tryz.prog 27 #[.pointer (some ⟨x, 0, none⟩), .int .i64 (a : Int)] w3 fun e w' => e = .returned (.tuple #[.bool true, .int .i64 0]) ∧ Ly w w' 400 512 b s 1 (some (a, 1)) false (1 + 1) (1 + 1) (fun q => No q ∨ q = x) ∧ LtAt w' x s 1 (a : Int) true ∧ Mod (fun q => ¬ (No q ∨ q = x) ∨ q = x) w3 w' from
    hy3.try_yes (by decide) (by decide) (by decide) (by decide) hx3 (.inr rfl) (by decide) rfl a (by omega))
  clear hy3 hx3 HY2
  go_wp2_with fail
  with_reducible refine HT3.out.mono ?_
  rintro e w4 ⟨rfl, hy4, hx4, -⟩
  have HY4 := Lib.hid hy4
  have HX4 := Lib.hid hx4
  clear hy4 hx4 HT3
  go_upto_if 49 with fail
  go_cut [] (fun wx => ∃ hd : Bool, Ly w wx 400 512 b s 1 (some (a, 1)) false (1 + 1) (1 + 1) (fun q => No q ∨ q = x) ∧ LtAt wx x s 1 (a : Int) hd)
  case first =>
    have HLE := Lib.hid (HY4.out.leave (o := (a : Int)) HX4.out (.inr rfl))
    cases leave with
    | true =>
      go_wp2_with fail
      with_reducible refine HLE.out.mono ?_
      rintro e w5 ⟨rfl, hy5, hx5, -⟩
      have HY5 := Lib.hid hy5
      have HX5 := Lib.hid hx5
      clear hy5 hx5 HLE
      go_wp2_with fail
      go_meet
      exact ⟨_, HY5.out, HX5.out⟩
    | false =>
      go_wp2_with fail
      go_meet
      exact ⟨_, HY4.out, HX4.out⟩
  case rest =>
    obtain ⟨hd, hy5, hx5⟩ := hcut
    have HX5 := Lib.hid hx5
    have HO5 := Lib.hid (hy5.open_ (by decide) (by decide) (by decide) (by decide) (by decide))
    have HLT := Lib.hid (hy5.lt (.inr rfl))
    clear hy5 hx5 HY4 HX4
    go_wp2_with fail
    with_reducible refine HO5.out.mono ?_
    clear HO5
    rintro e w6 ⟨y, rfl, hy6, hx6, hyn, hm6⟩
    have HY6 := Lib.hid (show Ly w w6 400 512 b s 2 (some (a, 1)) false (1 + 1 + 1) (1 + 1 + 1) (fun q => (No q ∨ q = x) ∨ q = y) from hy6)
    have HW6 := Lib.hid (show LtAt w6 y s 2 0 false from hx6)
    have HX6 := Lib.hid (HX5.out.keep hm6 (fun f => f (.inr rfl)))
    have HNE := Lib.hid (show x ≠ y by have := HLT.out; omega)
    clear hy6 hx6 hyn hm6 HX5
    have HE1 := Lib.hid (show Calls Tryz.prog 29 #[.pointer (some ⟨x, 0, none⟩)] w6 fun e w' => e = .returned (.int .i64 1) ∧ w' = w6 from lepoch_any HX6.out)
    have HE2 := Lib.hid (show Calls Tryz.prog 29 #[.pointer (some ⟨y, 0, none⟩)] w6 fun e w' => e = .returned (.int .i64 2) ∧ w' = w6 from lepoch_any HW6.out)
    go_wp2_with fail
    with_reducible refine HE2.out.mono ?_
    rintro e w7 ⟨rfl, h2⟩
    subst h2
    go_wp2_with fail
    with_reducible refine HE1.out.mono ?_
    rintro e w8 ⟨rfl, h2⟩
    subst h2
    clear HE1 HE2
    have HH8 := Lib.hid (show Calls Tryz.prog 30 #[.pointer (some ⟨y, 0, none⟩)] w8 fun e w' => e = .returned (.tuple #[.int .i64 (a : Int), .int .i64 1, .bool true]) ∧ Mod No w8 w' from HY6.out.holder HW6.out)
    go_wp2_with fail
    with_reducible refine HH8.out.mono ?_
    rintro e w9 ⟨rfl, hm9⟩
    have HY9 := Lib.hid (HY6.out.stay hm9)
    have HX9 := Lib.hid (HX6.out.stay hm9)
    have HW9 := Lib.hid (HW6.out.stay hm9)
    clear hm9 HH8 HY6 HX6 HW6
    have HE1 := Lib.hid (show Calls Tryz.prog 29 #[.pointer (some ⟨x, 0, none⟩)] w9 fun e w' => e = .returned (.int .i64 1) ∧ w' = w9 from lepoch_any HX9.out)
    go_wp2_with fail
    with_reducible refine HE1.out.mono ?_
    rintro e w10 ⟨rfl, h2⟩
    subst h2
    clear HE1
    have HT10 := Lib.hid (HY9.out.try_yes (by decide) (by decide) (by decide) (by decide) HW9.out (.inr rfl) (by decide) (refuse_not _ _ _) c (by omega))
    go_wp2_with fail
    with_reducible refine HT10.out.mono ?_
    rintro e w11 ⟨rfl, hy11, hw11, hm11⟩
    have HY11 := Lib.hid hy11
    have HW11 := Lib.hid hw11
    have HX11 := Lib.hid (HX9.out.keep hm11 (fun f => f.elim (fun f => f (.inl (.inr rfl))) HNE.out))
    clear hy11 hw11 hm11 HT10 HY9 HX9 HW9
    have HH11 := Lib.hid (show Calls Tryz.prog 30 #[.pointer (some ⟨x, 0, none⟩)] w11 fun e w' => e = .returned (.tuple #[.int .i64 (c : Int), .int .i64 2, .bool true]) ∧ Mod No w11 w' from HY11.out.holder HX11.out)
    go_wp2_with fail
    with_reducible refine HH11.out.mono ?_
    rintro e w12 ⟨rfl, hm12⟩
    have HY12 := Lib.hid (HY11.out.stay hm12)
    have HW12 := Lib.hid (HW11.out.stay hm12)
    clear hm12 HH11 HY11 HX11 HW11
    have HT12 := Lib.hid (HY12.out.try_no HW12.out (refuse_self c 2) (a : Int))
    go_wp2_with fail
    with_reducible refine HT12.out.mono ?_
    rintro e w13 ⟨rfl, hm13⟩
    have HM13 := Lib.hid (HY12.out.mod.trans hm13)
    have HE2 := Lib.hid (show Calls Tryz.prog 29 #[.pointer (some ⟨y, 0, none⟩)] w13 fun e w' => e = .returned (.int .i64 2) ∧ w' = w13 from lepoch_any (HW12.out.stay hm13))
    clear hm13 HT12 HY12 HW12
    go_wp2_with fail
    with_reducible refine HE2.out.mono ?_
    rintro e w14 ⟨rfl, h2⟩
    subst h2
    clear HE2
    go_wp2_with fail
    exact fin hR ⟨rfl, HM13.out⟩

end Go.Proofs.YtkeopmfmlciadaaGreat
namespace Go.Proofs.YtkeopmfmlciadaaGreat.lawLatchTwo
open Go.ChangeShapes Go.WideShapes Go.ChangeAt Go.RowKit
open Go.ChangeMaps (open_string shut_string)

theorem own : ownKnob Tryz.prog.godebug = none := by kernel_rfl
theorem laidOut : laidOutB Tryz.prog = true := by kernel_rfl

set_option maxRecDepth 100000 in
theorem lifted (os : Os) (started : os.Started) (H : Type) (enc : TypeId × Value → H) :
    ReturnsInHanded {} Tryz.checked os 8 .any (Rows.latchTwoSpec.pre6 enc Tryz.prog Tryz.f8 Rows.latchTwoRow.domain false) (Rows.latchTwoSpec.post enc Tryz.prog Tryz.f8 false true false false) := by
  refine returnsInHanded_of_change (C := Tryz.checked) own started (by kernel_rfl) Tryz.func8
    (ChangeSpec.witness6 (enc := enc) (C := Tryz.checked) false ⟨#[], #[.int .u8 0, .int .u8 0, .bool false], []⟩ 8 (by kernel_rfl) (by kernel_rfl) (by kernel_rfl) (by kernel_rfl)) ?_
  intro W base args ds gs before hval0 hW _ _
  have hval : ∀ (j : Nat) t v, Tryz.f8.params[j]? = some t → args[j]? = some v → Value.okWide Tryz.prog W .any base t v := hval0
  have hW' := hW
  obtain ⟨p, q, hA0, hV, rfl, hfz, hnd⟩ := hW
  have hA : DataW.TrodAll enc Tryz.prog W 0 (fun _ => true) true Tryz.f8.params.toList args.toList ds p := hA0
  rw [Tryz.params8] at hA hval
  obtain ⟨v0, vs0, d0, ds0, p0, q0, hargs, rfl, rfl, h0, r0⟩ := trodAll_cons hA
  obtain ⟨v1, vs1, d1, ds1, p1, q1, rfl, rfl, rfl, h1, r1⟩ := trodAll_cons r0
  obtain ⟨v2, vs2, d2, ds2, p2, q2, rfl, rfl, rfl, h2, r2⟩ := trodAll_cons r1
  obtain ⟨rfl, rfl, rfl⟩ := trodAll_nil r2
  obtain rfl : args = #[v0, v1, v2] := by cases args; simp_all
  obtain ⟨rfl, rfl⟩ := trodVars_none hV
  obtain ⟨a0, rfl, rfl, rfl, w0⟩ := open_int Tryz.underlying5 (hval 0 5 v0 rfl rfl) h0
  obtain ⟨a1, rfl, rfl, rfl, w1⟩ := open_int Tryz.underlying5 (hval 1 5 v1 rfl rfl) h1
  obtain ⟨a2, rfl, rfl, rfl⟩ := open_bool Tryz.underlying4 (hval 2 4 v2 rfl rfl) h2
  clear hA0 hval0
  refine (two25_walk a0 w0 a1 w1 a2 W).mono fun e W' ⟨he, hm⟩ => ?_
  have bel := hm.below
  subst he
  exact ⟨_, rfl, _, _, _, [], _, [], hW', trodAll_mk1 (shut_bool Tryz.underlying4 _), (trodAll_cons_mk (shut_int Tryz.underlying5 w0) (trodAll_cons_mk (shut_int Tryz.underlying5 w1) (trodAll_cons_mk (shut_bool Tryz.underlying4 _) trodAll_mk0))), rfl, bel.frame _, fun h => by cases h⟩

/-- The statement. -/
theorem proved : Rows.LatchTwoSaid :=
  OpenClaim.holds_of_wide 8 Tryz.f8 rfl rfl rfl rfl rfl rfl rfl ⟨rfl, rfl, rfl, rfl, rfl⟩ rfl rfl rfl rfl rfl (by kernel_rfl) Tryz.func8 (by kernel_rfl)
    (of_decide_eq_true (by kernel_rfl)) (by unfold Func.isWrapper; first | (rw [if_pos (by decide +kernel)]; kernel_rfl) | (rw [if_neg (by decide +kernel)]; exact ⟨rfl, rfl⟩))
    (fun os started H enc _ => lifted os started H enc)

end Go.Proofs.YtkeopmfmlciadaaGreat.lawLatchTwo
