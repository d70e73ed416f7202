/-
  StoreBatch: for every input the law returns true, and its arguments read as they did. No conditions beyond the given statement's own.
-/
import Derived.Test.YtkeopmfmlciadaaGreatJLawFive
import Derived.ProofKit
import Derived.OpenShut
import Derived.ShutString
import Derived.ChangeOld
namespace Go.Proofs.YtkeopmfmlciadaaGreat
open Go.RowKit Go.Maps

set_option maxRecDepth 100000 in
set_option maxHeartbeats 4000000 in
theorem batch5_walk (aa : Option Addr) (la ca : Nat) (l : List P5) {w : World} (hl : PsIn w aa la l) :
    Calls Tryz.prog 4 #[.slice aa la ca] w fun e w' => e = .returned (.bool true) ∧ Mod No w w' := by
  refine calls_hide fun R hR => ?_
  have hmm := @run_makeMap Tryz.prog
  have HA := Lib.hid hl
  obtain rfl := hl.len
  clear hl
  go_enter Tryz.func4, Tryz.ntmps4
  go_wp2_with fail
  with_reducible refine (known5_any w).mono ?_
  rintro e w1 ⟨rfl, hm1⟩
  have HM1 := Lib.hid hm1
  clear hm1
  by_cases h20 : 20 < l.length
  · have q : (20 : Int) < (l.length : Int) := by omega
    go_wp2_with fail
    exact fin hR ⟨rfl, HM1.out⟩
  · have q : (l.length : Int) ≤ 20 := by omega
    go_wp2_with fail
    with_reducible refine (disk_new No 400 512 w1 (no_lt5 w1)).mono ?_
    rintro e w3 ⟨b, sb, mb, rfl, hb1, hb2, hb3, hd3, hm3⟩
    have HD3 := Lib.hid (show DkAt w3 No b sb mb (Dk.new 400 512) ∧ (w.heap.size ≤ b ∧ w.heap.size ≤ sb ∧ w.heap.size ≤ mb) ∧ Mod No w w3 from ⟨hd3, by have := HM1.out.size; omega, HM1.out.trans hm3⟩)
    clear hb1 hb2 hb3 hd3 hm3
    go_wp2_with fail
    with_reducible refine (Sto.first (w0 := w) (n := 400) (z := 512) (N := 400) (sz := 512) (by decide) (by decide) (by decide) (by decide) HD3.out.1 HD3.out.2.1 HD3.out.2.2).mono ?_
    rintro e w4 ⟨s, O, rfl, hs4, -, -⟩
    obtain ⟨x, hx⟩ : ∃ x, x = w4.heap.size := ⟨_, rfl⟩
    obtain ⟨w5, hw5⟩ : ∃ w5, w5 = w4.alloc (.map #[] 0) := ⟨_, rfl⟩
    have HV5 := Lib.hid (show Lv w w5 400 512 b s x (fun _ => none) 7 0 by rw [hw5, hx]; exact Lv.first hs4)
    have HQ := Lib.hid hx
    have HW5 := Lib.hid hw5
    clear hx hw5 hs4 HD3 HM1
    go_upto_region 8 with fail
    rw [← HQ.out, ← HW5.out]
    have HBA : Hid (Calls Tryz.prog 18 #[.int .i64 1, .slice aa l.length ca, .map (some x)] w5 fun e w' => ∃ va vc, e = .returned (.slice va l.length vc) ∧ ∀ W, W = w' → Calls Tryz.prog 14 #[.pointer (some ⟨s, 0, none⟩), .slice va l.length vc] W fun e w'' => e = .returned (.int .i64 0) ∧ Lv w w'' 400 512 b s x (Mt.changes (fun _ => none) (prsOf 1 l)) (7 + l.length) (0 + 1)) := Lib.hid (HV5.out.batch (by decide) (by decide) (by omega) 1 (by omega) (c := ca) (HA.out.stay HV5.out.mod) (by omega) (by omega))
    go_wp2_with fail
    with_reducible refine HBA.out.mono ?_
    rintro e w6 ⟨va, vc, rfl, hap⟩
    have HAP := Lib.hid (hap w6 rfl)
    clear hap HBA
    go_wp2_with fail
    with_reducible refine HAP.out.mono ?_
    rintro e w7 ⟨rfl, h7⟩
    have HV6 := Lib.hid h7
    clear h7 HAP
    go_wp2_with fail
    with_reducible refine (HV6.out.alike (by omega)).mono ?_
    rintro e w8 ⟨rfl, h8, -⟩
    have HV7 := Lib.hid h8
    clear h8 HV6
    go_wp2_with fail
    with_reducible refine (HV7.out.reopen (by omega)).mono ?_
    rintro e w9 ⟨s', rfl, h9⟩
    have HV8 := Lib.hid h9
    clear h9 HV7
    go_wp2_with fail
    with_reducible refine (HV8.out.alike (by omega)).mono ?_
    rintro e w10 ⟨rfl, h10, -⟩
    have HM10 := Lib.hid h10.mod
    clear h10 HV8
    go_wp2_with fail
    exact fin hR ⟨rfl, HM10.out⟩

end Go.Proofs.YtkeopmfmlciadaaGreat
namespace Go.Proofs.YtkeopmfmlciadaaGreat.lawStoreBatch
open Go.ChangeShapes Go.WideShapes Go.ChangeAt Go.RowKit
open Go.ChangeMaps (open_string shut_string)

theorem own : ownKnob Tryz.prog.godebug = none := by kernel_rfl
theorem laidOut : laidOutB Tryz.prog = true := by kernel_rfl

set_option maxRecDepth 100000 in
theorem lifted (os : Os) (started : os.Started) (H : Type) (enc : TypeId × Value → H) :
    ReturnsInHanded {} Tryz.checked os 4 .any (Rows.storeBatchSpec.pre6 enc Tryz.prog Tryz.f4 Rows.storeBatchRow.domain false) (Rows.storeBatchSpec.post enc Tryz.prog Tryz.f4 false true false false) := by
  refine returnsInHanded_of_change (C := Tryz.checked) own started (by kernel_rfl) Tryz.func4
    (ChangeSpec.witness6 (enc := enc) (C := Tryz.checked) false ⟨#[], #[.slice none 0 0], []⟩ 8 (by kernel_rfl) (by kernel_rfl) (by kernel_rfl) (by kernel_rfl)) ?_
  intro W base args ds gs before hval0 hW _ _
  have hval : ∀ (j : Nat) t v, Tryz.f4.params[j]? = some t → args[j]? = some v → Value.okWide Tryz.prog W .any base t v := hval0
  have hW' := hW
  obtain ⟨p, q, hA0, hV, rfl, hfz, hnd⟩ := hW
  have hA : DataW.TrodAll enc Tryz.prog W 0 (fun _ => true) true Tryz.f4.params.toList args.toList ds p := hA0
  rw [Tryz.params4] at hA hval
  obtain ⟨v0, vs0, d0, ds0, p0, q0, hargs, rfl, rfl, h0, r0⟩ := trodAll_cons hA
  obtain ⟨rfl, rfl, rfl⟩ := trodAll_nil r0
  obtain rfl : args = #[v0] := by cases args; simp_all
  obtain ⟨rfl, rfl⟩ := trodVars_none hV
  obtain ⟨a0, len0, cap0, rfl⟩ := okWide_slice Tryz.underlying39 (hval 0 39 v0 rfl rfl)
  have k0 := h0
  have lt0 : ∀ x ∈ p0, x.block < W.heap.size := by obtain ⟨m, hm⟩ := k0; exact DataW.trod_lt m _ _ _ hm
  obtain ⟨z0, w0⟩ : ∃ l, PsIn W a0 len0 l := by
    obtain ⟨fuel, hf⟩ := h0
    obtain ⟨a', len', cap', l', hcs, hl'⟩ := ps5_open hf
    simp [Value.cells] at hcs
    obtain ⟨rfl, rfl, rfl⟩ := hcs
    exact ⟨l', hl'⟩
  clear hA0 hval0
  refine (batch5_walk a0 len0 cap0 z0 w0).mono fun e W' ⟨he, hm⟩ => ?_
  have bel := hm.below
  subst he
  exact ⟨_, rfl, _, _, _, [], _, [], hW', trodAll_mk1 (shut_bool Tryz.underlying4 _), (trodAll_cons_mk (Below.trod laidOut (by kernel_rfl) (of_decide_eq_true (by kernel_rfl)) k0 bel lt0) trodAll_mk0), rfl, bel.frame _, fun h => by cases h⟩

/-- The statement. -/
theorem proved : Rows.StoreBatchSaid :=
  OpenClaim.holds_of_wide 4 Tryz.f4 rfl rfl rfl rfl rfl rfl rfl ⟨rfl, rfl, rfl, rfl, rfl⟩ rfl rfl rfl rfl rfl (by kernel_rfl) Tryz.func4 (by kernel_rfl)
    (of_decide_eq_true (by kernel_rfl)) (by unfold Func.isWrapper; first | (rw [if_pos (by decide +kernel)]; kernel_rfl) | (rw [if_neg (by decide +kernel)]; exact ⟨rfl, rfl⟩))
    (fun os started H enc _ => lifted os started H enc)

end Go.Proofs.YtkeopmfmlciadaaGreat.lawStoreBatch
