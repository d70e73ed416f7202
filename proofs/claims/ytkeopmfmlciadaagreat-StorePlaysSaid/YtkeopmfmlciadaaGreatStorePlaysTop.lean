/-
  StorePlays: for every input the law returns true, and its arguments read as they did. No conditions beyond the given statement's own.
-/
import Derived.Test.YtkeopmfmlciadaaGreatJLawFive
import Derived.ProofKit
import Derived.OpenShut
import Derived.ShutString
import Derived.ChangeOld
namespace Go.Proofs.YtkeopmfmlciadaaGreat
open Go.RowKit Go.Maps

set_option maxRecDepth 100000 in
set_option maxHeartbeats 4000000 in
theorem plays5_walk (aa : Option Addr) (la ca : Nat) (l : List A5) {w : World} (hacts : AsIn w aa la l) :
    Calls Tryz.prog 7 #[.slice aa la ca] w fun e w' => e = .returned (.bool true) ∧ Mod No w w' := by
  refine calls_hide fun R hR => ?_
  have hmm := @run_makeMap Tryz.prog
  have HA := Lib.hid hacts
  clear hacts
  go_enter Tryz.func7, Tryz.ntmps7
  go_wp2_with fail
  with_reducible refine (known5_any w).mono ?_
  rintro e w1 ⟨rfl, hm1⟩
  have HM1 := Lib.hid hm1
  have HLI := Lib.hid (light5_any (ca := ca) (HA.out.stay hm1))
  clear hm1
  go_wp2_with fail
  with_reducible refine HLI.out.mono ?_
  rintro e w2 ⟨⟨o, rfl, hlt⟩, h2⟩
  subst h2
  clear HLI
  cases o with
  | false =>
    clear hlt
    go_wp2_with fail
    exact fin hR ⟨rfl, HM1.out⟩
  | true =>
    obtain ⟨hla, hl6⟩ := hlt rfl
    have HL6 := Lib.hid hl6
    clear hlt hl6
    go_wp2_with fail
    with_reducible refine (disk_new No 400 512 w2 (no_lt5 w2)).mono ?_
    rintro e w3 ⟨b, sb, mb, rfl, hb1, hb2, hb3, hd3, hm3⟩
    have HD3 := Lib.hid (show DkAt w3 No b sb mb (Dk.new 400 512) ∧ (w.heap.size ≤ b ∧ w.heap.size ≤ sb ∧ w.heap.size ≤ mb) ∧ Mod No w w3 from ⟨hd3, by have := HM1.out.size; omega, HM1.out.trans hm3⟩)
    clear hb1 hb2 hb3 hd3 hm3
    go_wp2_with fail
    with_reducible refine (Sto.first (w0 := w) (n := 400) (z := 512) (N := 400) (sz := 512) (by decide) (by decide) (by decide) (by decide) HD3.out.1 HD3.out.2.1 HD3.out.2.2).mono ?_
    rintro e w4 ⟨s, O, rfl, hs4, -, -⟩
    obtain ⟨q, hq⟩ : ∃ q, q = w4.heap.size := ⟨_, rfl⟩
    obtain ⟨w5, hw5⟩ : ∃ w5, w5 = w4.alloc (.map #[] 0) := ⟨_, rfl⟩
    have HV5 := Lib.hid (show Lv w w5 400 512 b s q (fun _ => none) 7 0 by rw [hw5, hq]; exact Lv.first hs4)
    have HQ := Lib.hid hq
    have HW5 := Lib.hid hw5
    clear hq hw5 hs4 HD3 HM1
    go_upto_region 10 with fail
    rw [← HQ.out, ← HW5.out]
    go_wp2_with fail
    go_loopw [4, 7] (fun u x wr => ∃ (i s : Nat) (M : Mt), i ≤ la ∧ x = .int .i64 i ∧ u = .pointer (some ⟨s, 0, none⟩) ∧ Lv w wr 400 512 b s q M (7 + 5 * i) i) (fun _ x _ => 31 - (intOf x).toNat)
    case atStart => exact ⟨0, s, _, by omega, rfl, rfl, HV5.out⟩
    case round =>
      obtain ⟨i, s, M, hi, rfl, rfl, hv⟩ := hrel
      have hi0 : (0 : Int) ≤ (i : Int) := Int.natCast_nonneg _
      have HV := Lib.hid hv
      clear hv
      by_cases hlt : i < la
      · have hi1 : (i : Int) < (la : Int) := by omega
        obtain ⟨ab, ao, rfl, c0, c1, hin⟩ := HA.out.at_ i (by rw [HA.out.len]; exact hlt)
        have hn5 := HL6.out i (by rw [HA.out.len]; exact hlt)
        generalize l[i]'(by rw [HA.out.len]; exact hlt) = act at *
        obtain ⟨what, xa, xn, xc, ps⟩ := act
        dsimp only at c0 c1 hin hn5
        have c0 := HV.out.mod.cell c0 (fun f => f)
        have c1 := HV.out.mod.cell c1 (fun f => f)
        have HIN := Lib.hid (hin.stay HV.out.mod)
        obtain rfl := hin.len
        clear hin
        by_cases h5 : what = 5
        · subst h5
          go_wp2_with fail
          with_reducible refine (HV.out.compact (by decide) (by decide) (by omega) (by omega)).mono ?_
          rintro e w6 ⟨rfl, h6⟩
          have HV6 := Lib.hid h6
          clear h6 HIN c0 c1
          go_wp2_with fail
          with_reducible refine (HV6.out.alike (by omega)).mono ?_
          rintro e w7 ⟨rfl, h7, -⟩
          have HV7 := Lib.hid h7
          clear h7 HV6 HV
          go_wp2_with fail
          exact ⟨⟨i + 1, s, M, by omega, by go_num, rfl, by have := HV7.out; obtain ⟨⟨O, n1, c1, e1, e2, r⟩, ⟨n2, e3, r2⟩, r3, r4⟩ := this; exact ⟨⟨O, n1, c1, by omega, by omega, r⟩, ⟨n2, by omega, r2⟩, r3, r4⟩⟩, by go_light; simp only [intOf]; omega⟩
        · by_cases h6 : what = 6
          · subst h6
            go_wp2_with fail
            with_reducible refine (HV.out.reopen (by omega)).mono ?_
            rintro e w6 ⟨s', rfl, h6⟩
            have HV6 := Lib.hid h6
            clear h6 HIN c0 c1
            go_wp2_with fail
            with_reducible refine (HV6.out.alike (by omega)).mono ?_
            rintro e w7 ⟨rfl, h7, -⟩
            have HV7 := Lib.hid h7
            clear h7 HV6 HV
            go_wp2_with fail
            exact ⟨⟨i + 1, s', M, by omega, by go_num, rfl, by have := HV7.out; obtain ⟨⟨O, n1, c1, e1, e2, r⟩, ⟨n2, e3, r2⟩, r3, r4⟩ := this; exact ⟨⟨O, n1, c1, by omega, by omega, r⟩, ⟨n2, by omega, r2⟩, r3, r4⟩⟩, by go_light; simp only [intOf]; omega⟩
          · have h5b : (what == 5) = false := by simpa using h5
            have h6b : (what == 6) = false := by simpa using h6
            go_wp2_with fail
            with_reducible refine (HV.out.batch (by decide) (by decide) (by omega) i (by omega) HIN.out (by omega) (by omega)).mono ?_
            rintro e w6 ⟨va, vc, rfl, hap⟩
            have HAP := Lib.hid (hap w6 rfl)
            clear hap HIN c0 c1
            go_wp2_with fail
            with_reducible refine HAP.out.mono ?_
            rintro e w7 ⟨rfl, h7⟩
            have HV6 := Lib.hid h7
            clear h7 HAP HV
            go_wp2_with fail
            with_reducible refine (HV6.out.alike (by omega)).mono ?_
            rintro e w8 ⟨rfl, h8, -⟩
            have HV7 := Lib.hid h8
            clear h8 HV6
            go_wp2_with fail
            exact ⟨⟨i + 1, s, _, by omega, by go_num, rfl, by have := HV7.out; obtain ⟨⟨O, n1, c1, e1, e2, r⟩, ⟨n2, e3, r2⟩, r3, r4⟩ := this; exact ⟨⟨O, n1, c1, by omega, by omega, r⟩, ⟨n2, by omega, r2⟩, r3, r4⟩⟩, by go_light; simp only [intOf]; omega⟩
      · have hil : i = la := by omega
        subst hil
        go_wp2_with fail
        with_reducible refine HV.out.down.mono ?_
        rintro e w8 ⟨rfl, h2⟩
        subst h2
        have HM8 := Lib.hid HV.out.mod
        clear HV
        go_wp2_with fail
        exact fin hR ⟨rfl, HM8.out⟩

end Go.Proofs.YtkeopmfmlciadaaGreat
namespace Go.Proofs.YtkeopmfmlciadaaGreat.lawStorePlays
open Go.ChangeShapes Go.WideShapes Go.ChangeAt Go.RowKit
open Go.ChangeMaps (open_string shut_string)

theorem own : ownKnob Tryz.prog.godebug = none := by kernel_rfl
theorem laidOut : laidOutB Tryz.prog = true := by kernel_rfl

set_option maxRecDepth 100000 in
theorem lifted (os : Os) (started : os.Started) (H : Type) (enc : TypeId × Value → H) :
    ReturnsInHanded {} Tryz.checked os 7 .any (Rows.storePlaysSpec.pre6 enc Tryz.prog Tryz.f7 Rows.storePlaysRow.domain false) (Rows.storePlaysSpec.post enc Tryz.prog Tryz.f7 false true false false) := by
  refine returnsInHanded_of_change (C := Tryz.checked) own started (by kernel_rfl) Tryz.func7
    (ChangeSpec.witness6 (enc := enc) (C := Tryz.checked) false ⟨#[], #[.slice none 0 0], []⟩ 8 (by kernel_rfl) (by kernel_rfl) (by kernel_rfl) (by kernel_rfl)) ?_
  intro W base args ds gs before hval0 hW _ _
  have hval : ∀ (j : Nat) t v, Tryz.f7.params[j]? = some t → args[j]? = some v → Value.okWide Tryz.prog W .any base t v := hval0
  have hW' := hW
  obtain ⟨p, q, hA0, hV, rfl, hfz, hnd⟩ := hW
  have hA : DataW.TrodAll enc Tryz.prog W 0 (fun _ => true) true Tryz.f7.params.toList args.toList ds p := hA0
  rw [Tryz.params7] at hA hval
  obtain ⟨v0, vs0, d0, ds0, p0, q0, hargs, rfl, rfl, h0, r0⟩ := trodAll_cons hA
  obtain ⟨rfl, rfl, rfl⟩ := trodAll_nil r0
  obtain rfl : args = #[v0] := by cases args; simp_all
  obtain ⟨rfl, rfl⟩ := trodVars_none hV
  obtain ⟨a0, len0, cap0, rfl⟩ := okWide_slice Tryz.underlying50 (hval 0 50 v0 rfl rfl)
  have k0 := h0
  have lt0 : ∀ x ∈ p0, x.block < W.heap.size := by obtain ⟨m, hm⟩ := k0; exact DataW.trod_lt m _ _ _ hm
  obtain ⟨z0, w0⟩ : ∃ l, AsIn W a0 len0 l := by
    obtain ⟨fuel, hf⟩ := h0
    obtain ⟨a', len', cap', l', hcs, hl'⟩ := as5_open hf
    simp [Value.cells] at hcs
    obtain ⟨rfl, rfl, rfl⟩ := hcs
    exact ⟨l', hl'⟩
  clear hA0 hval0
  refine (plays5_walk a0 len0 cap0 z0 w0).mono fun e W' ⟨he, hm⟩ => ?_
  have bel := hm.below
  subst he
  exact ⟨_, rfl, _, _, _, [], _, [], hW', trodAll_mk1 (shut_bool Tryz.underlying4 _), (trodAll_cons_mk (Below.trod laidOut (by kernel_rfl) (of_decide_eq_true (by kernel_rfl)) k0 bel lt0) trodAll_mk0), rfl, bel.frame _, fun h => by cases h⟩

/-- The statement. -/
theorem proved : Rows.StorePlaysSaid :=
  OpenClaim.holds_of_wide 7 Tryz.f7 rfl rfl rfl rfl rfl rfl rfl ⟨rfl, rfl, rfl, rfl, rfl⟩ rfl rfl rfl rfl rfl (by kernel_rfl) Tryz.func7 (by kernel_rfl)
    (of_decide_eq_true (by kernel_rfl)) (by unfold Func.isWrapper; first | (rw [if_pos (by decide +kernel)]; kernel_rfl) | (rw [if_neg (by decide +kernel)]; exact ⟨rfl, rfl⟩))
    (fun os started H enc _ => lifted os started H enc)

end Go.Proofs.YtkeopmfmlciadaaGreat.lawStorePlays
