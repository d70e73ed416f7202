/-
  Layer 3, the disk: Flush. No statement is proved here; no condition.
-/
import Derived.Test.YtnchclleiccofaaSettle
namespace Go.Proofs.Ytnchclleiccofaa
open Go.RowKit Go.Maps

def Own3 (b sb mb : Nat) : Nat → Prop := fun k => k = b ∨ k = sb ∨ k = mb

/-- What Flush answers, and what the disk is behind it. -/
def Dk.flushE (d : Dk) : Int := if d.dead = true ∨ d.cut = 0 then 32 else 0
def Dk.flush (d : Dk) : Dk := if d.dead = true then d else if d.cut = 0 then d.power else d.power.settle fun _ _ l => l

theorem DkAt.obj_eq {X : Nat → Prop} {w : World} {b sb mb : Nat} {d : Dk} (h : DkAt w X b sb mb d) {w' : World} {cut : Int} {dead : Bool} {sc : Nat}
    (ho : w.heap[b]? = some (.cells #[.slice (some ⟨sb, 0, none⟩) d.n sc, .map (some mb), .int .i64 d.cut, .bool d.dead] 31 (0, 0)))
    (h' : w'.heap[b]? = some (.cells #[.slice (some ⟨sb, 0, none⟩) d.n sc, .map (some mb), .int .i64 cut, .bool dead] 31 (0, 0)))
    (hm : Mod (· = b) w w') (h1 : -1 ≤ cut) (h2 : cut ≤ 9223372036854775807) : DkAt w' X b sb mb { d with cut := cut, dead := dead } :=
  h.turned hm h1 h2 fun sc' ho' => by
    rw [ho] at ho'
    cases ho'
    exact h'

theorem flush_asks (w0 : World) (X : Nat → Prop) (sb sz : Nat) : settleFAsks w0 X sb sz fun _ _ l => l := by
  intro k vs vl s l W _ _ _ hl _ _
  have HL := Lib.hid hl
  clear hl
  refine calls_hide fun R hR => ?_
  go_enter Try.func42, Try.ntmps42
  go_wp2
  exact fin hR ⟨vl, rfl, HL.out, Mod.refl _ _⟩

set_option maxRecDepth 100000 in
set_option maxHeartbeats 800000 in
theorem flush_any (X : Nat → Prop) (b sb mb : Nat) (d : Dk) (w : World) (h : DkAt w X b sb mb d) :
    Calls Try.prog 18 #[.pointer (some ⟨b, 0, none⟩)] w fun e w' => e = .returned (.int .i64 d.flushE) ∧ DkAt w' X b sb mb d.flush ∧ Mod (Own3 b sb mb) w w' := by
  obtain ⟨sc, ho, hsc1, hsc2⟩ := h.obj
  have c3 := cell_of (i := 3) ho rfl
  refine calls_hide fun R hR => ?_
  cases hd : d.dead with
  | true =>
    have HD := Lib.hid h
    have Hd := Lib.hid hd
    rw [hd] at c3
    clear ho h hd
    go_enter Try.func18, Try.ntmps18
    go_wp2
    refine fin hR ⟨by simp [Dk.flushE, Hd.out], ?_, Mod.refl _ _⟩
    simp only [Dk.flush, Hd.out, if_true]
    exact HD.out
  | false =>
    have HP := Lib.hid (powered_any b _ _ d.cut d.dead w h.c1 h.c2 ho)
    have HD := Lib.hid h
    have Hd := Lib.hid hd
    have HO := Lib.hid ho
    rw [hd] at c3
    by_cases hcut : d.cut = 0
    · rw [if_pos hcut] at HP
      have Hc := Lib.hid hcut
      clear ho h hd hcut
      go_enter Try.func18, Try.ntmps18
      go_wp2_with (go_at_call 39; refine HP.out.mono ?_; rintro e w1 ⟨rfl, hb1, hm1, hz1⟩; have HB := Lib.hid hb1; have HM := Lib.hid hm1; clear hb1 hm1 hz1)
      refine fin hR ⟨by simp [Dk.flushE, Hc.out], ?_, HM.out.weaken fun _ _ e => .inl e⟩
      have h1 := HD.out.obj_eq HO.out HB.out HM.out (by have := HD.out.c1; split <;> omega) (by have := HD.out.c2; split <;> omega)
      simp only [Dk.flush, Hd.out, Hc.out, if_true, Bool.false_eq_true, if_false]
      exact h1
    · rw [if_neg hcut] at HP
      have Hc := Lib.hid hcut
      clear ho h hd hcut
      go_enter Try.func18, Try.ntmps18
      go_wp2_with (first | (go_at_call 39; refine HP.out.mono ?_; rintro e w1 ⟨rfl, hb1, hm1, hz1⟩; have HB := Lib.hid hb1; have HM := Lib.hid hm1; have HD1 := Lib.hid (HD.out.obj_eq HO.out hb1 hm1 (by have := HD.out.c1; split <;> omega) (by have := HD.out.c2; split <;> omega)); clear hb1 hm1 hz1) | (go_at_call 41; refine (settleF X b sb mb _ (fun _ _ l => l) _ HD1.out (flush_asks _ _ _ _) (fun _ _ _ _ h => h)).mono ?_; rintro e w2 ⟨rfl, hd2, hm2⟩; have HD2 := Lib.hid hd2; have HM2 := Lib.hid hm2; clear hd2 hm2))
      refine fin hR ⟨by simp [Dk.flushE, Hc.out, Hd.out], ?_, (HM.out.weaken fun _ _ e => .inl e).trans (HM2.out.weaken fun _ _ e => .inr e)⟩
      have h2 := HD2.out
      simp only [Dk.flush, Hd.out, Hc.out, Bool.false_eq_true, if_false]
      exact h2

end Go.Proofs.Ytnchclleiccofaa
