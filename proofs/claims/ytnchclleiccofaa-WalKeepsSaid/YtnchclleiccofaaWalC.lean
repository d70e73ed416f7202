/-
  Layer 4, the log: a sector, or a stop. No statement is proved here; no condition.
-/
import Derived.Test.YtnchclleiccofaaWalB
namespace Go.Proofs.Ytnchclleiccofaa
open Go.RowKit

/-- What reading panics with where a frame isn't whole. -/
abbrev stopV : Value := .iface 100 (.agg #[.int .i64 0])
abbrev Stopped : Ending := .panicked [{ v := stopV, recovered := false }]

theorem must_yes (x : Int) (w : World) : Calls Try.prog 50 #[.bool true, .int .i64 x] w fun e w' => e = .returned (.tuple #[]) ∧ w' = w := by
  refine calls_hide fun R hR => ?_
  go_enter Try.func50, Try.ntmps50
  go_wp2_with fail
  go_end0
  exact fin hR ⟨rfl, rfl⟩

theorem must_no (w : World) : Calls Try.prog 50 #[.bool false, .int .i64 0] w fun e w' => e = Stopped ∧ w' = w := by
  refine calls_hide fun R hR => ?_
  go_enter Try.func50, Try.ntmps50
  go_wp2_with fail
  exact ⟨rfl, fin hR ⟨rfl, rfl⟩⟩

/-- A disk whose power is there, and nobody cuts it. -/
def Well (d : Dk) : Prop := d.dead = false ∧ d.cut = -1

set_option maxRecDepth 100000 in
set_option maxHeartbeats 800000 in
theorem sector_yes {X : Nat → Prop} {b sb mb p : Nat} {d : Dk} {w : World} (side at_ : Nat) (hs : side < 2) (ha : at_ < d.n / 2) (hw : Well d) (h : DkAt w X b sb mb d) (c0 : w.cell? ⟨p, 0, none⟩ = some (.pointer (some ⟨b, 0, none⟩))) :
    Calls Try.prog 58 #[.pointer (some ⟨p, 0, none⟩), .int .i64 (side : Int), .int .i64 (at_ : Int)] w fun e w' => ∃ v, e = .returned v ∧ Mod No w w' ∧ w'.ownsRow w.heap.size 5 1 v d.sz (bv (d.last (side * (d.n / 2) + at_))) := by
  refine calls_hide fun R hR => ?_
  have HH0 := Lib.hid (half_any h c0)
  have HH := Lib.hid (half_any (h.stay (Mod.refl No w).drew) ((Mod.refl No w).drew.cell c0 (fun f => f)))
  have hn2 : d.n ≤ 4096 := h.n2
  have hE : atE d.dead (((side * (d.n / 2) + at_ : Nat)) : Int) d.n = 0 := by
    rw [hw.1]
    have : side * (d.n / 2) + at_ < d.n := by
      have h1 : side = 0 ∨ side = 1 := by omega
      rcases h1 with g | g
      · subst g; omega
      · subst g; omega
    unfold atE
    rw [if_neg Bool.false_ne_true, if_neg (by omega)]
  have HR := read_any X b sb mb d (((side * (d.n / 2) + at_ : Nat)) : Int) w.drew (h.stay (Mod.refl No w).drew)
  rw [hE] at HR
  have HR := Lib.hid HR
  have hS0 : w.drew.cell? ⟨p, 0, none⟩ = some (.pointer (some ⟨b, 0, none⟩)) := c0
  have hb : side * (d.n / 2) ≤ 2 * 2048 := Nat.mul_le_mul (by omega) (by omega)
  have hb1 : (0 : Int) ≤ (side : Int) * ((d.n / 2 : Nat) : Int) := by rw [← Int.natCast_mul]; omega
  have hb2 : (side : Int) * ((d.n / 2 : Nat) : Int) ≤ 4096 := by rw [← Int.natCast_mul]; omega
  have HI := Lib.hid (show IntKind.i64.wrap (IntKind.i64.wrap ((side : Int) * ((d.n / 2 : Nat) : Int)) + (at_ : Int)) = (((side * (d.n / 2) + at_ : Nat)) : Int) by
    rw [IntKind.wrap_i64, IntKind.wrap_i64, Int.natCast_add, Int.natCast_mul]
    generalize (side : Int) * ((d.n / 2 : Nat) : Int) = q at *
    omega)
  clear h hw hE hb hb1 hb2
  generalize hk : d.n / 2 = k at *
  have hk2 : k ≤ 2048 := by omega
  have ha' : (at_ : Int) < (k : Int) := by omega
  clear hk hn2
  go_enter Try.func58, Try.ntmps58
  go_wp2_with fail
  refine HH0.out.mono ?_
  clear HH0
  rintro e w' ⟨rfl, rfl⟩
  go_wp2_with fail
  refine (must_yes 0 w').mono ?_
  rintro e w2 ⟨rfl, rfl⟩
  go_upto_region 2 with fail
  refine wp_region_T (fun w' => w'.cell? ⟨p, 0, none⟩ = some (.pointer (some ⟨b, 0, none⟩))) 15 (by kernel_rfl) ?_
  refine wpAnyT_take 0 (some 15) ?_ rfl rfl (by kernel_rfl) (fun _ _ _ h => h) hS0 (Or.inl ⟨by rfl, ?_⟩) ?_
  rotate_left
  · (intro w' hSw; (try dsimp only at hSw); go_simp; try with_reducible rfl)
  simp only [Act.put, List.setIfInBounds_toArray, List.set_cons_zero, List.set_cons_succ]
  refine wpAnyT_take 1 (some 16) ?_ rfl rfl (by kernel_rfl) (fun _ _ _ h => h) hS0 (Or.inl ⟨by rfl, ?_⟩) ?_
  rotate_left
  · (intro w' hSw; (try dsimp only at hSw); go_simp; try with_reducible rfl)
  simp only [Act.put, List.setIfInBounds_toArray, List.set_cons_zero, List.set_cons_succ]
  refine wpAnyT_take 2 (some 17) ?_ rfl rfl (by kernel_rfl) (fun _ _ _ h => h) hS0 (Or.inl ⟨by rfl, ?_⟩) ?_
  rotate_left
  · (intro w' hSw; (try dsimp only at hSw); go_simp; try with_reducible rfl)
  simp only [Act.put, List.setIfInBounds_toArray, List.set_cons_zero, List.set_cons_succ]
  refine wpAnyT_take 3 (some 18) ?_ rfl rfl (by kernel_rfl) (fun _ _ _ h => h) hS0 (Or.inl ⟨by rfl, ?_⟩) ?_
  rotate_left
  · (intro w' hSw; (try dsimp only at hSw); go_simp; try with_reducible rfl)
  simp only [Act.put, List.setIfInBounds_toArray, List.set_cons_zero, List.set_cons_succ]
  refine wpAnyT_take 4 (some 19) ?_ rfl rfl (by kernel_rfl) (fun _ _ _ h => h) hS0 (Or.inl ⟨by rfl, ?_⟩) ?_
  rotate_left
  · (intro w' hSw; (try dsimp only at hSw); go_simp; try with_reducible rfl)
  simp only [Act.put, List.setIfInBounds_toArray, List.set_cons_zero, List.set_cons_succ]
  refine wpAnyT_take 5 (some 20) ?_ rfl rfl (by kernel_rfl) (fun _ _ _ h => h) hS0 (Or.inl ⟨by rfl, ?_⟩) ?_
  rotate_left
  · (intro w' hSw; (try dsimp only at hSw); go_simp; try with_reducible rfl)
  simp only [Act.put, List.setIfInBounds_toArray, List.set_cons_zero, List.set_cons_succ]
  refine wpAnyT_take 8 (some 23) ?_ rfl rfl (by kernel_rfl) (fun _ _ _ h => h) hS0 (Or.inl ⟨by rfl, ?_⟩) ?_
  rotate_left
  · (intro w' hSw; (try dsimp only at hSw); go_simp; try with_reducible rfl)
  simp only [Act.put, List.setIfInBounds_toArray, List.set_cons_zero, List.set_cons_succ]
  refine wpAnyT_one 6 rfl (by kernel_rfl) rfl ?_
  intro K hK
  go_simp
  (go_at_call 67; refine HH.out.mono ?_; rintro e w' ⟨rfl, rfl⟩)
  show K _ _
  refine hK.out _ _ (fun _ => hS0) ?_
  clear hK K
  refine wpAnyT_take 7 (some 22) ?_ rfl rfl (by kernel_rfl) (fun _ _ _ h => h) hS0 (Or.inl ⟨by rfl, ?_⟩) ?_
  rotate_left
  · (intro w' hSw; (try dsimp only at hSw); go_simp; try with_reducible rfl)
  simp only [Act.put, List.setIfInBounds_toArray, List.set_cons_zero, List.set_cons_succ]
  refine wpAnyT_take 9 (some 24) ?_ rfl rfl (by kernel_rfl) (fun _ _ _ h => h) hS0 (Or.inl ⟨by rfl, ?_⟩) ?_
  rotate_left
  · (intro w' hSw; (try dsimp only at hSw); go_simp; try with_reducible rfl)
  simp only [Act.put, List.setIfInBounds_toArray, List.set_cons_zero, List.set_cons_succ]
  refine wpAnyT_one 10 rfl (by kernel_rfl) rfl ?_
  intro K hK
  go_simp
  (go_at_call 20; rw [HI.out]; refine HR.out.mono ?_; rintro e w1 ⟨v, rfl, hm1, _, hr1⟩)
  have hS1 := hm1.cell hS0 (fun f => f)
  show K _ _
  refine hK.out _ _ (fun _ => hS1) ?_
  clear hK K
  refine wpAnyT_take 11 (some 14) ?_ rfl rfl (by kernel_rfl) (fun _ _ _ h => h) hS1 (Or.inl ⟨by rfl, ?_⟩) ?_
  rotate_left
  · (intro w' hSw; (try dsimp only at hSw); go_simp; try with_reducible rfl)
  simp only [Act.put, List.setIfInBounds_toArray, List.set_cons_zero, List.set_cons_succ]
  refine wpAnyT_take 12 (some 26) ?_ rfl rfl (by kernel_rfl) (fun _ _ _ h => h) hS1 (Or.inl ⟨by rfl, ?_⟩) ?_
  rotate_left
  · (intro w' hSw; (try dsimp only at hSw); go_simp; try with_reducible rfl)
  simp only [Act.put, List.setIfInBounds_toArray, List.set_cons_zero, List.set_cons_succ]
  refine wpAnyT_take 13 (some 27) ?_ rfl rfl (by kernel_rfl) (fun _ _ _ h => h) hS1 (Or.inl ⟨by rfl, ?_⟩) ?_
  rotate_left
  · (intro w' hSw; (try dsimp only at hSw); go_simp; try with_reducible rfl)
  simp only [Act.put, List.setIfInBounds_toArray, List.set_cons_zero, List.set_cons_succ]
  refine wpAnyT_take 14 (some 7) ?_ rfl rfl (by kernel_rfl) (fun _ _ _ h => h) hS1 (Or.inl ⟨by rfl, ?_⟩) ?_
  rotate_left
  · (intro w' hSw; (try dsimp only at hSw); go_simp; try with_reducible rfl)
  simp only [Act.put, List.setIfInBounds_toArray, List.set_cons_zero, List.set_cons_succ]
  refine wpAnyT_one 15 rfl (by kernel_rfl) rfl ?_
  intro K hK
  go_simp
  show K _ _
  refine hK.out _ _ (fun h => absurd rfl h) ?_
  clear hK K
  refine wpAnyT_done (by kernel_rfl) ?_ _

  go_wp2_with fail
  refine (must_yes 0 w1).mono ?_
  rintro e w2 ⟨rfl, rfl⟩
  go_wp2_with fail
  exact fin hR ⟨v, rfl, (Mod.refl No _).drew.trans hm1, hr1 trivial⟩

set_option maxRecDepth 100000 in
theorem sector_no {X : Nat → Prop} {b sb mb p : Nat} {d : Dk} {w : World} (side at_ : Nat) (ha : d.n / 2 ≤ at_) (h : DkAt w X b sb mb d) (c0 : w.cell? ⟨p, 0, none⟩ = some (.pointer (some ⟨b, 0, none⟩))) :
    Calls Try.prog 58 #[.pointer (some ⟨p, 0, none⟩), .int .i64 (side : Int), .int .i64 (at_ : Int)] w fun e w' => e = Stopped ∧ w' = w := by
  refine calls_hide fun R hR => ?_
  have HH0 := Lib.hid (half_any h c0)
  clear h c0
  generalize d.n / 2 = k at *
  have ha' : (k : Int) ≤ (at_ : Int) := by omega
  have hdk : decide (at_ < k) = false := decide_eq_false (by omega)
  go_enter Try.func58, Try.ntmps58
  go_wp2_with fail
  refine HH0.out.mono ?_
  clear HH0
  rintro e w' ⟨rfl, rfl⟩
  go_wp2_with fail
  refine (must_no w').mono ?_
  rintro e w2 ⟨rfl, rfl⟩
  go_wp2_with fail
  exact ⟨rfl, fin hR ⟨rfl, rfl⟩⟩

end Go.Proofs.Ytnchclleiccofaa
