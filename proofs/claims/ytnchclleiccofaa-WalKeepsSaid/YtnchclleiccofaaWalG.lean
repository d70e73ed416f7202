/-
  Layer 4, the log: try. No statement is proved here; no condition.
-/
import Derived.Test.YtnchclleiccofaaWalF
import Derived.Defers
import Derived.Recover
namespace Go.Proofs.Ytnchclleiccofaa
open Go.RowKit

set_option maxRecDepth 100000 in
theorem open_no {b sb mb p : Nat} {d : Dk} {w : World} (side at_ next : Nat) (ha : d.n / 2 ≤ at_) (h : DkAt w No b sb mb d) (c0 : w.cell? ⟨p, 0, none⟩ = some (.pointer (some ⟨b, 0, none⟩))) :
    Calls Try.prog 49 #[.pointer (some ⟨p, 0, none⟩), .int .i64 (side : Int), .int .i64 (at_ : Int), .int .u64 (next : Int)] w fun e w' => e = Stopped ∧ w' = w := by
  refine calls_hide fun R hR => ?_
  have HS := Lib.hid (sector_no (p := p) side at_ ha h c0)
  clear h c0
  go_enter Try.func49, Try.ntmps49
  go_wp2_with fail
  refine HS.out.mono ?_
  rintro e w1 ⟨rfl, h2⟩
  subst h2
  go_wp2_with fail
  exact ⟨rfl, fin hR ⟨rfl, rfl⟩⟩

theorem rd_no {S : Nat → List UInt8} {h size side at_ next : Nat} (ha : h ≤ at_) : rd S h size side at_ next = none := by
  unfold rd; rw [if_neg (by omega)]

/-- open, whatever there is. -/
theorem open_any {b sb mb p : Nat} {d : Dk} {w : World} (side at_ next : Nat) (hs : side < 2) (hnx : next + 1 < 18446744073709551616) (hz : 128 ≤ d.sz) (hw : Well d) (h : DkAt w No b sb mb d) (c0 : w.cell? ⟨p, 0, none⟩ = some (.pointer (some ⟨b, 0, none⟩))) :
    Calls Try.prog 49 #[.pointer (some ⟨p, 0, none⟩), .int .i64 (side : Int), .int .i64 (at_ : Int), .int .u64 (next : Int)] w fun e w' =>
      (match rd d.last (d.n / 2) (d.sz - 16) side at_ next with
        | some (t, rs, beh) => ∃ v, e = .returned (.tuple #[.int .u64 (t : Int), v, .int .i64 (beh : Int)]) ∧ OwnRecs w' w.heap.size v rs
        | none => e = Stopped) ∧ Mod No w w' := by
  rcases Nat.lt_or_ge at_ (d.n / 2) with ha | ha
  · exact open_ok side at_ next hs ha hnx hz hw h c0
  · refine (open_no side at_ next ha h c0).mono ?_
    rintro e w' ⟨rfl, rfl⟩
    rw [rd_no ha]
    exact ⟨rfl, Mod.refl _ _⟩

set_option maxRecDepth 100000 in
set_option maxHeartbeats 1000000 in
theorem stop_idle (p q : Nat) (w : World) :
    CallsD Try.prog 57 #[.pointer (some ⟨p, 0, none⟩), .pointer (some ⟨q, 0, none⟩)] .returning w fun e u' w' => e = .returned (.tuple #[]) ∧ u' = .returning ∧ w' = w := by
  refine callsD_of_wpS Try.func57 rfl fun c₀ cs hu => ?_
  apply wpS_seq
  apply wpS_region
  simp [wpOpsS, go_sem, recoverD, hu, Try.ntmps57, Exit.thenS]
  refine wpS_of_wp ?_
  refine wp_mono (Q := Exit.then (fun a' w' => a'.defers = [] ∧ w' = w) Nope) ?_ ?_
  · refine wp_part fun J K' hJ hK => ?_
    go_wp2_with fail
    exact Met.intro (hJ _ _ ⟨rfl, rfl⟩)
  · rintro e a' w' hq
    cases e with
    | normal =>
      obtain ⟨hd, rfl⟩ := hq
      cases c₀
      simp_all [bodyPostS, results, Try.results57]
    | exit id => exact hq.elim
    | goto l => exact hq.elim
    | ret => exact hq.elim
    | panic ch => exact hq.elim
    | outgrown => exact hq.elim

theorem assert_stop (w : World) (v : Value) : (Instr.typeAssert (.iface 100 v) 20 100 true).run Try.prog w = .ok (.tuple #[v, .bool true]) w := by kernel_rfl

set_option maxRecDepth 100000 in
set_option maxHeartbeats 1000000 in
theorem stop_caught (p q : Nat) (x : Bool) (y : Int) (w : World) (hp : w.heap[p]? = some (.cells #[.bool x] 4 (0, 0))) (hq : w.heap[q]? = some (.cells #[.int .i64 y] 35 (0, 0))) :
    CallsD Try.prog 57 #[.pointer (some ⟨p, 0, none⟩), .pointer (some ⟨q, 0, none⟩)] (.panicking [{ v := stopV, recovered := false }]) w fun e u' w' =>
      e = .returned (.tuple #[]) ∧ u' = .panicking [{ v := stopV, recovered := true }] ∧ w'.heap[p]? = some (.cells #[.bool false] 4 (0, 0)) ∧ w'.heap[q]? = some (.cells #[.int .i64 0] 35 (0, 0)) ∧ Mod (fun k => k = p ∨ k = q) w w' := by
  refine callsD_of_wpS Try.func57 rfl fun c₀ cs hu => ?_
  apply wpS_seq
  apply wpS_region
  simp [wpOpsS, go_sem, recoverD, hu, Try.ntmps57, Exit.thenS]
  refine wpS_of_wp ?_
  have p0 := cell_of (i := 0) hp rfl
  have q0 := cell_of (i := 0) hq rfl
  refine wp_mono (Q := Exit.then (fun a' w' => a'.defers = [] ∧ w'.heap[p]? = some (.cells #[.bool false] 4 (0, 0)) ∧ w'.heap[q]? = some (.cells #[.int .i64 0] 35 (0, 0)) ∧ Mod (fun k => k = p ∨ k = q) w w') Nope) ?_ ?_
  · refine wp_part fun J K' hJ hK => ?_
    have hta := assert_stop
    simp only [Array.replicate_succ, Array.replicate_zero]
    go_upto_region 5 with fail
    have hpl := lt_of_heap hp
    have hql := lt_of_heap hq
    have hpq : p ≠ q := fun e => by subst e; rw [hp] at hq; cases hq
    obtain ⟨wd, hwd⟩ : ∃ wd, wd = (w.alloc (.cells #[.int .i64 0] 100)).drew := ⟨_, rfl⟩
    have hmd : Mod No w wd := by rw [hwd]; exact ((Mod.refl No w).alloc _).drew
    have hs0 : wd.heap[w.heap.size]? = some (.cells #[.int .i64 0] 100 (0, 0)) := by rw [hwd]; exact heap_alloc_new w _
    have hp1 := hmd.keep hp (fun f => f)
    have hq1 := hmd.keep hq (fun f => f)
    have hS0 := cell_of (i := 0) hs0 rfl
    have pc := cell_of (i := 0) hp1 rfl
    have pf := frozen_of 0 hp1
    have m2 : Mod (fun k => k = p) wd (wd.setCell ⟨p, 0, none⟩ (.bool false)) := (Mod.refl (fun k => k = p) wd).setCell (fun _ => rfl) _
    have hS2 := cell_of (i := 0) (m2.keep hs0 (by omega)) rfl
    have hq2 := m2.keep hq1 (Ne.symm hpq)
    have qc := cell_of (i := 0) hq2 rfl
    have qf := frozen_of 0 hq2
    have hp2 := heap_setCell hp1 (i := 0) (.bool false)
    have m3 : Mod (fun k => k = q) (wd.setCell ⟨p, 0, none⟩ (.bool false)) ((wd.setCell ⟨p, 0, none⟩ (.bool false)).setCell ⟨q, 0, none⟩ (.int .i64 0)) := (Mod.refl (fun k => k = q) _).setCell (fun _ => rfl) _
    have R1 := Lib.hid (m3.keep hp2 hpq)
    have R2 := Lib.hid (heap_setCell hq2 (i := 0) (.int .i64 0))
    have R3 := Lib.hid (show Mod (fun k => k = p ∨ k = q) w ((wd.setCell ⟨p, 0, none⟩ (.bool false)).setCell ⟨q, 0, none⟩ (.int .i64 0)) from
      ((hmd.weaken fun _ _ f => f.elim).setCell (fun _ => .inl rfl) _).setCell (fun _ => .inr rfl) _)
    have HS2 := Lib.hid hS2
    have HWD := Lib.hid hwd
    clear hwd hp hq hs0 hmd hp1 hq1 m2 hS2 hq2 hp2 m3 hpq hpl hql p0 q0
    refine wp_region_T (fun w' => w'.cell? ⟨w.heap.size, 0, none⟩ = some (.int .i64 0)) 3 (by kernel_rfl) ?_
    rw [← HWD.out]
    refine wpAnyT_take 0 (some 16) ?_ rfl rfl (by kernel_rfl) (fun _ _ _ h => h) hS0 (Or.inl ⟨by rfl, ?_⟩) ?_
    rotate_left
    · (intro w' hSw; (try dsimp only at hSw); go_simp; try with_reducible rfl)
    simp only [Act.put, List.setIfInBounds_toArray, List.set_cons_zero, List.set_cons_succ]
    refine wpAnyT_take 1 (some 17) ?_ rfl rfl (by kernel_rfl) (fun _ _ _ h => h) hS0 (Or.inl ⟨by rfl, ?_⟩) ?_
    rotate_left
    · (intro w' hSw; (try dsimp only at hSw); go_simp; try with_reducible rfl)
    simp only [Act.put, List.setIfInBounds_toArray, List.set_cons_zero, List.set_cons_succ]
    refine wpAnyT_one 2 rfl (by kernel_rfl) rfl ?_
    intro K hK
    go_simp
    show K _ _
    refine hK.out _ _ (fun _ => HS2.out) ?_
    clear hK K
    refine wpAnyT_one 3 rfl (by kernel_rfl) rfl ?_
    intro K hK
    go_simp
    show K _ _
    refine hK.out _ _ (fun h => absurd rfl h) ?_
    clear hK K
    refine wpAnyT_done (by kernel_rfl) ?_ _
    go_wp2_with fail
    exact Met.intro (hJ _ _ ⟨rfl, R1.out, R2.out, R3.out⟩)
  · rintro e a' w' hq
    cases e with
    | normal =>
      obtain ⟨hd, h1, h2, h3⟩ := hq
      cases c₀
      simp_all [bodyPostS, results, Try.results57]
    | exit id => exact hq.elim
    | goto l => exact hq.elim
    | ret => exact hq.elim
    | panic ch => exact hq.elim
    | outgrown => exact hq.elim

end Go.Proofs.Ytnchclleiccofaa
