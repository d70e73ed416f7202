/-
  Layer 4, the log: Room, Commit. No statement is proved here; no condition.
-/
import Derived.Test.YtnchclleiccofaaWalR
namespace Go.Proofs.Ytnchclleiccofaa
open Go.RowKit

/-- A log over a disk, sound. -/
structure LogHas (w : World) (p b sb mb ub : Nat) (d : Dk) (L : Lg) : Prop where
  disk : DkAt w No b sb mb d
  at_ : LogAt w p b ub L
  ne : ub ≠ mb
  well : Well d
  n : 16 ≤ d.n
  sz : 128 ≤ d.sz
  ok : LogOK d.last (d.n / 2) (d.sz - 16) L

theorem LogHas.stay {w w' : World} {p b sb mb ub : Nat} {d : Dk} {L : Lg} (h : LogHas w p b sb mb ub d L) (hm : Mod No w w') : LogHas w' p b sb mb ub d L :=
  ⟨h.disk.stay hm, ⟨hm.keep h.at_.obj (fun f => f), h.at_.undone.keep hm (fun f => f)⟩, h.ne, h.well, h.n, h.sz, h.ok⟩

theorem LogHas.bounds {w : World} {p b sb mb ub : Nat} {d : Dk} {L : Lg} (h : LogHas w p b sb mb ub d L) : L.next ≤ L.at_ ∧ L.at_ ≤ d.n / 2 ∧ d.n / 2 ≤ 2048 ∧ d.sz - 16 ≤ 4080 ∧ L.all.length ≤ 2048 * 4080 := by
  have h1 := h.ok.chain.bounds (by have := h.sz; omega)
  have h2 := h.ok.chain.le (by have := h.sz; omega)
  have h3 := h.disk.n2
  have h4 := h.disk.s2
  refine ⟨h1.1, h2, by omega, by omega, Nat.le_trans h1.2 (Nat.mul_le_mul (by omega) (by omega))⟩

/-- What Room tells. -/
def roomI (H m at_ : Nat) : Int := max ((((H - at_) * m : Nat) : Int) - 32 - 4) 0

theorem room_any {w : World} {p b sb mb ub : Nat} {d : Dk} {L : Lg} (h : LogHas w p b sb mb ub d L) :
    Calls Try.prog 35 #[.pointer (some ⟨p, 0, none⟩)] w fun e w' => e = .returned (.int .i64 (roomI (d.n / 2) (d.sz - 16) L.at_)) ∧ w' = w := by
  refine calls_hide fun R hR => ?_
  obtain ⟨-, hb2, hb3, hb4, -⟩ := h.bounds
  have c3 := cell_of (i := 3) h.at_.obj rfl
  have HM := Lib.hid (most_any L.at_ hb2 h.disk (cell_of (i := 0) h.at_.obj rfl))
  have hM : (d.n / 2 - L.at_) * (d.sz - 16) ≤ 2048 * 4080 := Nat.mul_le_mul (by omega) hb4
  obtain ⟨A, hA⟩ : ∃ A, A = (d.n / 2 - L.at_) * (d.sz - 16) := ⟨_, rfl⟩
  rw [← hA] at HM hM
  have HA := Lib.hid (show roomI (d.n / 2) (d.sz - 16) L.at_ = max ((A : Int) - 32 - 4) 0 by rw [hA]; rfl)
  clear h hA
  go_enter Try.func35, Try.ntmps35
  go_wp2_with fail
  with_reducible refine HM.out.mono ?_
  rintro e w' ⟨rfl, h2⟩
  subst h2
  go_wp2_with fail
  exact fin hR ⟨by rw [HA.out]; rfl, rfl⟩

theorem wrE_ok {H m at_ : Nat} {rs : List (List UInt8)} (h : wrE H m at_ rs = 0) : (∀ r ∈ rs, r.length ≤ 1048576) ∧ 32 + (bodyB rs).length ≤ (H - at_) * m := by
  unfold wrE at h
  cases hl : rs.any isLong with
  | true => rw [if_pos hl] at h; exact absurd h (by decide)
  | false =>
    rw [if_neg (by rw [hl]; decide)] at h
    refine ⟨Recs.mem_short hl, ?_⟩
    split at h
    · exact absurd h (by decide)
    · omega

set_option maxRecDepth 100000 in
set_option maxHeartbeats 4000000 in
theorem commit_any {w : World} {p b sb mb ub : Nat} {d : Dk} {L : Lg} {v : Value} {rs : List (List UInt8)} (h : LogHas w p b sb mb ub d L) (hv : Recs w No v rs) (hl : rs.length ≤ 1000000000) :
    Calls Try.prog 29 #[.pointer (some ⟨p, 0, none⟩), v] w fun e w' => e = .returned (.int .i64 (wrE (d.n / 2) (d.sz - 16) L.at_ rs)) ∧
      ((wrE (d.n / 2) (d.sz - 16) L.at_ rs ≠ 0 ∧ Mod No w w') ∨ (wrE (d.n / 2) (d.sz - 16) L.at_ rs = 0 ∧ Mod (fun q => Own3 b sb mb q ∨ q = ub ∨ q = p) w w' ∧
        ∃ d', d'.n = d.n ∧ d'.sz = d.sz ∧ LogHas w' p b sb mb ub d' ⟨L.turn, L.next + 1, L.at_ + secs (d.sz - 16) (32 + (bodyB rs).length), L.all ++ rs⟩)) := by
  refine calls_hide fun R hR => ?_
  obtain ⟨a, c, rfl⟩ := hv.len
  obtain ⟨hb1, hb2, hb3, hb4, hb5⟩ := h.bounds
  have hT := h.ok.bT
  obtain ⟨m, hm⟩ : ∃ m, m = d.sz - 16 := ⟨_, rfl⟩
  obtain ⟨H, hH⟩ : ∃ H, H = d.n / 2 := ⟨_, rfl⟩
  have hp0 := h.at_.obj
  have hS0 : w.drew.cell? ⟨p, 1, none⟩ = some (.int .u64 (L.turn : Int)) ∧ w.drew.cell? ⟨p, 2, none⟩ = some (.int .u64 (L.next : Int)) ∧ w.drew.cell? ⟨p, 3, none⟩ = some (.int .i64 (L.at_ : Int)) := ⟨cell_of (i := 1) hp0 rfl, cell_of (i := 2) hp0 rfl, cell_of (i := 3) hp0 rfl⟩
  have HWR := wwrite_any (w := w.drew) (rs := rs) (v := .slice a rs.length c) L.turn L.next L.at_ m H (L.turn % 2 * H + L.at_) (by have := h.sz; omega) hH.symm rfl (by have := h.sz; omega) h.well (h.disk.stay (Mod.refl No w).drew) hp0 (h.at_.undone.keep (S := No) (Mod.refl No w).drew (fun f => f)) h.ne (hv.stay (Mod.refl No w).drew) hl (by omega) hT (by omega)
  have HWR := Lib.hid HWR
  have HL := Lib.hid (And.intro h (And.intro hm hH))
  have hpo := obj_not_own h.disk hp0 (by decide) (by decide)
  have hpu : p ≠ ub := fun e => by subst e; exact mp_not_cells h.at_.undone _ _ _ hp0
  have HPO := Lib.hid (And.intro hpo hpu)
  rw [← hm, ← hH] at hR
  clear h hv hm hH hp0 hpo hpu
  go_enter Try.func29, Try.ntmps29
  go_upto_region 1 with fail
  refine wp_region_T (fun w' => w'.cell? ⟨p, 1, none⟩ = some (.int .u64 (L.turn : Int)) ∧ w'.cell? ⟨p, 2, none⟩ = some (.int .u64 (L.next : Int)) ∧ w'.cell? ⟨p, 3, none⟩ = some (.int .i64 (L.at_ : Int))) 99 (by kernel_rfl) ?_
  refine wpAnyT_takeV 0 (some 8) ?_ rfl rfl (by kernel_rfl) (fun _ _ _ h => h) hS0 (Or.inl ⟨by rfl, ?_⟩) ?_
  rotate_left
  · (intro w' hSw; (try dsimp only at hSw); go_simp; try with_reducible rfl)
  simp only [Act.put, List.setIfInBounds_toArray, List.set_cons_zero, List.set_cons_succ]
  refine wpAnyT_takeV 1 (some 9) ?_ rfl rfl (by kernel_rfl) (fun _ _ _ h => h) hS0 (Or.inl ⟨by rfl, ?_⟩) ?_
  rotate_left
  · (intro w' hSw; (try dsimp only at hSw); go_simp; try with_reducible rfl)
  simp only [Act.put, List.setIfInBounds_toArray, List.set_cons_zero, List.set_cons_succ]
  refine wpAnyT_takeV 2 (some 10) ?_ rfl rfl (by kernel_rfl) (fun _ _ _ h => h) hS0 (Or.inl ⟨by rfl, ?_⟩) ?_
  rotate_left
  · (intro w' hSw; (try dsimp only at hSw); go_simp; try with_reducible rfl)
  simp only [Act.put, List.setIfInBounds_toArray, List.set_cons_zero, List.set_cons_succ]
  refine wpAnyT_takeV 3 (some 11) ?_ rfl rfl (by kernel_rfl) (fun _ _ _ h => h) hS0 (Or.inl ⟨by rfl, ?_⟩) ?_
  rotate_left
  · (intro w' hSw; (try dsimp only at hSw); go_simp; try with_reducible rfl)
  simp only [Act.put, List.setIfInBounds_toArray, List.set_cons_zero, List.set_cons_succ]
  refine wpAnyT_takeV 4 (some 12) ?_ rfl rfl (by kernel_rfl) (fun _ _ _ h => h) hS0 (Or.inl ⟨by rfl, ?_⟩) ?_
  rotate_left
  · (intro w' hSw; (try dsimp only at hSw); go_simp; try with_reducible rfl)
  simp only [Act.put, List.setIfInBounds_toArray, List.set_cons_zero, List.set_cons_succ]
  refine wpAnyT_takeV 5 (some 13) ?_ rfl rfl (by kernel_rfl) (fun _ _ _ h => h) hS0 (Or.inl ⟨by rfl, ?_⟩) ?_
  rotate_left
  · (intro w' hSw; (try dsimp only at hSw); go_simp; try with_reducible rfl)
  simp only [Act.put, List.setIfInBounds_toArray, List.set_cons_zero, List.set_cons_succ]
  refine wpAnyT_takeV 6 (some 14) ?_ rfl rfl (by kernel_rfl) (fun _ _ _ h => h) hS0 (Or.inl ⟨by rfl, ?_⟩) ?_
  rotate_left
  · (intro w' hSw; (try dsimp only at hSw); go_simp; try with_reducible rfl)
  simp only [Act.put, List.setIfInBounds_toArray, List.set_cons_zero, List.set_cons_succ]
  refine wpAnyT_takeV 7 (some 15) ?_ rfl rfl (by kernel_rfl) (fun _ _ _ h => h) hS0 (Or.inl ⟨by rfl, ?_⟩) ?_
  rotate_left
  · (intro w' hSw; (try dsimp only at hSw); go_simp; try with_reducible rfl)
  simp only [Act.put, List.setIfInBounds_toArray, List.set_cons_zero, List.set_cons_succ]
  refine wpAnyT_takeV 8 (some 16) ?_ rfl rfl (by kernel_rfl) (fun _ _ _ h => h) hS0 (Or.inl ⟨by rfl, ?_⟩) ?_
  rotate_left
  · (intro w' hSw; (try dsimp only at hSw); go_simp; try with_reducible rfl)
  simp only [Act.put, List.setIfInBounds_toArray, List.set_cons_zero, List.set_cons_succ]
  refine wpAnyT_takeV 9 (some 17) ?_ rfl rfl (by kernel_rfl) (fun _ _ _ h => h) hS0 (Or.inl ⟨by rfl, ?_⟩) ?_
  rotate_left
  · (intro w' hSw; (try dsimp only at hSw); go_simp; try with_reducible rfl)
  simp only [Act.put, List.setIfInBounds_toArray, List.set_cons_zero, List.set_cons_succ]
  refine wpAnyT_takeV 10 (some 18) ?_ rfl rfl (by kernel_rfl) (fun _ _ _ h => h) hS0 (Or.inl ⟨by rfl, ?_⟩) ?_
  rotate_left
  · (intro w' hSw; (try dsimp only at hSw); go_simp; try with_reducible rfl)
  simp only [Act.put, List.setIfInBounds_toArray, List.set_cons_zero, List.set_cons_succ]
  refine wpAnyT_takeV 11 (some 19) ?_ rfl rfl (by kernel_rfl) (fun _ _ _ h => h) hS0 (Or.inl ⟨by rfl, ?_⟩) ?_
  rotate_left
  · (intro w' hSw; (try dsimp only at hSw); go_simp; try with_reducible rfl)
  simp only [Act.put, List.setIfInBounds_toArray, List.set_cons_zero, List.set_cons_succ]
  refine wpAnyT_takeV 12 (some 20) ?_ rfl rfl (by kernel_rfl) (fun _ _ _ h => h) hS0 (Or.inl ⟨by rfl, ?_⟩) ?_
  rotate_left
  · (intro w' hSw; (try dsimp only at hSw); go_simp; try with_reducible rfl)
  simp only [Act.put, List.setIfInBounds_toArray, List.set_cons_zero, List.set_cons_succ]
  refine wpAnyT_takeV 13 (some 21) ?_ rfl rfl (by kernel_rfl) (fun _ _ _ h => h) hS0 (Or.inl ⟨by rfl, ?_⟩) ?_
  rotate_left
  · (intro w' hSw; (try dsimp only at hSw); go_simp; try with_reducible rfl)
  simp only [Act.put, List.setIfInBounds_toArray, List.set_cons_zero, List.set_cons_succ]
  refine wpAnyT_one 14 rfl (by kernel_rfl) rfl ?_
  intro K hK
  go_simp
  go_at_call 51
  with_reducible refine HWR.out.mono ?_
  clear HWR
  rintro e w1 (⟨he, rfl, hm1⟩ | ⟨he, hk, rfl, hdk, hmp, hm1⟩)
  · have hS1 : w1.cell? ⟨p, 1, none⟩ = some (.int .u64 (L.turn : Int)) ∧ w1.cell? ⟨p, 2, none⟩ = some (.int .u64 (L.next : Int)) ∧ w1.cell? ⟨p, 3, none⟩ = some (.int .i64 (L.at_ : Int)) := ⟨hm1.cell hS0.1 (fun f => f), hm1.cell hS0.2.1 (fun f => f), hm1.cell hS0.2.2 (fun f => f)⟩
    have HE := Lib.hid he
    have M1 := Lib.hid hm1
    clear he hm1
    show K _ _
    refine hK.out _ _ (fun _ => hS1) ?_
    clear hK K hS0
    refine wpAnyT_takeV 15 (some 7) ?_ rfl rfl (by kernel_rfl) (fun _ _ _ h => h) hS1 (Or.inl ⟨by rfl, ?_⟩) ?_
    rotate_left
    · (intro w' hSw; (try dsimp only at hSw); go_simp; try with_reducible rfl)
    simp only [Act.put, List.setIfInBounds_toArray, List.set_cons_zero, List.set_cons_succ]
    refine wpAnyT_takeV 16 (some 23) ?_ rfl rfl (by kernel_rfl) (fun _ _ _ h => h) hS1 (Or.inl ⟨by rfl, ?_⟩) ?_
    rotate_left
    · (intro w' hSw; (try dsimp only at hSw); go_simp; try with_reducible rfl)
    simp only [Act.put, List.setIfInBounds_toArray, List.set_cons_zero, List.set_cons_succ]
    refine wpAnyT_takeV 17 (some 24) ?_ rfl rfl (by kernel_rfl) (fun _ _ _ h => h) hS1 (Or.inl ⟨by rfl, ?_⟩) ?_
    rotate_left
    · (intro w' hSw; (try dsimp only at hSw); go_simp; try with_reducible rfl)
    simp only [Act.put, List.setIfInBounds_toArray, List.set_cons_zero, List.set_cons_succ]
    refine wpAnyT_takeV 18 (some 5) ?_ rfl rfl (by kernel_rfl) (fun _ _ _ h => h) hS1 (Or.inl ⟨by rfl, ?_⟩) ?_
    rotate_left
    · (intro w' hSw; (try dsimp only at hSw); go_simp; try with_reducible rfl)
    simp only [Act.put, List.setIfInBounds_toArray, List.set_cons_zero, List.set_cons_succ]
    refine wpAnyT_takeV 19 (some 6) ?_ rfl rfl (by kernel_rfl) (fun _ _ _ h => h) hS1 (Or.inl ⟨by rfl, ?_⟩) ?_
    rotate_left
    · (intro w' hSw; (try dsimp only at hSw); go_simp; try with_reducible rfl)
    simp only [Act.put, List.setIfInBounds_toArray, List.set_cons_zero, List.set_cons_succ]
    refine wpAnyT_done (by kernel_rfl) ?_ _
    clear hS1
    generalize wrE H m L.at_ rs = x at *
    have hx := HE.out
    have hx2 : (x == 0) = false := by simpa using hx
    go_wp2_with fail
    exact fin hR ⟨rfl, .inl ⟨HE.out, (Mod.refl No w).drew.trans M1.out⟩⟩
  · have hpw := hm1.keep (show w.drew.heap[p]? = some (LgObj b ub L.turn L.next L.at_ L.all.length) from HL.out.1.at_.obj) (fun e => e.elim HPO.out.1 HPO.out.2)
    have hS1 : w1.cell? ⟨p, 1, none⟩ = some (.int .u64 (L.turn : Int)) ∧ w1.cell? ⟨p, 2, none⟩ = some (.int .u64 (L.next : Int)) ∧ w1.cell? ⟨p, 3, none⟩ = some (.int .i64 (L.at_ : Int)) := ⟨cell_of (i := 1) hpw rfl, cell_of (i := 2) hpw rfl, cell_of (i := 3) hpw rfl⟩
    have HE := Lib.hid he
    have HX := Lib.hid (And.intro hk (And.intro hdk (And.intro hmp hm1)))
    have HPW := Lib.hid hpw
    have k1 : ((L.at_ + secs m (32 + (bodyB rs).length) : Nat) : Int) ≤ 2048 := by have := HL.out.2.2; omega
    have k0 : (0 : Int) ≤ ((L.at_ + secs m (32 + (bodyB rs).length) : Nat) : Int) := Int.natCast_nonneg _
    obtain ⟨at2, hat2⟩ : ∃ at2, at2 = L.at_ + secs m (32 + (bodyB rs).length) := ⟨_, rfl⟩
    rw [← hat2] at k0 k1
    rw [← hat2]
    have HA := Lib.hid hat2
    clear he hk hdk hmp hm1 hpw hat2
    show K _ _
    refine hK.out _ _ (fun _ => hS1) ?_
    clear hK K hS0
    refine wpAnyT_takeV 15 (some 7) ?_ rfl rfl (by kernel_rfl) (fun _ _ _ h => h) hS1 (Or.inl ⟨by rfl, ?_⟩) ?_
    rotate_left
    · (intro w' hSw; (try dsimp only at hSw); go_simp; try with_reducible rfl)
    simp only [Act.put, List.setIfInBounds_toArray, List.set_cons_zero, List.set_cons_succ]
    refine wpAnyT_takeV 16 (some 23) ?_ rfl rfl (by kernel_rfl) (fun _ _ _ h => h) hS1 (Or.inl ⟨by rfl, ?_⟩) ?_
    rotate_left
    · (intro w' hSw; (try dsimp only at hSw); go_simp; try with_reducible rfl)
    simp only [Act.put, List.setIfInBounds_toArray, List.set_cons_zero, List.set_cons_succ]
    refine wpAnyT_takeV 17 (some 24) ?_ rfl rfl (by kernel_rfl) (fun _ _ _ h => h) hS1 (Or.inl ⟨by rfl, ?_⟩) ?_
    rotate_left
    · (intro w' hSw; (try dsimp only at hSw); go_simp; try with_reducible rfl)
    simp only [Act.put, List.setIfInBounds_toArray, List.set_cons_zero, List.set_cons_succ]
    refine wpAnyT_takeV 18 (some 5) ?_ rfl rfl (by kernel_rfl) (fun _ _ _ h => h) hS1 (Or.inl ⟨by rfl, ?_⟩) ?_
    rotate_left
    · (intro w' hSw; (try dsimp only at hSw); go_simp; try with_reducible rfl)
    simp only [Act.put, List.setIfInBounds_toArray, List.set_cons_zero, List.set_cons_succ]
    refine wpAnyT_takeV 19 (some 6) ?_ rfl rfl (by kernel_rfl) (fun _ _ _ h => h) hS1 (Or.inl ⟨by rfl, ?_⟩) ?_
    rotate_left
    · (intro w' hSw; (try dsimp only at hSw); go_simp; try with_reducible rfl)
    simp only [Act.put, List.setIfInBounds_toArray, List.set_cons_zero, List.set_cons_succ]
    refine wpAnyT_done (by kernel_rfl) ?_ _
    obtain ⟨c1, c2, c3⟩ := hS1
    have c4 := cell_of (i := 4) HPW.out rfl
    have f2 := frozen_of 2 HPW.out
    have f3 := frozen_of 3 HPW.out
    have f4 := frozen_of 4 HPW.out
    go_wp2_with fail
    obtain ⟨hk, ⟨d', e1, e2, e3, hdk, hlaid⟩, hmp, hm1⟩ := HX.out
    obtain ⟨w2, hw2⟩ : ∃ w2, w2 = ((w1.setCell ⟨p, 3, none⟩ (.int .i64 (at2 : Int))).setCell ⟨p, 2, none⟩ (.int .u64 ((L.next : Int) + 1))).setCell ⟨p, 4, none⟩ (.int .i64 ((L.all.length : Int) + (rs.length : Int))) := ⟨_, rfl⟩
    have hm2 : Mod (fun q => q = p) w1 w2 := by rw [hw2]; exact (((Mod.refl (fun q => q = p) w1).setCell (fun _ => rfl) _).setCell (fun _ => rfl) _).setCell (fun _ => rfl) _
    have hp2 : w2.heap[p]? = some (LgObj b ub L.turn (L.next + 1) at2 (L.all ++ rs).length) := by
      rw [hw2, heap_setCell (heap_setCell (heap_setCell HPW.out _) _) _, List.length_append]; rfl
    have hwe := wrE_ok HE.out
    obtain ⟨hL, hm, hH⟩ := HL.out
    refine fin hR ⟨by rw [HE.out]; rfl, .inr ⟨HE.out, ?_, d', e1, e2, ?_⟩⟩
    · show Mod _ w _
      rw [← hw2]
      exact (((Mod.refl _ w).drew).trans (hm1.weaken fun _ _ e => e.elim .inl fun e => .inr (.inl e))).trans (hm2.weaken fun _ _ e => .inr (.inr e))
    · rw [← hw2, ← HA.out]
      refine ⟨hdk.keep hm2 (fun e => HPO.out.1 (.inl e.symm)) (fun e => HPO.out.1 (.inr (.inl e.symm))) (fun e => HPO.out.1 (.inr (.inr e.symm))) (fun q e => .inr fun cur fz hx => by
        subst e; rw [HPW.out] at hx; cases hx), ⟨hp2, hmp.keep hm2 fun e => HPO.out.2 e.symm⟩, hL.ne, e3, by rw [e1]; exact hL.n, by rw [e2]; exact hL.sz, ?_⟩
      rw [e1, e2, HA.out, ← hm, ← hH]
      refine LogOK.commit (by have := hL.sz; omega) (by rw [hm, hH]; exact hL.ok) (fun r hr => by have := hwe.1 r hr; omega) ?_ hk (by omega) hlaid
      have h1 := hwe.2
      have h2 : (H - L.at_) * m ≤ 2048 * 4080 := Nat.mul_le_mul (by omega) (by omega)
      omega

end Go.Proofs.Ytnchclleiccofaa
