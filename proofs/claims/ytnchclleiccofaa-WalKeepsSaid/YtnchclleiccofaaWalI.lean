/-
  Layer 4, the log: the closures of begin and Open. No statement is proved here; no condition.
-/
import Derived.Test.YtnchclleiccofaaWalH
namespace Go.Proofs.Ytnchclleiccofaa
open Go.RowKit

theorem getN_lt (l : List UInt8) : getN l < 18446744073709551616 := by
  unfold getN
  generalize hz : (0 : Nat) = z
  have hz' : z < 18446744073709551616 := by omega
  clear hz
  induction l generalizing z with
  | nil => exact hz'
  | cons x l ih => exact ih _ (Nat.mod_lt _ (by omega))

theorem rd_turn {S : Nat → List UInt8} {h size side at_ next t beh : Nat} {rs : List (List UInt8)} (hs : 0 < size) (e : rd S h size side at_ next = some (t, rs, beh)) : t < 18446744073709551616 := by
  obtain ⟨_, _, _, h1, _⟩ := rd_some hs e
  rw [← h1]; exact getN_lt _

theorem mod2_u64 (t : Nat) (side : Nat) : (((t : Int) % 2) == (side : Int)) = decide (t % 2 = side) := by
  rw [Bool.eq_iff_iff]; simp; omega

set_option maxRecDepth 100000 in
set_option maxHeartbeats 1000000 in
theorem begin1_any {b sb mb p : Nat} {d : Dk} {w : World} (lv sv tv side : Nat) (t0 : Value) (hs : side < 2) (hz : 128 ≤ d.sz) (hw : Well d) (h : DkAt w No b sb mb d) (c0 : w.cell? ⟨p, 0, none⟩ = some (.pointer (some ⟨b, 0, none⟩)))
    (hl : w.heap[lv]? = some (.cells #[.pointer (some ⟨p, 0, none⟩)] 56 (0, 0))) (hsv : w.heap[sv]? = some (.cells #[.int .i64 (side : Int)] 3 (0, 0))) (htv : w.heap[tv]? = some (.cells #[t0] 34 (0, 0))) :
    Calls Try.prog 56 #[.pointer (some ⟨lv, 0, none⟩), .pointer (some ⟨sv, 0, none⟩), .pointer (some ⟨tv, 0, none⟩)] w fun e w' => Mod (fun q => q = tv) w w' ∧
      ((e = .returned (.tuple #[]) ∧ ∃ t : Nat, firstT d.last (d.n / 2) (d.sz - 16) side = some t ∧ w'.heap[tv]? = some (.cells #[.int .u64 (t : Int)] 34 (0, 0))) ∨ (e = Stopped ∧ firstT d.last (d.n / 2) (d.sz - 16) side = none)) := by
  refine calls_hide fun R hR => ?_
  have HO := open_any (p := p) side 0 0 hs (by omega) hz hw h c0
  have l0 := cell_of (i := 0) hl rfl
  have s0 := cell_of (i := 0) hsv rfl
  have HTV := Lib.hid htv
  have HSV := Lib.hid hsv
  have hst : sv ≠ tv := fun e => by subst e; rw [hsv] at htv; cases htv
  have hsz : 0 < d.sz - 16 := by omega
  clear h c0 hw hl hsv htv
  unfold firstT at hR
  cases hrd : rd d.last (d.n / 2) (d.sz - 16) side 0 0 with
  | none =>
    rw [hrd] at HO hR
    have HO := Lib.hid HO
    clear hrd
    go_enter Try.func56, Try.ntmps56
    go_wp2_with fail
    refine HO.out.mono ?_
    rintro e w1 ⟨rfl, hm⟩
    go_wp2_with fail
    exact ⟨rfl, fin hR ⟨hm.weaken fun _ _ f => f.elim, .inr ⟨rfl, by trivial⟩⟩⟩
  | some q =>
    obtain ⟨t, rs, beh⟩ := q
    have htb := rd_turn hsz hrd
    rw [hrd] at HO hR
    have HO := Lib.hid HO
    clear hrd
    go_enter Try.func56, Try.ntmps56
    go_wp2_with fail
    refine HO.out.mono ?_
    clear HO
    rintro e w1 ⟨⟨v, rfl, _⟩, hm⟩
    have htv1 := hm.keep HTV.out (fun f => f)
    have tc := cell_of (i := 0) htv1 rfl
    have tf := frozen_of 0 htv1
    have m2 : Mod (fun q => q = tv) w1 (w1.setCell ⟨tv, 0, none⟩ (.int .u64 (t : Int))) := (Mod.refl (fun q => q = tv) w1).setCell (fun _ => rfl) _
    have ht2 := heap_setCell htv1 (i := 0) (.int .u64 (t : Int))
    have t1 := cell_of (i := 0) ht2 rfl
    have s1 := cell_of (i := 0) (m2.keep (hm.keep HSV.out (fun f => f)) hst) rfl
    have HT2 := Lib.hid ht2
    have M2 := Lib.hid ((hm.weaken (T := fun q => q = tv) fun _ _ f => f.elim).trans m2)
    have hmod := mod2_u64 t side
    clear hm htv1 m2 ht2
    by_cases hp : t % 2 = side
    · have hd : decide (t % 2 = side) = true := decide_eq_true hp
      rw [hd] at hmod
      have HPP := Lib.hid hp
      clear hp hd
      go_wp2_with fail
      refine (must_yes 0 _).mono ?_
      rintro e w3 ⟨rfl, h3⟩
      subst h3
      go_wp2_with fail
      go_end0
      exact fin hR ⟨M2.out, .inl ⟨rfl, t, by rw [if_pos HPP.out], HT2.out⟩⟩
    · have hd : decide (t % 2 = side) = false := decide_eq_false hp
      rw [hd] at hmod
      have HPP := Lib.hid hp
      clear hp hd
      go_wp2_with fail
      refine (must_no _).mono ?_
      rintro e w3 ⟨rfl, h3⟩
      subst h3
      go_wp2_with fail
      exact ⟨rfl, fin hR ⟨M2.out, .inr ⟨rfl, by rw [if_neg HPP.out]⟩⟩⟩

set_option maxRecDepth 100000 in
set_option maxHeartbeats 2000000 in
theorem open1_any {b sb mb p ub : Nat} {d : Dk} {w : World} (lv rv bv' count : Nat) (L : Lg) (v0 v1 : Value) (hnx : L.next + 1 < 18446744073709551616) (hz : 128 ≤ d.sz) (hw : Well d) (h : DkAt w No b sb mb d)
    (hp : w.heap[p]? = some (LgObj b ub L.turn L.next L.at_ count)) (hl : w.heap[lv]? = some (.cells #[.pointer (some ⟨p, 0, none⟩)] 56 (0, 0))) (hrv : w.heap[rv]? = some (.cells #[v0] 26 (0, 0))) (hbv : w.heap[bv']? = some (.cells #[v1] 3 (0, 0))) :
    Calls Try.prog 48 #[.pointer (some ⟨lv, 0, none⟩), .pointer (some ⟨rv, 0, none⟩), .pointer (some ⟨bv', 0, none⟩)] w fun e w' => Mod (fun q => q = rv ∨ q = bv') w w' ∧
      ((e = .returned (.tuple #[]) ∧ ∃ (rs : List (List UInt8)) (beh : Nat) (v : Value), rd d.last (d.n / 2) (d.sz - 16) (L.turn % 2) L.at_ L.next = some (L.turn, rs, beh) ∧ w'.heap[rv]? = some (.cells #[v] 26 (0, 0)) ∧ OwnRecs w' w.heap.size v rs ∧ w'.heap[bv']? = some (.cells #[.int .i64 (beh : Int)] 3 (0, 0))) ∨
       (e = Stopped ∧ Stop d.last (d.n / 2) (d.sz - 16) (L.turn % 2) L.turn L.at_ L.next)) := by
  refine calls_hide fun R hR => ?_
  have hside : L.turn % 2 < 2 := Nat.mod_lt _ (by omega)
  have c0 := cell_of (i := 0) hp rfl
  have HO := open_any (p := p) (w := w.drew) (L.turn % 2) L.at_ L.next hside hnx hz hw (h.stay (Mod.refl No w).drew) c0
  have hS0 : w.drew.cell? ⟨lv, 0, none⟩ = some (.pointer (some ⟨p, 0, none⟩)) ∧ w.drew.cell? ⟨p, 1, none⟩ = some (.int .u64 (L.turn : Int)) ∧ w.drew.cell? ⟨p, 2, none⟩ = some (.int .u64 (L.next : Int)) ∧ w.drew.cell? ⟨p, 3, none⟩ = some (.int .i64 (L.at_ : Int)) := ⟨cell_of (i := 0) hl rfl, cell_of (i := 1) hp rfl, cell_of (i := 2) hp rfl, cell_of (i := 3) hp rfl⟩
  have HRV := Lib.hid hrv
  have HBV := Lib.hid hbv
  have HPP := Lib.hid hp
  have HLL := Lib.hid hl
  have HRB := Lib.hid (show rv ≠ bv' from fun e => by subst e; rw [hrv] at hbv; cases hbv)
  have HPR := Lib.hid (show ¬ (p = rv ∨ p = bv') from fun e => by
    rcases e with e | e
    · subst e; rw [hp] at hrv; cases hrv
    · subst e; rw [hp] at hbv; cases hbv)
  have HLR := Lib.hid (show ¬ (lv = rv ∨ lv = bv') from fun e => by
    rcases e with e | e
    · subst e; rw [hl] at hrv; cases hrv
    · subst e; rw [hl] at hbv; cases hbv)
  have HE2 := Lib.hid (show IntKind.i64.wrap ((L.turn : Int).tmod 2) = ((L.turn % 2 : Nat) : Int) by rw [Int.tmod_eq_emod_of_nonneg (Int.natCast_nonneg _), IntKind.wrap_i64]; omega)
  clear h c0 hw hl hrv hbv hp
  unfold Stop at hR
  cases hrd : rd d.last (d.n / 2) (d.sz - 16) (L.turn % 2) L.at_ L.next with
  | none =>
    rw [hrd] at HO hR
    have HOP := Lib.hid HO
    clear HO hrd
    go_enter Try.func48, Try.ntmps48
    go_upto_region 0 with fail
    refine wp_region_T (fun w' => w'.cell? ⟨lv, 0, none⟩ = some (.pointer (some ⟨p, 0, none⟩)) ∧ w'.cell? ⟨p, 1, none⟩ = some (.int .u64 (L.turn : Int)) ∧ w'.cell? ⟨p, 2, none⟩ = some (.int .u64 (L.next : Int)) ∧ w'.cell? ⟨p, 3, none⟩ = some (.int .i64 (L.at_ : Int))) 22 (by kernel_rfl) ?_
    refine wpAnyT_take 0 (some 7) ?_ rfl rfl (by kernel_rfl) (fun _ _ _ h => h) hS0 (Or.inl ⟨by rfl, ?_⟩) ?_
    rotate_left
    · (intro w' hSw; (try dsimp only at hSw); go_simp; try with_reducible rfl)
    simp only [Act.put, List.setIfInBounds_toArray, List.set_cons_zero, List.set_cons_succ]
    refine wpAnyT_take 1 (some 8) ?_ rfl rfl (by kernel_rfl) (fun _ _ _ h => h) hS0 (Or.inl ⟨by rfl, ?_⟩) ?_
    rotate_left
    · (intro w' hSw; (try dsimp only at hSw); go_simp; try with_reducible rfl)
    simp only [Act.put, List.setIfInBounds_toArray, List.set_cons_zero, List.set_cons_succ]
    refine wpAnyT_take 2 (some 9) ?_ rfl rfl (by kernel_rfl) (fun _ _ _ h => h) hS0 (Or.inl ⟨by rfl, ?_⟩) ?_
    rotate_left
    · (intro w' hSw; (try dsimp only at hSw); go_simp; try with_reducible rfl)
    simp only [Act.put, List.setIfInBounds_toArray, List.set_cons_zero, List.set_cons_succ]
    refine wpAnyT_take 3 (some 10) ?_ rfl rfl (by kernel_rfl) (fun _ _ _ h => h) hS0 (Or.inl ⟨by rfl, ?_⟩) ?_
    rotate_left
    · (intro w' hSw; (try dsimp only at hSw); go_simp; try with_reducible rfl)
    simp only [Act.put, List.setIfInBounds_toArray, List.set_cons_zero, List.set_cons_succ]
    refine wpAnyT_take 4 (some 11) ?_ rfl rfl (by kernel_rfl) (fun _ _ _ h => h) hS0 (Or.inl ⟨by rfl, ?_⟩) ?_
    rotate_left
    · (intro w' hSw; (try dsimp only at hSw); go_simp; try with_reducible rfl)
    simp only [Act.put, List.setIfInBounds_toArray, List.set_cons_zero, List.set_cons_succ]
    refine wpAnyT_take 5 (some 12) ?_ rfl rfl (by kernel_rfl) (fun _ _ _ h => h) hS0 (Or.inl ⟨by rfl, ?_⟩) ?_
    rotate_left
    · (intro w' hSw; (try dsimp only at hSw); go_simp; try with_reducible rfl)
    simp only [Act.put, List.setIfInBounds_toArray, List.set_cons_zero, List.set_cons_succ]
    refine wpAnyT_take 6 (some 13) ?_ rfl rfl (by kernel_rfl) (fun _ _ _ h => h) hS0 (Or.inl ⟨by rfl, ?_⟩) ?_
    rotate_left
    · (intro w' hSw; (try dsimp only at hSw); go_simp; try with_reducible rfl)
    simp only [Act.put, List.setIfInBounds_toArray, List.set_cons_zero, List.set_cons_succ]
    refine wpAnyT_take 7 (some 14) ?_ rfl rfl (by kernel_rfl) (fun _ _ _ h => h) hS0 (Or.inl ⟨by rfl, ?_⟩) ?_
    rotate_left
    · (intro w' hSw; (try dsimp only at hSw); go_simp; try with_reducible rfl)
    simp only [Act.put, List.setIfInBounds_toArray, List.set_cons_zero, List.set_cons_succ]
    refine wpAnyT_take 8 (some 15) ?_ rfl rfl (by kernel_rfl) (fun _ _ _ h => h) hS0 (Or.inl ⟨by rfl, ?_⟩) ?_
    rotate_left
    · (intro w' hSw; (try dsimp only at hSw); go_simp; try with_reducible rfl)
    simp only [Act.put, List.setIfInBounds_toArray, List.set_cons_zero, List.set_cons_succ]
    refine wpAnyT_take 9 (some 16) ?_ rfl rfl (by kernel_rfl) (fun _ _ _ h => h) hS0 (Or.inl ⟨by rfl, ?_⟩) ?_
    rotate_left
    · (intro w' hSw; (try dsimp only at hSw); go_simp; try with_reducible rfl)
    simp only [Act.put, List.setIfInBounds_toArray, List.set_cons_zero, List.set_cons_succ]
    refine wpAnyT_take 10 (some 17) ?_ rfl rfl (by kernel_rfl) (fun _ _ _ h => h) hS0 (Or.inl ⟨by rfl, ?_⟩) ?_
    rotate_left
    · (intro w' hSw; (try dsimp only at hSw); go_simp; try with_reducible rfl)
    simp only [Act.put, List.setIfInBounds_toArray, List.set_cons_zero, List.set_cons_succ]
    refine wpAnyT_take 11 (some 18) ?_ rfl rfl (by kernel_rfl) (fun _ _ _ h => h) hS0 (Or.inl ⟨by rfl, ?_⟩) ?_
    rotate_left
    · (intro w' hSw; (try dsimp only at hSw); go_simp; try with_reducible rfl)
    simp only [Act.put, List.setIfInBounds_toArray, List.set_cons_zero, List.set_cons_succ]
    refine wpAnyT_take 12 (some 19) ?_ rfl rfl (by kernel_rfl) (fun _ _ _ h => h) hS0 (Or.inl ⟨by rfl, ?_⟩) ?_
    rotate_left
    · (intro w' hSw; (try dsimp only at hSw); go_simp; try with_reducible rfl)
    simp only [Act.put, List.setIfInBounds_toArray, List.set_cons_zero, List.set_cons_succ]
    refine wpAnyT_take 13 (some 20) ?_ rfl rfl (by kernel_rfl) (fun _ _ _ h => h) hS0 (Or.inl ⟨by rfl, ?_⟩) ?_
    rotate_left
    · (intro w' hSw; (try dsimp only at hSw); go_simp; try with_reducible rfl)
    simp only [Act.put, List.setIfInBounds_toArray, List.set_cons_zero, List.set_cons_succ]
    refine wpAnyT_take 14 (some 21) ?_ rfl rfl (by kernel_rfl) (fun _ _ _ h => h) hS0 (Or.inl ⟨by rfl, ?_⟩) ?_
    rotate_left
    · (intro w' hSw; (try dsimp only at hSw); go_simp; try with_reducible rfl)
    simp only [Act.put, List.setIfInBounds_toArray, List.set_cons_zero, List.set_cons_succ]
    refine wpAnyT_one 15 rfl (by kernel_rfl) rfl ?_
    intro K hK
    go_simp
    go_at_call 49
    rw [HE2.out]
    refine HOP.out.mono ?_
    rintro e w1 ⟨rfl, hm1⟩
    exact ⟨rfl, fin hR ⟨((Mod.refl No w).drew.trans hm1).weaken fun _ _ f => f.elim, .inr ⟨rfl, fun _ _ e => by cases e⟩⟩⟩
  | some q =>
    obtain ⟨t, rs, beh⟩ := q
    rw [hrd] at HO hR
    have HOP := Lib.hid HO
    clear HO hrd
    go_enter Try.func48, Try.ntmps48
    go_upto_region 0 with fail
    refine wp_region_T (fun w' => w'.cell? ⟨lv, 0, none⟩ = some (.pointer (some ⟨p, 0, none⟩)) ∧ w'.cell? ⟨p, 1, none⟩ = some (.int .u64 (L.turn : Int)) ∧ w'.cell? ⟨p, 2, none⟩ = some (.int .u64 (L.next : Int)) ∧ w'.cell? ⟨p, 3, none⟩ = some (.int .i64 (L.at_ : Int))) 22 (by kernel_rfl) ?_
    refine wpAnyT_take 0 (some 7) ?_ rfl rfl (by kernel_rfl) (fun _ _ _ h => h) hS0 (Or.inl ⟨by rfl, ?_⟩) ?_
    rotate_left
    · (intro w' hSw; (try dsimp only at hSw); go_simp; try with_reducible rfl)
    simp only [Act.put, List.setIfInBounds_toArray, List.set_cons_zero, List.set_cons_succ]
    refine wpAnyT_take 1 (some 8) ?_ rfl rfl (by kernel_rfl) (fun _ _ _ h => h) hS0 (Or.inl ⟨by rfl, ?_⟩) ?_
    rotate_left
    · (intro w' hSw; (try dsimp only at hSw); go_simp; try with_reducible rfl)
    simp only [Act.put, List.setIfInBounds_toArray, List.set_cons_zero, List.set_cons_succ]
    refine wpAnyT_take 2 (some 9) ?_ rfl rfl (by kernel_rfl) (fun _ _ _ h => h) hS0 (Or.inl ⟨by rfl, ?_⟩) ?_
    rotate_left
    · (intro w' hSw; (try dsimp only at hSw); go_simp; try with_reducible rfl)
    simp only [Act.put, List.setIfInBounds_toArray, List.set_cons_zero, List.set_cons_succ]
    refine wpAnyT_take 3 (some 10) ?_ rfl rfl (by kernel_rfl) (fun _ _ _ h => h) hS0 (Or.inl ⟨by rfl, ?_⟩) ?_
    rotate_left
    · (intro w' hSw; (try dsimp only at hSw); go_simp; try with_reducible rfl)
    simp only [Act.put, List.setIfInBounds_toArray, List.set_cons_zero, List.set_cons_succ]
    refine wpAnyT_take 4 (some 11) ?_ rfl rfl (by kernel_rfl) (fun _ _ _ h => h) hS0 (Or.inl ⟨by rfl, ?_⟩) ?_
    rotate_left
    · (intro w' hSw; (try dsimp only at hSw); go_simp; try with_reducible rfl)
    simp only [Act.put, List.setIfInBounds_toArray, List.set_cons_zero, List.set_cons_succ]
    refine wpAnyT_take 5 (some 12) ?_ rfl rfl (by kernel_rfl) (fun _ _ _ h => h) hS0 (Or.inl ⟨by rfl, ?_⟩) ?_
    rotate_left
    · (intro w' hSw; (try dsimp only at hSw); go_simp; try with_reducible rfl)
    simp only [Act.put, List.setIfInBounds_toArray, List.set_cons_zero, List.set_cons_succ]
    refine wpAnyT_take 6 (some 13) ?_ rfl rfl (by kernel_rfl) (fun _ _ _ h => h) hS0 (Or.inl ⟨by rfl, ?_⟩) ?_
    rotate_left
    · (intro w' hSw; (try dsimp only at hSw); go_simp; try with_reducible rfl)
    simp only [Act.put, List.setIfInBounds_toArray, List.set_cons_zero, List.set_cons_succ]
    refine wpAnyT_take 7 (some 14) ?_ rfl rfl (by kernel_rfl) (fun _ _ _ h => h) hS0 (Or.inl ⟨by rfl, ?_⟩) ?_
    rotate_left
    · (intro w' hSw; (try dsimp only at hSw); go_simp; try with_reducible rfl)
    simp only [Act.put, List.setIfInBounds_toArray, List.set_cons_zero, List.set_cons_succ]
    refine wpAnyT_take 8 (some 15) ?_ rfl rfl (by kernel_rfl) (fun _ _ _ h => h) hS0 (Or.inl ⟨by rfl, ?_⟩) ?_
    rotate_left
    · (intro w' hSw; (try dsimp only at hSw); go_simp; try with_reducible rfl)
    simp only [Act.put, List.setIfInBounds_toArray, List.set_cons_zero, List.set_cons_succ]
    refine wpAnyT_take 9 (some 16) ?_ rfl rfl (by kernel_rfl) (fun _ _ _ h => h) hS0 (Or.inl ⟨by rfl, ?_⟩) ?_
    rotate_left
    · (intro w' hSw; (try dsimp only at hSw); go_simp; try with_reducible rfl)
    simp only [Act.put, List.setIfInBounds_toArray, List.set_cons_zero, List.set_cons_succ]
    refine wpAnyT_take 10 (some 17) ?_ rfl rfl (by kernel_rfl) (fun _ _ _ h => h) hS0 (Or.inl ⟨by rfl, ?_⟩) ?_
    rotate_left
    · (intro w' hSw; (try dsimp only at hSw); go_simp; try with_reducible rfl)
    simp only [Act.put, List.setIfInBounds_toArray, List.set_cons_zero, List.set_cons_succ]
    refine wpAnyT_take 11 (some 18) ?_ rfl rfl (by kernel_rfl) (fun _ _ _ h => h) hS0 (Or.inl ⟨by rfl, ?_⟩) ?_
    rotate_left
    · (intro w' hSw; (try dsimp only at hSw); go_simp; try with_reducible rfl)
    simp only [Act.put, List.setIfInBounds_toArray, List.set_cons_zero, List.set_cons_succ]
    refine wpAnyT_take 12 (some 19) ?_ rfl rfl (by kernel_rfl) (fun _ _ _ h => h) hS0 (Or.inl ⟨by rfl, ?_⟩) ?_
    rotate_left
    · (intro w' hSw; (try dsimp only at hSw); go_simp; try with_reducible rfl)
    simp only [Act.put, List.setIfInBounds_toArray, List.set_cons_zero, List.set_cons_succ]
    refine wpAnyT_take 13 (some 20) ?_ rfl rfl (by kernel_rfl) (fun _ _ _ h => h) hS0 (Or.inl ⟨by rfl, ?_⟩) ?_
    rotate_left
    · (intro w' hSw; (try dsimp only at hSw); go_simp; try with_reducible rfl)
    simp only [Act.put, List.setIfInBounds_toArray, List.set_cons_zero, List.set_cons_succ]
    refine wpAnyT_take 14 (some 21) ?_ rfl rfl (by kernel_rfl) (fun _ _ _ h => h) hS0 (Or.inl ⟨by rfl, ?_⟩) ?_
    rotate_left
    · (intro w' hSw; (try dsimp only at hSw); go_simp; try with_reducible rfl)
    simp only [Act.put, List.setIfInBounds_toArray, List.set_cons_zero, List.set_cons_succ]
    refine wpAnyT_one 15 rfl (by kernel_rfl) rfl ?_
    intro K hK
    go_simp
    go_at_call 49
    rw [HE2.out]
    refine HOP.out.mono ?_
    rintro e w1 ⟨⟨v, rfl, hrecs⟩, hm1⟩
    have hS1 : w1.cell? ⟨lv, 0, none⟩ = some (.pointer (some ⟨p, 0, none⟩)) ∧ w1.cell? ⟨p, 1, none⟩ = some (.int .u64 (L.turn : Int)) ∧ w1.cell? ⟨p, 2, none⟩ = some (.int .u64 (L.next : Int)) ∧ w1.cell? ⟨p, 3, none⟩ = some (.int .i64 (L.at_ : Int)) := ⟨hm1.cell hS0.1 (fun f => f), hm1.cell hS0.2.1 (fun f => f), hm1.cell hS0.2.2.1 (fun f => f), hm1.cell hS0.2.2.2 (fun f => f)⟩
    show K _ _
    refine hK.out _ _ (fun _ => hS1) ?_
    clear hK K
    refine wpAnyT_take 16 (some 6) ?_ rfl rfl (by kernel_rfl) (fun _ _ _ h => h) hS1 (Or.inl ⟨by rfl, ?_⟩) ?_
    rotate_left
    · (intro w' hSw; (try dsimp only at hSw); go_simp; try with_reducible rfl)
    simp only [Act.put, List.setIfInBounds_toArray, List.set_cons_zero, List.set_cons_succ]
    refine wpAnyT_take 17 (some 23) ?_ rfl rfl (by kernel_rfl) (fun _ _ _ h => h) hS1 (Or.inl ⟨by rfl, ?_⟩) ?_
    rotate_left
    · (intro w' hSw; (try dsimp only at hSw); go_simp; try with_reducible rfl)
    simp only [Act.put, List.setIfInBounds_toArray, List.set_cons_zero, List.set_cons_succ]
    refine wpAnyT_take 18 (some 24) ?_ rfl rfl (by kernel_rfl) (fun _ _ _ h => h) hS1 (Or.inl ⟨by rfl, ?_⟩) ?_
    rotate_left
    · (intro w' hSw; (try dsimp only at hSw); go_simp; try with_reducible rfl)
    simp only [Act.put, List.setIfInBounds_toArray, List.set_cons_zero, List.set_cons_succ]
    refine wpAnyT_take 19 (some 25) ?_ rfl rfl (by kernel_rfl) (fun _ _ _ h => h) hS1 (Or.inl ⟨by rfl, ?_⟩) ?_
    rotate_left
    · (intro w' hSw; (try dsimp only at hSw); go_simp; try with_reducible rfl)
    simp only [Act.put, List.setIfInBounds_toArray, List.set_cons_zero, List.set_cons_succ]
    refine wpAnyT_take 20 (some 3) ?_ rfl rfl (by kernel_rfl) (fun _ _ _ h => h) hS1 (Or.inl ⟨by rfl, ?_⟩) ?_
    rotate_left
    · (intro w' hSw; (try dsimp only at hSw); go_simp; try with_reducible rfl)
    simp only [Act.put, List.setIfInBounds_toArray, List.set_cons_zero, List.set_cons_succ]
    refine wpAnyT_take 21 (some 4) ?_ rfl rfl (by kernel_rfl) (fun _ _ _ h => h) hS1 (Or.inl ⟨by rfl, ?_⟩) ?_
    rotate_left
    · (intro w' hSw; (try dsimp only at hSw); go_simp; try with_reducible rfl)
    simp only [Act.put, List.setIfInBounds_toArray, List.set_cons_zero, List.set_cons_succ]
    refine wpAnyT_one 22 rfl (by kernel_rfl) rfl ?_
    intro K hK
    go_simp
    show K _ _
    refine hK.out _ _ (fun h => absurd rfl h) ?_
    clear hK K
    refine wpAnyT_done (by kernel_rfl) ?_ _
    have p1 := hS1.2.1
    have l1 := hS1.1
    have MW := Lib.hid ((Mod.refl No w).drew.trans hm1)
    obtain ⟨vs9, -, e29, -⟩ := hrecs.row
    obtain ⟨va, vc, rfl⟩ := own_len e29
    have HRE := Lib.hid hrecs
    clear e29 vs9
    clear hS1 hm1 hrecs HOP
    by_cases ht : t = L.turn
    · subst ht
      have hrv1 := MW.out.keep HRV.out (fun f => f)
      have hbv1 := MW.out.keep HBV.out (fun f => f)
      have rc := cell_of (i := 0) hrv1 rfl
      have rf := frozen_of 0 hrv1
      have m2 : Mod (fun q => q = rv) w1 (w1.setCell ⟨rv, 0, none⟩ (.slice va rs.length vc)) := (Mod.refl (fun q => q = rv) w1).setCell (fun _ => rfl) _
      have hb2 := m2.keep hbv1 (Ne.symm HRB.out)
      have bc := cell_of (i := 0) hb2 rfl
      have bf := frozen_of 0 hb2
      have hr2 := heap_setCell hrv1 (i := 0) (.slice va rs.length vc)
      have m3 : Mod (fun q => q = bv') (w1.setCell ⟨rv, 0, none⟩ (.slice va rs.length vc)) ((w1.setCell ⟨rv, 0, none⟩ (.slice va rs.length vc)).setCell ⟨bv', 0, none⟩ (.int .i64 (beh : Int))) := (Mod.refl (fun q => q = bv') _).setCell (fun _ => rfl) _
      have R1 := Lib.hid (m3.keep hr2 HRB.out)
      have R2 := Lib.hid (heap_setCell hb2 (i := 0) (.int .i64 (beh : Int)))
      have m4 : Mod (fun q => q = rv ∨ q = bv') w1 ((w1.setCell ⟨rv, 0, none⟩ (.slice va rs.length vc)).setCell ⟨bv', 0, none⟩ (.int .i64 (beh : Int))) := ((Mod.refl (fun q => q = rv ∨ q = bv') w1).setCell (fun _ => .inl rfl) _).setCell (fun _ => .inr rfl) _
      have R3 := Lib.hid ((MW.out.weaken (T := fun q => q = rv ∨ q = bv') fun _ _ f => f.elim).trans m4)
      have R4 := Lib.hid (show OwnRecs ((w1.setCell ⟨rv, 0, none⟩ (.slice va rs.length vc)).setCell ⟨bv', 0, none⟩ (.int .i64 (beh : Int))) w.heap.size (.slice va rs.length vc) rs by
        obtain ⟨vs, e1, e2, e3⟩ := HRE.out.row
        have hlt1 := lt_of_heap HRV.out
        have hlt2 := lt_of_heap HBV.out
        refine ⟨vs, e1, own_keepM e2 m4 (fun k hk e => ?_), fun j u r hu hr => (e3 j u r hu hr).keep m4 fun k cur fz e hx => absurd (show k < w.heap.size by rcases e with e | e <;> omega) hx⟩
        have := (e2.lt k hk).1
        rcases e with e | e
        · have : w.heap.size ≤ k := this
          omega
        · have : w.heap.size ≤ k := this
          omega)
      clear hrv1 hbv1 m2 hb2 hr2 m3 m4
      go_wp2_with fail
      refine (must_yes 0 _).mono ?_
      rintro e w3 ⟨rfl, h3⟩
      subst h3
      go_wp2_with fail
      go_end0
      exact fin hR ⟨R3.out, .inl ⟨rfl, rs, beh, _, rfl, R1.out, R4.out, R2.out⟩⟩
    · have hte : ((t : Int) == (L.turn : Int)) = false := by simp; omega
      go_wp2_with fail
      refine (must_no _).mono ?_
      rintro e w3 ⟨rfl, h3⟩
      subst h3
      go_wp2_with fail
      exact ⟨rfl, fin hR ⟨MW.out.weaken fun _ _ f => f.elim, .inr ⟨rfl, fun _ _ e => by cases e; exact ht rfl⟩⟩⟩

end Go.Proofs.Ytnchclleiccofaa
