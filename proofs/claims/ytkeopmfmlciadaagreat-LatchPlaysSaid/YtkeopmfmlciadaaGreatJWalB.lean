/-
  Layer 4, the log: records that are handed in; how many bytes they take. No statement is proved here; no condition.
-/
import Derived.Test.YtkeopmfmlciadaaGreatJWalA
import Derived.Deep.LoopGhost
namespace Go.Proofs.YtkeopmfmlciadaaGreat
open Go.RowKit

set_option maxRecDepth 100000 in
set_option maxHeartbeats 1000000 in
theorem try_begin (c1 c2 c3 : Value) (w : World) (S : Nat → Prop) (Yes Nay : World → Prop) (hS : ∀ q, S q → q < w.heap.size)
    (hf : ∀ w1, Mod No w w1 → Calls Tryz.prog 77 #[c1, c2, c3] w1 fun e w' => Mod S w1 w' ∧ ((e = .returned (.tuple #[]) ∧ Yes w') ∨ (e = Stopped ∧ Nay w'))) :
    Calls Tryz.prog 56 #[.func (.func 77) #[] #[c1, c2, c3]] w fun e w' => ∃ wy, Mod S w wy ∧ (wy.heap[w.heap.size]? = some (.cells #[.bool false] 4 (0, 0)) ∧ wy.heap[w.heap.size + 1]? = some (.cells #[.int .i64 0] 25 (0, 0))) ∧ Mod (fun q => q = w.heap.size ∨ q = w.heap.size + 1) wy w' ∧
      ((e = .returned (.tuple #[.bool true, .int .i64 0]) ∧ Yes wy) ∨ (e = .returned (.tuple #[.bool false, .int .i64 0]) ∧ Nay wy)) := by
  refine calls_hide fun R hR => ?_
  have hmf : ∀ (fn : Fn) (first cap : Array Value) (w : World), (Instr.makeFunc fn first cap).run Tryz.prog w = .ok (.func fn first cap) w := fun _ _ _ _ => rfl
  obtain ⟨w1, hw1⟩ : ∃ w1, w1 = (w.alloc (.cells #[.bool false] 4)).alloc (.cells #[.int .i64 0] 25) := ⟨_, rfl⟩
  have m1 : Mod No w w1 := by rw [hw1]; exact ((Mod.refl No w).alloc _).alloc _
  have hp : w1.heap[w.heap.size]? = some (.cells #[.bool false] 4 (0, 0)) := by
    rw [hw1]; exact heap_alloc_old _ (heap_alloc_new w _)
  have hq : w1.heap[w.heap.size + 1]? = some (.cells #[.int .i64 0] 25 (0, 0)) := by
    rw [hw1]; exact heap_at_new _ _ (by simp)
  have HF := Lib.hid (hf w1 m1)
  have HW1 := Lib.hid hw1
  have M1 := Lib.hid m1
  have HP := Lib.hid hp
  have HQ := Lib.hid hq
  have HS := Lib.hid hS
  clear hf hw1 m1 hp hq hS
  go_enter_defers Tryz.func56, Tryz.ntmps56
  go_wp2_with fail
  rw [← HW1.out]
  refine HF.out.mono ?_
  clear HF
  rintro e wy ⟨hmy, hcase⟩
  have hpy := hmy.keep HP.out (fun e => by have := HS.out _ e; omega)
  have hqy := hmy.keep HQ.out (fun e => by have := HS.out _ e; omega)
  have HPQ := Lib.hid (And.intro hpy hqy)
  have MY := Lib.hid (show Mod S w wy from (M1.out.weaken fun _ _ f => f.elim).trans hmy)
  clear HW1
  rcases hcase with ⟨rfl, hy⟩ | ⟨rfl, hn⟩
  · have HY := Lib.hid hy
    have p0 := cell_of (i := 0) hpy rfl
    have pf := frozen_of 0 hpy
    have m2 : Mod (fun q => q = w.heap.size) wy (wy.setCell ⟨w.heap.size, 0, none⟩ (.bool true)) := (Mod.refl (fun q => q = w.heap.size) wy).setCell (fun _ => rfl) _
    have hq2 := m2.keep hqy (by omega)
    have q0 := cell_of (i := 0) hq2 rfl
    have qf := frozen_of 0 hq2
    have hp2 := heap_setCell hpy (i := 0) (.bool true)
    have m3 : Mod (fun q => q = w.heap.size + 1) (wy.setCell ⟨w.heap.size, 0, none⟩ (.bool true)) ((wy.setCell ⟨w.heap.size, 0, none⟩ (.bool true)).setCell ⟨w.heap.size + 1, 0, none⟩ (.int .i64 0)) := (Mod.refl (fun q => q = w.heap.size + 1) _).setCell (fun _ => rfl) _
    have R1 := Lib.hid (cell_of (i := 0) (m3.keep hp2 (by omega)) rfl)
    have R2 := Lib.hid (cell_of (i := 0) (heap_setCell hq2 (i := 0) (.int .i64 0)) rfl)
    have R3 := Lib.hid (show Mod (fun q => q = w.heap.size ∨ q = w.heap.size + 1) wy ((wy.setCell ⟨w.heap.size, 0, none⟩ (.bool true)).setCell ⟨w.heap.size + 1, 0, none⟩ (.int .i64 0)) from
      ((Mod.refl (fun q => q = w.heap.size ∨ q = w.heap.size + 1) wy).setCell (fun _ => .inl rfl) _).setCell (fun _ => .inr rfl) _)
    clear hy hpy hqy m2 hq2 hp2 m3
    go_wp2_with fail
    refine leaves_cons (f := 78) (args := #[.pointer (some ⟨w.heap.size, 0, none⟩), .pointer (some ⟨w.heap.size + 1, 0, none⟩)]) (by simp) (by simp [go_sem]) ?_
    refine (stop_idle _ _ _).mono ?_
    rintro e u' w'' ⟨rfl, rfl, rfl⟩
    have r1 := R1.out
    have r2 := R2.out
    refine ⟨.tuple #[.bool true, .int .i64 0], ?_, ?_⟩
    · simp [results, Tryz.results56, go_sem, r1, r2]
    · exact fin hR ⟨wy, MY.out, HPQ.out, R3.out, .inl ⟨rfl, HY.out⟩⟩
  · have HNO := Lib.hid hn
    clear hn
    go_wp2_with fail
    refine leaves_cons (f := 78) (args := #[.pointer (some ⟨w.heap.size, 0, none⟩), .pointer (some ⟨w.heap.size + 1, 0, none⟩)]) (by simp) (by simp [go_sem]) ?_
    refine (stop_caught _ _ _ _ _ hpy hqy).mono ?_
    rintro e u' w'' ⟨rfl, rfl, r1, r2, hm⟩
    have r1 := cell_of (i := 0) r1 rfl
    have r2 := cell_of (i := 0) r2 rfl
    refine ⟨.tuple #[.bool false, .int .i64 0], ?_, ?_⟩
    · simp [results, Tryz.results56, go_sem, r1, r2]
    · exact fin hR ⟨wy, MY.out, HPQ.out, hm, .inr ⟨rfl, HNO.out⟩⟩

set_option maxRecDepth 100000 in
set_option maxHeartbeats 1000000 in
theorem try_open (c1 c2 c3 : Value) (w : World) (S : Nat → Prop) (Yes Nay : World → Prop) (hS : ∀ q, S q → q < w.heap.size)
    (hf : ∀ w1, Mod No w w1 → Calls Tryz.prog 57 #[c1, c2, c3] w1 fun e w' => Mod S w1 w' ∧ ((e = .returned (.tuple #[]) ∧ Yes w') ∨ (e = Stopped ∧ Nay w'))) :
    Calls Tryz.prog 56 #[.func (.func 57) #[] #[c1, c2, c3]] w fun e w' => ∃ wy, Mod S w wy ∧ (wy.heap[w.heap.size]? = some (.cells #[.bool false] 4 (0, 0)) ∧ wy.heap[w.heap.size + 1]? = some (.cells #[.int .i64 0] 25 (0, 0))) ∧ Mod (fun q => q = w.heap.size ∨ q = w.heap.size + 1) wy w' ∧
      ((e = .returned (.tuple #[.bool true, .int .i64 0]) ∧ Yes wy) ∨ (e = .returned (.tuple #[.bool false, .int .i64 0]) ∧ Nay wy)) := by
  refine calls_hide fun R hR => ?_
  have hmf : ∀ (fn : Fn) (first cap : Array Value) (w : World), (Instr.makeFunc fn first cap).run Tryz.prog w = .ok (.func fn first cap) w := fun _ _ _ _ => rfl
  obtain ⟨w1, hw1⟩ : ∃ w1, w1 = (w.alloc (.cells #[.bool false] 4)).alloc (.cells #[.int .i64 0] 25) := ⟨_, rfl⟩
  have m1 : Mod No w w1 := by rw [hw1]; exact ((Mod.refl No w).alloc _).alloc _
  have hp : w1.heap[w.heap.size]? = some (.cells #[.bool false] 4 (0, 0)) := by
    rw [hw1]; exact heap_alloc_old _ (heap_alloc_new w _)
  have hq : w1.heap[w.heap.size + 1]? = some (.cells #[.int .i64 0] 25 (0, 0)) := by
    rw [hw1]; exact heap_at_new _ _ (by simp)
  have HF := Lib.hid (hf w1 m1)
  have HW1 := Lib.hid hw1
  have M1 := Lib.hid m1
  have HP := Lib.hid hp
  have HQ := Lib.hid hq
  have HS := Lib.hid hS
  clear hf hw1 m1 hp hq hS
  go_enter_defers Tryz.func56, Tryz.ntmps56
  go_wp2_with fail
  rw [← HW1.out]
  refine HF.out.mono ?_
  clear HF
  rintro e wy ⟨hmy, hcase⟩
  have hpy := hmy.keep HP.out (fun e => by have := HS.out _ e; omega)
  have hqy := hmy.keep HQ.out (fun e => by have := HS.out _ e; omega)
  have HPQ := Lib.hid (And.intro hpy hqy)
  have MY := Lib.hid (show Mod S w wy from (M1.out.weaken fun _ _ f => f.elim).trans hmy)
  clear HW1
  rcases hcase with ⟨rfl, hy⟩ | ⟨rfl, hn⟩
  · have HY := Lib.hid hy
    have p0 := cell_of (i := 0) hpy rfl
    have pf := frozen_of 0 hpy
    have m2 : Mod (fun q => q = w.heap.size) wy (wy.setCell ⟨w.heap.size, 0, none⟩ (.bool true)) := (Mod.refl (fun q => q = w.heap.size) wy).setCell (fun _ => rfl) _
    have hq2 := m2.keep hqy (by omega)
    have q0 := cell_of (i := 0) hq2 rfl
    have qf := frozen_of 0 hq2
    have hp2 := heap_setCell hpy (i := 0) (.bool true)
    have m3 : Mod (fun q => q = w.heap.size + 1) (wy.setCell ⟨w.heap.size, 0, none⟩ (.bool true)) ((wy.setCell ⟨w.heap.size, 0, none⟩ (.bool true)).setCell ⟨w.heap.size + 1, 0, none⟩ (.int .i64 0)) := (Mod.refl (fun q => q = w.heap.size + 1) _).setCell (fun _ => rfl) _
    have R1 := Lib.hid (cell_of (i := 0) (m3.keep hp2 (by omega)) rfl)
    have R2 := Lib.hid (cell_of (i := 0) (heap_setCell hq2 (i := 0) (.int .i64 0)) rfl)
    have R3 := Lib.hid (show Mod (fun q => q = w.heap.size ∨ q = w.heap.size + 1) wy ((wy.setCell ⟨w.heap.size, 0, none⟩ (.bool true)).setCell ⟨w.heap.size + 1, 0, none⟩ (.int .i64 0)) from
      ((Mod.refl (fun q => q = w.heap.size ∨ q = w.heap.size + 1) wy).setCell (fun _ => .inl rfl) _).setCell (fun _ => .inr rfl) _)
    clear hy hpy hqy m2 hq2 hp2 m3
    go_wp2_with fail
    refine leaves_cons (f := 78) (args := #[.pointer (some ⟨w.heap.size, 0, none⟩), .pointer (some ⟨w.heap.size + 1, 0, none⟩)]) (by simp) (by simp [go_sem]) ?_
    refine (stop_idle _ _ _).mono ?_
    rintro e u' w'' ⟨rfl, rfl, rfl⟩
    have r1 := R1.out
    have r2 := R2.out
    refine ⟨.tuple #[.bool true, .int .i64 0], ?_, ?_⟩
    · simp [results, Tryz.results56, go_sem, r1, r2]
    · exact fin hR ⟨wy, MY.out, HPQ.out, R3.out, .inl ⟨rfl, HY.out⟩⟩
  · have HNO := Lib.hid hn
    clear hn
    go_wp2_with fail
    refine leaves_cons (f := 78) (args := #[.pointer (some ⟨w.heap.size, 0, none⟩), .pointer (some ⟨w.heap.size + 1, 0, none⟩)]) (by simp) (by simp [go_sem]) ?_
    refine (stop_caught _ _ _ _ _ hpy hqy).mono ?_
    rintro e u' w'' ⟨rfl, rfl, r1, r2, hm⟩
    have r1 := cell_of (i := 0) r1 rfl
    have r2 := cell_of (i := 0) r2 rfl
    refine ⟨.tuple #[.bool false, .int .i64 0], ?_, ?_⟩
    · simp [results, Tryz.results56, go_sem, r1, r2]
    · exact fin hR ⟨wy, MY.out, HPQ.out, hm, .inr ⟨rfl, HNO.out⟩⟩

end Go.Proofs.YtkeopmfmlciadaaGreat
namespace Go.Proofs.YtkeopmfmlciadaaGreat
open Go.RowKit

theorem getN_lt (l : List UInt8) : getN l < 18446744073709551616 := by
  unfold getN
  generalize hz : (0 : Nat) = z
  have hz' : z < 18446744073709551616 := by omega
  clear hz
  induction l generalizing z with
  | nil => exact hz'
  | cons x l ih => exact ih _ (Nat.mod_lt _ (by omega))

theorem rd_turn {S : Nat → List UInt8} {h size side at_ next t beh : Nat} {rs : List (List UInt8)} (hs : 0 < size) (e : rd S h size side at_ next = some (t, rs, beh)) : t < 18446744073709551616 := by
  obtain ⟨_, _, _, h1, _⟩ := rd_some hs e
  rw [← h1]; exact getN_lt _

theorem mod2_u64 (t : Nat) (side : Nat) : (((t : Int) % 2) == (side : Int)) = decide (t % 2 = side) := by
  rw [Bool.eq_iff_iff]; simp; omega

set_option maxRecDepth 100000 in
set_option maxHeartbeats 1000000 in
theorem begin1_any {b sb mb p : Nat} {d : Dk} {w : World} (lv sv tv side : Nat) (t0 : Value) (hs : side < 2) (hz : 128 ≤ d.sz) (hw : Well d) (h : DkAt w No b sb mb d) (c0 : w.cell? ⟨p, 0, none⟩ = some (.pointer (some ⟨b, 0, none⟩)))
    (hl : w.heap[lv]? = some (.cells #[.pointer (some ⟨p, 0, none⟩)] 71 (0, 0))) (hsv : w.heap[sv]? = some (.cells #[.int .i64 (side : Int)] 3 (0, 0))) (htv : w.heap[tv]? = some (.cells #[t0] 102 (0, 0))) :
    Calls Tryz.prog 77 #[.pointer (some ⟨lv, 0, none⟩), .pointer (some ⟨sv, 0, none⟩), .pointer (some ⟨tv, 0, none⟩)] w fun e w' => Mod (fun q => q = tv) w w' ∧
      ((e = .returned (.tuple #[]) ∧ ∃ t : Nat, firstT d.last (d.n / 2) (d.sz - 16) side = some t ∧ w'.heap[tv]? = some (.cells #[.int .u64 (t : Int)] 102 (0, 0))) ∨ (e = Stopped ∧ firstT d.last (d.n / 2) (d.sz - 16) side = none)) := by
  refine calls_hide fun R hR => ?_
  have HO := open_any (p := p) side 0 0 hs (by omega) hz hw h c0
  have l0 := cell_of (i := 0) hl rfl
  have s0 := cell_of (i := 0) hsv rfl
  have HTV := Lib.hid htv
  have HSV := Lib.hid hsv
  have hst : sv ≠ tv := fun e => by subst e; rw [hsv] at htv; cases htv
  have hsz : 0 < d.sz - 16 := by omega
  clear h c0 hw hl hsv htv
  unfold firstT at hR
  cases hrd : rd d.last (d.n / 2) (d.sz - 16) side 0 0 with
  | none =>
    rw [hrd] at HO hR
    have HO := Lib.hid HO
    clear hrd
    go_enter Tryz.func77, Tryz.ntmps77
    go_wp2_with fail
    refine HO.out.mono ?_
    rintro e w1 ⟨rfl, hm⟩
    go_wp2_with fail
    exact ⟨rfl, fin hR ⟨hm.weaken fun _ _ f => f.elim, .inr ⟨rfl, by trivial⟩⟩⟩
  | some q =>
    obtain ⟨t, rs, beh⟩ := q
    have htb := rd_turn hsz hrd
    rw [hrd] at HO hR
    have HO := Lib.hid HO
    clear hrd
    go_enter Tryz.func77, Tryz.ntmps77
    go_wp2_with fail
    refine HO.out.mono ?_
    clear HO
    rintro e w1 ⟨⟨v, rfl, _⟩, hm⟩
    have htv1 := hm.keep HTV.out (fun f => f)
    have tc := cell_of (i := 0) htv1 rfl
    have tf := frozen_of 0 htv1
    have m2 : Mod (fun q => q = tv) w1 (w1.setCell ⟨tv, 0, none⟩ (.int .u64 (t : Int))) := (Mod.refl (fun q => q = tv) w1).setCell (fun _ => rfl) _
    have ht2 := heap_setCell htv1 (i := 0) (.int .u64 (t : Int))
    have t1 := cell_of (i := 0) ht2 rfl
    have s1 := cell_of (i := 0) (m2.keep (hm.keep HSV.out (fun f => f)) hst) rfl
    have HT2 := Lib.hid ht2
    have M2 := Lib.hid ((hm.weaken (T := fun q => q = tv) fun _ _ f => f.elim).trans m2)
    have hmod := mod2_u64 t side
    clear hm htv1 m2 ht2
    by_cases hp : t % 2 = side
    · have hd : decide (t % 2 = side) = true := decide_eq_true hp
      rw [hd] at hmod
      have HPP := Lib.hid hp
      clear hp hd
      go_wp2_with fail
      refine (must_yes 0 _).mono ?_
      rintro e w3 ⟨rfl, h3⟩
      subst h3
      go_wp2_with fail
      go_end0
      exact fin hR ⟨M2.out, .inl ⟨rfl, t, by rw [if_pos HPP.out], HT2.out⟩⟩
    · have hd : decide (t % 2 = side) = false := decide_eq_false hp
      rw [hd] at hmod
      have HPP := Lib.hid hp
      clear hp hd
      go_wp2_with fail
      refine (must_no _).mono ?_
      rintro e w3 ⟨rfl, h3⟩
      subst h3
      go_wp2_with fail
      exact ⟨rfl, fin hR ⟨M2.out, .inr ⟨rfl, by rw [if_neg HPP.out]⟩⟩⟩

set_option maxRecDepth 100000 in
set_option maxHeartbeats 2000000 in
theorem open1_any {b sb mb p ub : Nat} {d : Dk} {w : World} (lv rv bv' count : Nat) (L : Lg) (v0 v1 : Value) (hnx : L.next + 1 < 18446744073709551616) (hz : 128 ≤ d.sz) (hw : Well d) (h : DkAt w No b sb mb d)
    (hp : w.heap[p]? = some (LgObj b ub L.turn L.next L.at_ count)) (hl : w.heap[lv]? = some (.cells #[.pointer (some ⟨p, 0, none⟩)] 71 (0, 0))) (hrv : w.heap[rv]? = some (.cells #[v0] 72 (0, 0))) (hbv : w.heap[bv']? = some (.cells #[v1] 3 (0, 0))) :
    Calls Tryz.prog 57 #[.pointer (some ⟨lv, 0, none⟩), .pointer (some ⟨rv, 0, none⟩), .pointer (some ⟨bv', 0, none⟩)] w fun e w' => Mod (fun q => q = rv ∨ q = bv') w w' ∧
      ((e = .returned (.tuple #[]) ∧ ∃ (rs : List (List UInt8)) (beh : Nat) (v : Value), rd d.last (d.n / 2) (d.sz - 16) (L.turn % 2) L.at_ L.next = some (L.turn, rs, beh) ∧ w'.heap[rv]? = some (.cells #[v] 72 (0, 0)) ∧ OwnRecs w' w.heap.size v rs ∧ w'.heap[bv']? = some (.cells #[.int .i64 (beh : Int)] 3 (0, 0))) ∨
       (e = Stopped ∧ Stop d.last (d.n / 2) (d.sz - 16) (L.turn % 2) L.turn L.at_ L.next)) := by
  refine calls_hide fun R hR => ?_
  have hside : L.turn % 2 < 2 := Nat.mod_lt _ (by omega)
  have c0 := cell_of (i := 0) hp rfl
  have HO := open_any (p := p) (w := w.drew) (L.turn % 2) L.at_ L.next hside hnx hz hw (h.stay (Mod.refl No w).drew) c0
  have hS0 : w.drew.cell? ⟨lv, 0, none⟩ = some (.pointer (some ⟨p, 0, none⟩)) ∧ w.drew.cell? ⟨p, 1, none⟩ = some (.int .u64 (L.turn : Int)) ∧ w.drew.cell? ⟨p, 2, none⟩ = some (.int .u64 (L.next : Int)) ∧ w.drew.cell? ⟨p, 3, none⟩ = some (.int .i64 (L.at_ : Int)) := ⟨cell_of (i := 0) hl rfl, cell_of (i := 1) hp rfl, cell_of (i := 2) hp rfl, cell_of (i := 3) hp rfl⟩
  have HRV := Lib.hid hrv
  have HBV := Lib.hid hbv
  have HPP := Lib.hid hp
  have HLL := Lib.hid hl
  have HRB := Lib.hid (show rv ≠ bv' from fun e => by subst e; rw [hrv] at hbv; cases hbv)
  have HPR := Lib.hid (show ¬ (p = rv ∨ p = bv') from fun e => by
    rcases e with e | e
    · subst e; rw [hp] at hrv; cases hrv
    · subst e; rw [hp] at hbv; cases hbv)
  have HLR := Lib.hid (show ¬ (lv = rv ∨ lv = bv') from fun e => by
    rcases e with e | e
    · subst e; rw [hl] at hrv; cases hrv
    · subst e; rw [hl] at hbv; cases hbv)
  have HE2 := Lib.hid (show IntKind.i64.wrap ((L.turn : Int).tmod 2) = ((L.turn % 2 : Nat) : Int) by rw [Int.tmod_eq_emod_of_nonneg (Int.natCast_nonneg _), IntKind.wrap_i64]; omega)
  clear h c0 hw hl hrv hbv hp
  unfold Stop at hR
  cases hrd : rd d.last (d.n / 2) (d.sz - 16) (L.turn % 2) L.at_ L.next with
  | none =>
    rw [hrd] at HO hR
    have HOP := Lib.hid HO
    clear HO hrd
    go_enter Tryz.func57, Tryz.ntmps57
    go_upto_region 0 with fail
    refine wp_region_T (fun w' => w'.cell? ⟨lv, 0, none⟩ = some (.pointer (some ⟨p, 0, none⟩)) ∧ w'.cell? ⟨p, 1, none⟩ = some (.int .u64 (L.turn : Int)) ∧ w'.cell? ⟨p, 2, none⟩ = some (.int .u64 (L.next : Int)) ∧ w'.cell? ⟨p, 3, none⟩ = some (.int .i64 (L.at_ : Int))) 22 (by kernel_rfl) ?_
    refine wpAnyT_take 0 (some 7) ?_ rfl rfl (by kernel_rfl) (fun _ _ _ h => h) hS0 (Or.inl ⟨by rfl, ?_⟩) ?_
    rotate_left
    · (intro w' hSw; (try dsimp only at hSw); go_simp; try with_reducible rfl)
    simp only [Act.put, List.setIfInBounds_toArray, List.set_cons_zero, List.set_cons_succ]
    refine wpAnyT_take 1 (some 8) ?_ rfl rfl (by kernel_rfl) (fun _ _ _ h => h) hS0 (Or.inl ⟨by rfl, ?_⟩) ?_
    rotate_left
    · (intro w' hSw; (try dsimp only at hSw); go_simp; try with_reducible rfl)
    simp only [Act.put, List.setIfInBounds_toArray, List.set_cons_zero, List.set_cons_succ]
    refine wpAnyT_take 2 (some 9) ?_ rfl rfl (by kernel_rfl) (fun _ _ _ h => h) hS0 (Or.inl ⟨by rfl, ?_⟩) ?_
    rotate_left
    · (intro w' hSw; (try dsimp only at hSw); go_simp; try with_reducible rfl)
    simp only [Act.put, List.setIfInBounds_toArray, List.set_cons_zero, List.set_cons_succ]
    refine wpAnyT_take 3 (some 10) ?_ rfl rfl (by kernel_rfl) (fun _ _ _ h => h) hS0 (Or.inl ⟨by rfl, ?_⟩) ?_
    rotate_left
    · (intro w' hSw; (try dsimp only at hSw); go_simp; try with_reducible rfl)
    simp only [Act.put, List.setIfInBounds_toArray, List.set_cons_zero, List.set_cons_succ]
    refine wpAnyT_take 4 (some 11) ?_ rfl rfl (by kernel_rfl) (fun _ _ _ h => h) hS0 (Or.inl ⟨by rfl, ?_⟩) ?_
    rotate_left
    · (intro w' hSw; (try dsimp only at hSw); go_simp; try with_reducible rfl)
    simp only [Act.put, List.setIfInBounds_toArray, List.set_cons_zero, List.set_cons_succ]
    refine wpAnyT_take 5 (some 12) ?_ rfl rfl (by kernel_rfl) (fun _ _ _ h => h) hS0 (Or.inl ⟨by rfl, ?_⟩) ?_
    rotate_left
    · (intro w' hSw; (try dsimp only at hSw); go_simp; try with_reducible rfl)
    simp only [Act.put, List.setIfInBounds_toArray, List.set_cons_zero, List.set_cons_succ]
    refine wpAnyT_take 6 (some 13) ?_ rfl rfl (by kernel_rfl) (fun _ _ _ h => h) hS0 (Or.inl ⟨by rfl, ?_⟩) ?_
    rotate_left
    · (intro w' hSw; (try dsimp only at hSw); go_simp; try with_reducible rfl)
    simp only [Act.put, List.setIfInBounds_toArray, List.set_cons_zero, List.set_cons_succ]
    refine wpAnyT_take 7 (some 14) ?_ rfl rfl (by kernel_rfl) (fun _ _ _ h => h) hS0 (Or.inl ⟨by rfl, ?_⟩) ?_
    rotate_left
    · (intro w' hSw; (try dsimp only at hSw); go_simp; try with_reducible rfl)
    simp only [Act.put, List.setIfInBounds_toArray, List.set_cons_zero, List.set_cons_succ]
    refine wpAnyT_take 8 (some 15) ?_ rfl rfl (by kernel_rfl) (fun _ _ _ h => h) hS0 (Or.inl ⟨by rfl, ?_⟩) ?_
    rotate_left
    · (intro w' hSw; (try dsimp only at hSw); go_simp; try with_reducible rfl)
    simp only [Act.put, List.setIfInBounds_toArray, List.set_cons_zero, List.set_cons_succ]
    refine wpAnyT_take 9 (some 16) ?_ rfl rfl (by kernel_rfl) (fun _ _ _ h => h) hS0 (Or.inl ⟨by rfl, ?_⟩) ?_
    rotate_left
    · (intro w' hSw; (try dsimp only at hSw); go_simp; try with_reducible rfl)
    simp only [Act.put, List.setIfInBounds_toArray, List.set_cons_zero, List.set_cons_succ]
    refine wpAnyT_take 10 (some 17) ?_ rfl rfl (by kernel_rfl) (fun _ _ _ h => h) hS0 (Or.inl ⟨by rfl, ?_⟩) ?_
    rotate_left
    · (intro w' hSw; (try dsimp only at hSw); go_simp; try with_reducible rfl)
    simp only [Act.put, List.setIfInBounds_toArray, List.set_cons_zero, List.set_cons_succ]
    refine wpAnyT_take 11 (some 18) ?_ rfl rfl (by kernel_rfl) (fun _ _ _ h => h) hS0 (Or.inl ⟨by rfl, ?_⟩) ?_
    rotate_left
    · (intro w' hSw; (try dsimp only at hSw); go_simp; try with_reducible rfl)
    simp only [Act.put, List.setIfInBounds_toArray, List.set_cons_zero, List.set_cons_succ]
    refine wpAnyT_take 12 (some 19) ?_ rfl rfl (by kernel_rfl) (fun _ _ _ h => h) hS0 (Or.inl ⟨by rfl, ?_⟩) ?_
    rotate_left
    · (intro w' hSw; (try dsimp only at hSw); go_simp; try with_reducible rfl)
    simp only [Act.put, List.setIfInBounds_toArray, List.set_cons_zero, List.set_cons_succ]
    refine wpAnyT_take 13 (some 20) ?_ rfl rfl (by kernel_rfl) (fun _ _ _ h => h) hS0 (Or.inl ⟨by rfl, ?_⟩) ?_
    rotate_left
    · (intro w' hSw; (try dsimp only at hSw); go_simp; try with_reducible rfl)
    simp only [Act.put, List.setIfInBounds_toArray, List.set_cons_zero, List.set_cons_succ]
    refine wpAnyT_take 14 (some 21) ?_ rfl rfl (by kernel_rfl) (fun _ _ _ h => h) hS0 (Or.inl ⟨by rfl, ?_⟩) ?_
    rotate_left
    · (intro w' hSw; (try dsimp only at hSw); go_simp; try with_reducible rfl)
    simp only [Act.put, List.setIfInBounds_toArray, List.set_cons_zero, List.set_cons_succ]
    refine wpAnyT_one 15 rfl (by kernel_rfl) rfl ?_
    intro K hK
    go_simp
    go_at_call 58
    rw [HE2.out]
    refine HOP.out.mono ?_
    rintro e w1 ⟨rfl, hm1⟩
    exact ⟨rfl, fin hR ⟨((Mod.refl No w).drew.trans hm1).weaken fun _ _ f => f.elim, .inr ⟨rfl, fun _ _ e => by cases e⟩⟩⟩
  | some q =>
    obtain ⟨t, rs, beh⟩ := q
    rw [hrd] at HO hR
    have HOP := Lib.hid HO
    clear HO hrd
    go_enter Tryz.func57, Tryz.ntmps57
    go_upto_region 0 with fail
    refine wp_region_T (fun w' => w'.cell? ⟨lv, 0, none⟩ = some (.pointer (some ⟨p, 0, none⟩)) ∧ w'.cell? ⟨p, 1, none⟩ = some (.int .u64 (L.turn : Int)) ∧ w'.cell? ⟨p, 2, none⟩ = some (.int .u64 (L.next : Int)) ∧ w'.cell? ⟨p, 3, none⟩ = some (.int .i64 (L.at_ : Int))) 22 (by kernel_rfl) ?_
    refine wpAnyT_take 0 (some 7) ?_ rfl rfl (by kernel_rfl) (fun _ _ _ h => h) hS0 (Or.inl ⟨by rfl, ?_⟩) ?_
    rotate_left
    · (intro w' hSw; (try dsimp only at hSw); go_simp; try with_reducible rfl)
    simp only [Act.put, List.setIfInBounds_toArray, List.set_cons_zero, List.set_cons_succ]
    refine wpAnyT_take 1 (some 8) ?_ rfl rfl (by kernel_rfl) (fun _ _ _ h => h) hS0 (Or.inl ⟨by rfl, ?_⟩) ?_
    rotate_left
    · (intro w' hSw; (try dsimp only at hSw); go_simp; try with_reducible rfl)
    simp only [Act.put, List.setIfInBounds_toArray, List.set_cons_zero, List.set_cons_succ]
    refine wpAnyT_take 2 (some 9) ?_ rfl rfl (by kernel_rfl) (fun _ _ _ h => h) hS0 (Or.inl ⟨by rfl, ?_⟩) ?_
    rotate_left
    · (intro w' hSw; (try dsimp only at hSw); go_simp; try with_reducible rfl)
    simp only [Act.put, List.setIfInBounds_toArray, List.set_cons_zero, List.set_cons_succ]
    refine wpAnyT_take 3 (some 10) ?_ rfl rfl (by kernel_rfl) (fun _ _ _ h => h) hS0 (Or.inl ⟨by rfl, ?_⟩) ?_
    rotate_left
    · (intro w' hSw; (try dsimp only at hSw); go_simp; try with_reducible rfl)
    simp only [Act.put, List.setIfInBounds_toArray, List.set_cons_zero, List.set_cons_succ]
    refine wpAnyT_take 4 (some 11) ?_ rfl rfl (by kernel_rfl) (fun _ _ _ h => h) hS0 (Or.inl ⟨by rfl, ?_⟩) ?_
    rotate_left
    · (intro w' hSw; (try dsimp only at hSw); go_simp; try with_reducible rfl)
    simp only [Act.put, List.setIfInBounds_toArray, List.set_cons_zero, List.set_cons_succ]
    refine wpAnyT_take 5 (some 12) ?_ rfl rfl (by kernel_rfl) (fun _ _ _ h => h) hS0 (Or.inl ⟨by rfl, ?_⟩) ?_
    rotate_left
    · (intro w' hSw; (try dsimp only at hSw); go_simp; try with_reducible rfl)
    simp only [Act.put, List.setIfInBounds_toArray, List.set_cons_zero, List.set_cons_succ]
    refine wpAnyT_take 6 (some 13) ?_ rfl rfl (by kernel_rfl) (fun _ _ _ h => h) hS0 (Or.inl ⟨by rfl, ?_⟩) ?_
    rotate_left
    · (intro w' hSw; (try dsimp only at hSw); go_simp; try with_reducible rfl)
    simp only [Act.put, List.setIfInBounds_toArray, List.set_cons_zero, List.set_cons_succ]
    refine wpAnyT_take 7 (some 14) ?_ rfl rfl (by kernel_rfl) (fun _ _ _ h => h) hS0 (Or.inl ⟨by rfl, ?_⟩) ?_
    rotate_left
    · (intro w' hSw; (try dsimp only at hSw); go_simp; try with_reducible rfl)
    simp only [Act.put, List.setIfInBounds_toArray, List.set_cons_zero, List.set_cons_succ]
    refine wpAnyT_take 8 (some 15) ?_ rfl rfl (by kernel_rfl) (fun _ _ _ h => h) hS0 (Or.inl ⟨by rfl, ?_⟩) ?_
    rotate_left
    · (intro w' hSw; (try dsimp only at hSw); go_simp; try with_reducible rfl)
    simp only [Act.put, List.setIfInBounds_toArray, List.set_cons_zero, List.set_cons_succ]
    refine wpAnyT_take 9 (some 16) ?_ rfl rfl (by kernel_rfl) (fun _ _ _ h => h) hS0 (Or.inl ⟨by rfl, ?_⟩) ?_
    rotate_left
    · (intro w' hSw; (try dsimp only at hSw); go_simp; try with_reducible rfl)
    simp only [Act.put, List.setIfInBounds_toArray, List.set_cons_zero, List.set_cons_succ]
    refine wpAnyT_take 10 (some 17) ?_ rfl rfl (by kernel_rfl) (fun _ _ _ h => h) hS0 (Or.inl ⟨by rfl, ?_⟩) ?_
    rotate_left
    · (intro w' hSw; (try dsimp only at hSw); go_simp; try with_reducible rfl)
    simp only [Act.put, List.setIfInBounds_toArray, List.set_cons_zero, List.set_cons_succ]
    refine wpAnyT_take 11 (some 18) ?_ rfl rfl (by kernel_rfl) (fun _ _ _ h => h) hS0 (Or.inl ⟨by rfl, ?_⟩) ?_
    rotate_left
    · (intro w' hSw; (try dsimp only at hSw); go_simp; try with_reducible rfl)
    simp only [Act.put, List.setIfInBounds_toArray, List.set_cons_zero, List.set_cons_succ]
    refine wpAnyT_take 12 (some 19) ?_ rfl rfl (by kernel_rfl) (fun _ _ _ h => h) hS0 (Or.inl ⟨by rfl, ?_⟩) ?_
    rotate_left
    · (intro w' hSw; (try dsimp only at hSw); go_simp; try with_reducible rfl)
    simp only [Act.put, List.setIfInBounds_toArray, List.set_cons_zero, List.set_cons_succ]
    refine wpAnyT_take 13 (some 20) ?_ rfl rfl (by kernel_rfl) (fun _ _ _ h => h) hS0 (Or.inl ⟨by rfl, ?_⟩) ?_
    rotate_left
    · (intro w' hSw; (try dsimp only at hSw); go_simp; try with_reducible rfl)
    simp only [Act.put, List.setIfInBounds_toArray, List.set_cons_zero, List.set_cons_succ]
    refine wpAnyT_take 14 (some 21) ?_ rfl rfl (by kernel_rfl) (fun _ _ _ h => h) hS0 (Or.inl ⟨by rfl, ?_⟩) ?_
    rotate_left
    · (intro w' hSw; (try dsimp only at hSw); go_simp; try with_reducible rfl)
    simp only [Act.put, List.setIfInBounds_toArray, List.set_cons_zero, List.set_cons_succ]
    refine wpAnyT_one 15 rfl (by kernel_rfl) rfl ?_
    intro K hK
    go_simp
    go_at_call 58
    rw [HE2.out]
    refine HOP.out.mono ?_
    rintro e w1 ⟨⟨v, rfl, hrecs⟩, hm1⟩
    have hS1 : w1.cell? ⟨lv, 0, none⟩ = some (.pointer (some ⟨p, 0, none⟩)) ∧ w1.cell? ⟨p, 1, none⟩ = some (.int .u64 (L.turn : Int)) ∧ w1.cell? ⟨p, 2, none⟩ = some (.int .u64 (L.next : Int)) ∧ w1.cell? ⟨p, 3, none⟩ = some (.int .i64 (L.at_ : Int)) := ⟨hm1.cell hS0.1 (fun f => f), hm1.cell hS0.2.1 (fun f => f), hm1.cell hS0.2.2.1 (fun f => f), hm1.cell hS0.2.2.2 (fun f => f)⟩
    show K _ _
    refine hK.out _ _ (fun _ => hS1) ?_
    clear hK K
    refine wpAnyT_take 16 (some 6) ?_ rfl rfl (by kernel_rfl) (fun _ _ _ h => h) hS1 (Or.inl ⟨by rfl, ?_⟩) ?_
    rotate_left
    · (intro w' hSw; (try dsimp only at hSw); go_simp; try with_reducible rfl)
    simp only [Act.put, List.setIfInBounds_toArray, List.set_cons_zero, List.set_cons_succ]
    refine wpAnyT_take 17 (some 23) ?_ rfl rfl (by kernel_rfl) (fun _ _ _ h => h) hS1 (Or.inl ⟨by rfl, ?_⟩) ?_
    rotate_left
    · (intro w' hSw; (try dsimp only at hSw); go_simp; try with_reducible rfl)
    simp only [Act.put, List.setIfInBounds_toArray, List.set_cons_zero, List.set_cons_succ]
    refine wpAnyT_take 18 (some 24) ?_ rfl rfl (by kernel_rfl) (fun _ _ _ h => h) hS1 (Or.inl ⟨by rfl, ?_⟩) ?_
    rotate_left
    · (intro w' hSw; (try dsimp only at hSw); go_simp; try with_reducible rfl)
    simp only [Act.put, List.setIfInBounds_toArray, List.set_cons_zero, List.set_cons_succ]
    refine wpAnyT_take 19 (some 25) ?_ rfl rfl (by kernel_rfl) (fun _ _ _ h => h) hS1 (Or.inl ⟨by rfl, ?_⟩) ?_
    rotate_left
    · (intro w' hSw; (try dsimp only at hSw); go_simp; try with_reducible rfl)
    simp only [Act.put, List.setIfInBounds_toArray, List.set_cons_zero, List.set_cons_succ]
    refine wpAnyT_take 20 (some 3) ?_ rfl rfl (by kernel_rfl) (fun _ _ _ h => h) hS1 (Or.inl ⟨by rfl, ?_⟩) ?_
    rotate_left
    · (intro w' hSw; (try dsimp only at hSw); go_simp; try with_reducible rfl)
    simp only [Act.put, List.setIfInBounds_toArray, List.set_cons_zero, List.set_cons_succ]
    refine wpAnyT_take 21 (some 4) ?_ rfl rfl (by kernel_rfl) (fun _ _ _ h => h) hS1 (Or.inl ⟨by rfl, ?_⟩) ?_
    rotate_left
    · (intro w' hSw; (try dsimp only at hSw); go_simp; try with_reducible rfl)
    simp only [Act.put, List.setIfInBounds_toArray, List.set_cons_zero, List.set_cons_succ]
    refine wpAnyT_one 22 rfl (by kernel_rfl) rfl ?_
    intro K hK
    go_simp
    show K _ _
    refine hK.out _ _ (fun h => absurd rfl h) ?_
    clear hK K
    refine wpAnyT_done (by kernel_rfl) ?_ _
    have p1 := hS1.2.1
    have l1 := hS1.1
    have MW := Lib.hid ((Mod.refl No w).drew.trans hm1)
    obtain ⟨vs9, -, e29, -⟩ := hrecs.row
    obtain ⟨va, vc, rfl⟩ := own_len e29
    have HRE := Lib.hid hrecs
    clear e29 vs9
    clear hS1 hm1 hrecs HOP
    by_cases ht : t = L.turn
    · subst ht
      have hrv1 := MW.out.keep HRV.out (fun f => f)
      have hbv1 := MW.out.keep HBV.out (fun f => f)
      have rc := cell_of (i := 0) hrv1 rfl
      have rf := frozen_of 0 hrv1
      have m2 : Mod (fun q => q = rv) w1 (w1.setCell ⟨rv, 0, none⟩ (.slice va rs.length vc)) := (Mod.refl (fun q => q = rv) w1).setCell (fun _ => rfl) _
      have hb2 := m2.keep hbv1 (Ne.symm HRB.out)
      have bc := cell_of (i := 0) hb2 rfl
      have bf := frozen_of 0 hb2
      have hr2 := heap_setCell hrv1 (i := 0) (.slice va rs.length vc)
      have m3 : Mod (fun q => q = bv') (w1.setCell ⟨rv, 0, none⟩ (.slice va rs.length vc)) ((w1.setCell ⟨rv, 0, none⟩ (.slice va rs.length vc)).setCell ⟨bv', 0, none⟩ (.int .i64 (beh : Int))) := (Mod.refl (fun q => q = bv') _).setCell (fun _ => rfl) _
      have R1 := Lib.hid (m3.keep hr2 HRB.out)
      have R2 := Lib.hid (heap_setCell hb2 (i := 0) (.int .i64 (beh : Int)))
      have m4 : Mod (fun q => q = rv ∨ q = bv') w1 ((w1.setCell ⟨rv, 0, none⟩ (.slice va rs.length vc)).setCell ⟨bv', 0, none⟩ (.int .i64 (beh : Int))) := ((Mod.refl (fun q => q = rv ∨ q = bv') w1).setCell (fun _ => .inl rfl) _).setCell (fun _ => .inr rfl) _
      have R3 := Lib.hid ((MW.out.weaken (T := fun q => q = rv ∨ q = bv') fun _ _ f => f.elim).trans m4)
      have R4 := Lib.hid (show OwnRecs ((w1.setCell ⟨rv, 0, none⟩ (.slice va rs.length vc)).setCell ⟨bv', 0, none⟩ (.int .i64 (beh : Int))) w.heap.size (.slice va rs.length vc) rs by
        obtain ⟨vs, e1, e2, e3⟩ := HRE.out.row
        have hlt1 := lt_of_heap HRV.out
        have hlt2 := lt_of_heap HBV.out
        refine ⟨vs, e1, own_keepM e2 m4 (fun k hk e => ?_), fun j u r hu hr => (e3 j u r hu hr).keep m4 fun k cur fz e hx => absurd (show k < w.heap.size by rcases e with e | e <;> omega) hx⟩
        have := (e2.lt k hk).1
        rcases e with e | e
        · have : w.heap.size ≤ k := this
          omega
        · have : w.heap.size ≤ k := this
          omega)
      clear hrv1 hbv1 m2 hb2 hr2 m3 m4
      go_wp2_with fail
      refine (must_yes 0 _).mono ?_
      rintro e w3 ⟨rfl, h3⟩
      subst h3
      go_wp2_with fail
      go_end0
      exact fin hR ⟨R3.out, .inl ⟨rfl, rs, beh, _, rfl, R1.out, R4.out, R2.out⟩⟩
    · have hte : ((t : Int) == (L.turn : Int)) = false := by simp; omega
      go_wp2_with fail
      refine (must_no _).mono ?_
      rintro e w3 ⟨rfl, h3⟩
      subst h3
      go_wp2_with fail
      exact ⟨rfl, fin hR ⟨MW.out.weaken fun _ _ f => f.elim, .inr ⟨rfl, fun _ _ e => by cases e; exact ht rfl⟩⟩⟩

end Go.Proofs.YtkeopmfmlciadaaGreat
namespace Go.Proofs.YtkeopmfmlciadaaGreat
open Go.RowKit

/-- What begin knows behind k sides. -/
def bgK (S : Nat → List UInt8) (h size : Nat) : Nat → Bool × Nat
  | 0 => (false, 0)
  | k + 1 => bgStep S h size (bgK S h size k) k

theorem firstT_lt {S : Nat → List UInt8} {h size side t : Nat} (hs : 0 < size) (e : firstT S h size side = some t) : t < 18446744073709551616 := by
  unfold firstT at e
  split at e
  · rename_i hrd
    split at e
    · cases e; exact rd_turn hs hrd
    · cases e
  · cases e

theorem bgK_lt {S : Nat → List UInt8} {h size : Nat} (hs : 0 < size) : ∀ k, (bgK S h size k).2 < 18446744073709551616
  | 0 => by show 0 < 18446744073709551616; omega
  | k + 1 => by
    show (bgStep S h size (bgK S h size k) k).2 < _
    unfold bgStep
    split
    · rename_i t ht
      split
      · exact firstT_lt hs ht
      · exact bgK_lt hs k
    · exact bgK_lt hs k

theorem later_is (t p : Nat) (ht : t < 18446744073709551616) (hp : p < 18446744073709551616) : later t p = decide (0 < wrap64 (IntKind.u64.wrap ((t : Int) - (p : Int)))) := by
  unfold later wrap64
  rw [IntKind.wrap_u64, Bool.eq_iff_iff, decide_eq_true_iff, decide_eq_true_iff]
  omega

set_option maxRecDepth 100000 in
set_option maxHeartbeats 4000000 in
theorem begin_any {b sb mb p ub : Nat} {d : Dk} {w : World} (hz : 128 ≤ d.sz) (hw : Well d) (h : DkAt w No b sb mb d) (hpo : ¬ Own3 b sb mb p) (hp : w.heap[p]? = some (LgObj b ub 0 0 0 0)) :
    Calls Tryz.prog 55 #[.pointer (some ⟨p, 0, none⟩)] w fun e w' => e = .returned (.int .i64 0) ∧ w'.heap[p]? = some (LgObj b ub (turnOf d.last (d.n / 2) (d.sz - 16)) 0 0 0) ∧ Mod (fun q => q = p) w w' := by
  refine calls_hide fun R hR => ?_
  have HD := Lib.hid h
  have HW := Lib.hid hw
  have HP := Lib.hid hp
  have HPO := Lib.hid hpo
  have hmf : ∀ (fn : Fn) (first cap : Array Value) (w : World), (Instr.makeFunc fn first cap).run Tryz.prog w = .ok (.func fn first cap) w := fun _ _ _ _ => rfl
  have hsz : 0 < d.sz - 16 := by omega
  obtain ⟨lv, hlv⟩ : ∃ lv, lv = w.heap.size := ⟨_, rfl⟩
  obtain ⟨w1, hw1⟩ : ∃ w1, w1 = w.alloc (.cells #[.pointer (some ⟨p, 0, none⟩)] 71) := ⟨_, rfl⟩
  have hl1 : w1.heap[lv]? = some (.cells #[.pointer (some ⟨p, 0, none⟩)] 71 (0, 0)) := by rw [hw1]; exact heap_at_new w _ hlv
  have hm1 : Mod (fun q => q = p) w w1 := by rw [hw1]; exact (Mod.refl _ w).alloc _
  have hp1 : w1.heap[p]? = some (LgObj b ub 0 0 0 0) := by rw [hw1]; exact heap_alloc_old _ hp
  have HL1 := Lib.hid hl1
  have HM1 := Lib.hid hm1
  have HP1 := Lib.hid hp1
  have HLP := Lib.hid (show ¬ lv = p from fun e => by have := lt_of_heap hp; omega)
  have HLV := Lib.hid hlv
  have HW1 := Lib.hid hw1
  clear h hw hp hpo hw1 hl1 hm1 hp1 hlv
  go_enter Tryz.func55, Tryz.ntmps55
  go_wp2_with fail
  rw [← HW1.out, ← HLV.out]
  go_loopw [3, 8] (fun fo i wr => ∃ k : Nat, k ≤ 2 ∧ i = .int .i64 k ∧ fo = .bool (bgK d.last (d.n / 2) (d.sz - 16) k).1 ∧ wr.heap[p]? = some (LgObj b ub (bgK d.last (d.n / 2) (d.sz - 16) k).2 0 0 0) ∧ wr.heap[lv]? = some (.cells #[.pointer (some ⟨p, 0, none⟩)] 71 (0, 0)) ∧ Mod (fun q => q = p) w wr) (fun _ i _ => 2 - (intOf i).toNat)
  case atStart => exact ⟨0, by omega, rfl, rfl, HP1.out, HL1.out, HM1.out⟩
  case round =>
    clear HP1 HL1 HM1 HW1
    obtain ⟨k, hk, rfl, rfl, hp, hl, hm⟩ := hrel
    have hk0 : (0 : Int) ≤ (k : Int) := Int.natCast_nonneg _
    by_cases hk2 : k < 2
    · have hk1 : (k : Int) < 2 := by omega
      have hpb := bgK_lt (S := d.last) (h := d.n / 2) hsz k
      obtain ⟨pf, pt, hpk⟩ : ∃ pf pt, bgK d.last (d.n / 2) (d.sz - 16) k = (pf, pt) := ⟨_, _, rfl⟩
      have HNEXT := Lib.hid (show bgK d.last (d.n / 2) (d.sz - 16) (k + 1) = bgStep d.last (d.n / 2) (d.sz - 16) (pf, pt) k from by rw [← hpk]; rfl)
      rw [hpk] at hp hpb ⊢
      have hdk : DkAt wr No b sb mb d := HD.out.keep hm (fun e => HPO.out (.inl e.symm)) (fun e => HPO.out (.inr (.inl e.symm))) (fun e => HPO.out (.inr (.inr e.symm))) (fun q hq => .inr fun cur fz e => by subst hq; rw [HP.out] at e; cases e)
      obtain ⟨w2, hw2⟩ : ∃ w2, w2 = (wr.alloc (.cells #[.int .i64 (k : Int)] 3)).alloc (.cells #[.int .u64 0] 102) := ⟨_, rfl⟩
      have m2 : Mod No wr w2 := by rw [hw2]; exact ((Mod.refl No wr).alloc _).alloc _
      have hs2 : w2.heap[wr.heap.size]? = some (.cells #[.int .i64 (k : Int)] 3 (0, 0)) := by rw [hw2]; exact heap_alloc_old _ (heap_alloc_new wr _)
      have ht2 : w2.heap[wr.heap.size + 1]? = some (.cells #[.int .u64 0] 102 (0, 0)) := by rw [hw2]; exact heap_at_new _ _ (by simp)
      have hz2 : w2.heap.size = wr.heap.size + 2 := by rw [hw2]; simp
      have hlp := lt_of_heap hp
      have hll := lt_of_heap hl
      have HTRY := try_begin (.pointer (some ⟨lv, 0, none⟩)) (.pointer (some ⟨wr.heap.size, 0, none⟩)) (.pointer (some ⟨wr.heap.size + 1, 0, none⟩)) w2 (fun q => q = wr.heap.size + 1)
        (fun w' => ∃ t : Nat, firstT d.last (d.n / 2) (d.sz - 16) k = some t ∧ w'.heap[wr.heap.size + 1]? = some (.cells #[.int .u64 (t : Int)] 102 (0, 0))) (fun _ => firstT d.last (d.n / 2) (d.sz - 16) k = none)
        (fun q e => by omega)
        (fun w3 hm3 => begin1_any lv wr.heap.size (wr.heap.size + 1) k _ hk2 hz HW.out ((hdk.stay m2).stay hm3) (cell_of (i := 0) ((m2.trans hm3).keep hp (fun f => f)) rfl) ((m2.trans hm3).keep hl (fun f => f)) (hm3.keep hs2 (fun f => f)) (hm3.keep ht2 (fun f => f)))
      have HTRY := Lib.hid HTRY
      have HW2 := Lib.hid hw2
      have HPP := Lib.hid hp
      have HLL := Lib.hid hl
      have HMM := Lib.hid hm
      have M2 := Lib.hid m2
      have HZ2 := Lib.hid hz2
      obtain ⟨tv, htv⟩ : ∃ tv, tv = wr.heap.size + 1 := ⟨_, rfl⟩
      have HTV := Lib.hid htv
      clear hdk hw2 m2 hs2 ht2 hz2 hp hl hm hpk htv
      go_wp2_with fail
      rw [← HW2.out]
      refine HTRY.out.mono ?_
      clear HTRY
      rintro e w5 ⟨w4, hm4, -, hm5, hcase⟩
      have hz2 := HZ2.out
      have hp4 := hm4.keep (M2.out.keep HPP.out (fun f => f)) (by omega)
      have hl4 := hm4.keep (M2.out.keep HLL.out (fun f => f)) (by omega)
      have hz4 := hm4.size
      have hp5 := hm5.keep hp4 (by omega)
      have hl5 := hm5.keep hl4 (by omega)
      have M5 := Lib.hid (show Mod (fun q => q = p) wr w5 from ((M2.out.weaken fun _ _ f => f.elim).then hm4 fun i hi e => by omega).then hm5 fun i hi e => by omega)
      have p1 := cell_of (i := 1) hp5 rfl
      have l0 := cell_of (i := 0) hl5 rfl
      have pfz := frozen_of 1 hp5
      have HP5 := Lib.hid hp5
      have HL5 := Lib.hid hl5
      rcases hcase with ⟨rfl, t, hft, ht4⟩ | ⟨rfl, hno⟩
      · have ht5 := hm5.keep ht4 (by omega)
        have t0 := cell_of (i := 0) ht5 rfl
        have htb := firstT_lt hsz hft
        have HFT := Lib.hid hft
        clear hm4 hm5 hp4 hl4 hp5 hl5 ht4 ht5 hft hz2 hz4 hlp hll
        cases pf with
        | false =>
          go_upto_region 9 with fail
          go_quiet (fail)
          go_wp2_with fail
          have hb : bgK d.last (d.n / 2) (d.sz - 16) (k + 1) = (true, t) := by rw [HNEXT.out]; unfold bgStep; rw [HFT.out]; rfl
          exact ⟨⟨k + 1, by omega, by go_num, by rw [hb], by rw [hb, heap_setCell (show (World.drewN w5 _).heap[p]? = _ from HP5.out)]; rfl, by rw [heap_setCell_ne _ HLP.out]; exact HL5.out, ((HMM.out.trans M5.out).drewN _).setCell (fun _ => rfl) _⟩, by go_light; simp only [intOf]; omega⟩
        | true =>
          have hli := later_is t pt htb hpb
          by_cases hlat : later t pt = true
          · rw [hlat] at hli
            have hpos : 0 < wrap64 (IntKind.u64.wrap ((t : Int) - (pt : Int))) := of_decide_eq_true hli.symm
            have HLAT := Lib.hid hlat
            clear hli hlat
            go_upto_region 9 with fail
            go_quiet (fail)
            go_wp2_with fail
            have hb : bgK d.last (d.n / 2) (d.sz - 16) (k + 1) = (true, t) := by rw [HNEXT.out]; unfold bgStep; rw [HFT.out]; dsimp only; rw [HLAT.out]; rfl
            exact ⟨⟨k + 1, by omega, by go_num, by rw [hb], by rw [hb, heap_setCell (show (World.drewN w5 _).heap[p]? = _ from HP5.out)]; rfl, by rw [heap_setCell_ne _ HLP.out]; exact HL5.out, ((HMM.out.trans M5.out).drewN _).setCell (fun _ => rfl) _⟩, by go_light; simp only [intOf]; omega⟩
          · have hlat : later t pt = false := by simpa using hlat
            rw [hlat] at hli
            have hneg : wrap64 (IntKind.u64.wrap ((t : Int) - (pt : Int))) ≤ 0 := Int.not_lt.1 (of_decide_eq_false hli.symm)
            have HLAT := Lib.hid hlat
            clear hli hlat
            go_upto_region 9 with fail
            go_quiet (fail)
            go_wp2_with fail
            have hb : bgK d.last (d.n / 2) (d.sz - 16) (k + 1) = (true, pt) := by rw [HNEXT.out]; unfold bgStep; rw [HFT.out]; dsimp only; rw [HLAT.out]; rfl
            exact ⟨⟨k + 1, by omega, by go_num, by rw [hb], by rw [hb]; exact HP5.out, HL5.out, (HMM.out.trans M5.out).drewN _⟩, by go_light; simp only [intOf]; omega⟩
      · have HNO := Lib.hid hno
        clear hm4 hm5 hp4 hl4 hp5 hl5 hno hz2 hz4 hlp hll
        go_upto_region 9 with fail
        go_quiet (fail)
        go_wp2_with fail
        have hb : bgK d.last (d.n / 2) (d.sz - 16) (k + 1) = (pf, pt) := by rw [HNEXT.out]; unfold bgStep; rw [HNO.out]
        exact ⟨⟨k + 1, by omega, by go_num, by rw [hb], by rw [hb]; exact HP5.out, HL5.out, (HMM.out.trans M5.out).drewN _⟩, by go_light; simp only [intOf]; omega⟩
    · have hk3 : k = 2 := by omega
      subst hk3
      have HPP := Lib.hid hp
      have HMM := Lib.hid hm
      clear hp hl hm
      go_wp2_with fail
      exact fin hR ⟨rfl, HPP.out, HMM.out⟩

end Go.Proofs.YtkeopmfmlciadaaGreat
namespace Go.Proofs.YtkeopmfmlciadaaGreat
open Go.RowKit

theorem parse_len : ∀ (f : Nat) (l : List UInt8) (rs : List (List UInt8)), parse f l = some rs → 4 * rs.length ≤ l.length
  | f, [], rs, h => by
    have : parse f [] = some [] := by cases f <;> rfl
    rw [this] at h; cases h; simp
  | 0, x :: l, rs, h => by cases h
  | f + 1, x :: l, rs, h => by
    unfold parse at h
    split at h
    · cases h
    · split at h
      · obtain ⟨p, hp, rfl⟩ := Option.map_eq_some_iff.1 h
        have := parse_len f _ p hp
        rw [List.length_drop] at this
        simp only [List.length_cons] at *
        omega
      · cases h

theorem rd_len {S : Nat → List UInt8} {h size side at_ next t beh : Nat} {rs : List (List UInt8)} (hs : 0 < size) (e : rd S h size side at_ next = some (t, rs, beh)) : rs.length ≤ (beh - at_) * size := by
  unfold rd at e
  split at e
  · split at e
    · obtain ⟨p, hp, hq⟩ := Option.map_eq_some_iff.1 e
      simp only [Prod.mk.injEq] at hq
      obtain ⟨_, q2, q3⟩ := hq
      have h1 := parse_len _ _ _ hp
      have h2 := secs_up (size := size) (n := 32 + getN ((((S (side * h + at_)).take size).drop 24).take 8)) hs
      rw [List.length_take] at h1
      rw [← q3, ← q2, Nat.add_sub_cancel_left]
      omega
    · cases e
  · cases e

theorem Chain.bounds {S : Nat → List UInt8} {h size side turn at_ next : Nat} {all : List (List UInt8)} (hs : 0 < size) (c : Chain S h size side turn at_ next all) : next ≤ at_ ∧ all.length ≤ at_ * size := by
  induction c with
  | zero => simp
  | @step a n b al r _ e ih =>
    obtain ⟨_, h1, _⟩ := rd_some hs e
    have h2 := rd_len hs e
    refine ⟨by omega, ?_⟩
    rw [List.length_append]
    have h3 : b * size = a * size + (b - a) * size := by rw [← Nat.add_mul, Nat.add_sub_cancel' (by omega)]
    omega

theorem OwnRecs.lower {w : World} {base base' : Nat} {v : Value} {rs : List (List UInt8)} (h : OwnRecs w base v rs) (hb : base' ≤ base) : OwnRecs w base' v rs := by
  obtain ⟨vs, h1, ⟨hl, h2⟩, h3⟩ := h.row
  refine ⟨vs, h1, ⟨hl, ?_⟩, fun j u r hu hr => (h3 j u r hu hr).shrink fun k _ e => by omega⟩
  rcases h2 with h2 | ⟨g, cap, cur, hv, hg, rest⟩
  · exact .inl h2
  · exact .inr ⟨g, cap, cur, hv, by omega, rest⟩

/-- .. kept, where what turns is neither its row nor bytes. -/
theorem OwnRecs.keepO {S : Nat → Prop} {w w' : World} {base : Nat} {v : Value} {rs : List (List UInt8)} (h : OwnRecs w base v rs) (hm : Mod S w w')
    (hs : ∀ q, S q → ¬ ((∃ cur, w.heap[q]? = some (.cells cur 45 (0, 0))) ∨ ∃ cur fz, w.heap[q]? = some (.cells cur 5 fz))) : OwnRecs w' base v rs := by
  obtain ⟨vs, h1, h2, h3⟩ := h.row
  exact ⟨vs, h1, own_keepM h2 hm (fun k hk hS => hs k hS (.inl (own_heapM h2 hk))), fun j u r hu hr => (h3 j u r hu hr).keep hm (fun k cur fz hS _ e => hs k hS (.inr ⟨cur, fz, e⟩))⟩

/-- Records are appended to records. -/
theorem OwnRecs.app {w w' : World} {base base2 : Nat} {v v' x : Value} {rs ss : List (List UInt8)} {vs us : List Value} (h1 : vs.length = rs.length) (h2 : w.ownsRow base 45 1 v rs.length vs)
    (h3 : ∀ (j : Nat) (u : Value) (r : List UInt8), vs[j]? = some u → rs[j]? = some r → Sl w (fun k => k < base) 5 u r.length (bv r)) (hb : base ≤ base2) (k1 : us.length = ss.length) (_ : w.ownsRow base2 45 1 x ss.length us)
    (k3 : ∀ (j : Nat) (u : Value) (r : List UInt8), us[j]? = some u → ss[j]? = some r → Sl w (fun k => k < base2) 5 u r.length (bv r))
    (hg : w.grownBy w' v.ownBlock) (hown : w'.ownsRow base 45 1 v' (rs.length + ss.length) (vs ++ us)) : OwnRecs w' base v' (rs ++ ss) := by
  have hm := Mod.of_grown (S := fun q => v.ownBlock = some q) hg (fun q e _ => e)
  have hk : ∀ {n : Nat} {xs : List Value} {x : Value}, Sl w (fun k => k < base) 5 x n xs → Sl w' (fun k => k < base) 5 x n xs := fun hs => hs.keep hm fun k cur fz hk _ e => by
    obtain ⟨cur', hc⟩ := own_heapM h2 hk
    rw [hc] at e
    cases e
  refine ⟨vs ++ us, by simp [h1, k1], by simpa using hown, fun j y z hy hz => ?_⟩
  rcases Nat.lt_or_ge j vs.length with g | g
  · rw [List.getElem?_append_left g] at hy
    rw [List.getElem?_append_left (by omega)] at hz
    exact hk (h3 j y z hy hz)
  · rw [List.getElem?_append_right g] at hy
    rw [List.getElem?_append_right (by omega), ← h1] at hz
    exact hk ((k3 _ y z hy hz).shrink fun k _ e => by omega)

set_option maxRecDepth 100000 in
theorem wopen_small {b sb mb : Nat} {d : Dk} {w : World} (hs : d.n < 16 ∨ d.sz < 128) (h : DkAt w No b sb mb d) :
    Calls Tryz.prog 33 #[.pointer (some ⟨b, 0, none⟩)] w fun e w' => e = .returned (.tuple #[.pointer none, .slice none 0 0, .int .i64 41]) ∧ w' = w := by
  refine calls_hide fun R hR => ?_
  have H1 := Lib.hid (sectors_ok h)
  have H2 := Lib.hid (size_ok h)
  clear h
  by_cases hn : d.n < 16
  · have hn1 : (d.n : Int) < 16 := by omega
    go_enter Tryz.func33, Tryz.ntmps33
    go_wp2_with fail
    refine H1.out.mono ?_
    rintro e w' ⟨rfl, h2⟩
    subst h2
    go_wp2_with fail
    go_ret3
    exact fin hR ⟨rfl, rfl⟩
  · have hn1 : (16 : Int) ≤ (d.n : Int) := by omega
    have hn2 : (d.sz : Int) < 128 := by omega
    go_enter Tryz.func33, Tryz.ntmps33
    go_wp2_with fail
    refine H1.out.mono ?_
    rintro e w' ⟨rfl, h2⟩
    subst h2
    go_wp2_with fail
    refine H2.out.mono ?_
    rintro e w' ⟨rfl, h2⟩
    subst h2
    go_wp2_with fail
    go_ret3
    exact fin hR ⟨rfl, rfl⟩

/-- A log in memory: its struct, its map of what is undone (empty). -/
structure LogAt (w : World) (p b ub : Nat) (L : Lg) : Prop where
  obj : w.heap[p]? = some (LgObj b ub L.turn L.next L.at_ L.all.length)
  undone : Mp w 3 ub (.map [])

/-- Open's loop: at most g rounds to come. -/
def OpInv (w wr : World) (d : Dk) (b p ub lv T g : Nat) (out : Value) : Prop :=
  ∃ L : Lg, L.turn = T ∧ d.n / 2 - L.at_ ≤ g ∧ Chain d.last (d.n / 2) (d.sz - 16) (L.turn % 2) L.turn L.at_ L.next L.all ∧ wr.heap[p]? = some (LgObj b ub L.turn L.next L.at_ L.all.length) ∧
    wr.heap[lv]? = some (.cells #[.pointer (some ⟨p, 0, none⟩)] 71 (0, 0)) ∧ Mp wr 3 ub (.map []) ∧ OwnRecs wr w.heap.size out L.all ∧ Mod No w wr

set_option maxRecDepth 100000 in
set_option maxHeartbeats 4000000 in
theorem wopen_any {b sb mb : Nat} {d : Dk} {w : World} (hn : 16 ≤ d.n) (hz : 128 ≤ d.sz) (hw : Well d) (h : DkAt w No b sb mb d) :
    Calls Tryz.prog 33 #[.pointer (some ⟨b, 0, none⟩)] w fun e w' => ∃ (p ub : Nat) (v : Value) (L : Lg), e = .returned (.tuple #[.pointer (some ⟨p, 0, none⟩), v, .int .i64 0]) ∧ LogAt w' p b ub L ∧ OwnRecs w' w.heap.size v L.all ∧
      L.turn = turnOf d.last (d.n / 2) (d.sz - 16) ∧ Chain d.last (d.n / 2) (d.sz - 16) (L.turn % 2) L.turn L.at_ L.next L.all ∧ Stop d.last (d.n / 2) (d.sz - 16) (L.turn % 2) L.turn L.at_ L.next ∧ Mod No w w' ∧ w.heap.size ≤ p ∧ w.heap.size ≤ ub := by
  have hmm := @run_makeMap Tryz.prog
  refine calls_hide fun R hR => ?_
  have H1 := Lib.hid (sectors_ok h)
  have H2 := Lib.hid (size_ok h)
  have hmf : ∀ (fn : Fn) (first cap : Array Value) (w : World), (Instr.makeFunc fn first cap).run Tryz.prog w = .ok (.func fn first cap) w := fun _ _ _ _ => rfl
  have hn1 : (16 : Int) ≤ (d.n : Int) := by omega
  have hz1 : (128 : Int) ≤ (d.sz : Int) := by omega
  have HD := Lib.hid h
  have HW := Lib.hid hw
  clear h hw
  go_enter Tryz.func33, Tryz.ntmps33
  go_wp2_with fail
  refine H1.out.mono ?_
  rintro e w' ⟨rfl, h2⟩
  subst h2
  go_wp2_with fail
  refine H2.out.mono ?_
  rintro e w' ⟨rfl, h2⟩
  subst h2
  go_wp2_with fail
  obtain ⟨w3, hw3⟩ : ∃ w3, w3 = ((w.alloc (.map #[] 0)).alloc (.cells #[.pointer (some ⟨b, 0, none⟩), .int .u64 0, .int .u64 0, .int .i64 0, .int .i64 0, .map (some w.heap.size)] 112)).alloc (.cells #[.pointer (some ⟨w.heap.size + 1, 0, none⟩)] 71) := ⟨_, rfl⟩
  rw [← hw3]
  have m3 : Mod No w w3 := by rw [hw3]; exact (((Mod.refl No w).alloc _).alloc _).alloc _
  have hub : Mp w3 3 w.heap.size (.map []) := by
    rw [hw3]; exact (Mp.made w 3).keep (S := No) (((Mod.refl No _).alloc _).alloc _) (fun f => f)
  have hp : w3.heap[w.heap.size + 1]? = some (LgObj b w.heap.size 0 0 0 0) := by
    rw [hw3]; exact heap_alloc_old _ (heap_at_new _ _ (by simp))
  have hl : w3.heap[w.heap.size + 2]? = some (.cells #[.pointer (some ⟨w.heap.size + 1, 0, none⟩)] 71 (0, 0)) := by
    rw [hw3]; exact heap_at_new _ _ (by simp)
  have hbig : ∀ k, Own3 b sb mb k → k < w.heap.size := fun k e => HD.out.lt e
  obtain ⟨ub, hubn⟩ : ∃ ub, ub = w.heap.size := ⟨_, rfl⟩
  obtain ⟨p, hpn⟩ : ∃ p, p = w.heap.size + 1 := ⟨_, rfl⟩
  obtain ⟨lv, hlvn⟩ : ∃ lv, lv = w.heap.size + 2 := ⟨_, rfl⟩
  rw [← hubn] at hub
  rw [← hpn, ← hubn] at hp
  rw [← hlvn, ← hpn] at hl
  rw [← hlvn, ← hpn]
  have hwub : w.heap.size ≤ ub := by omega
  have hwp : w.heap.size ≤ p := by omega
  have hup : ub ≠ p := by omega
  have hlp : lv ≠ p := by omega
  have hlu : w.heap.size ≤ lv := by omega
  have HBG := Lib.hid (begin_any (p := p) (ub := ub) hz HW.out (HD.out.stay m3) (fun e => by have := hbig p e; omega) hp)
  have HUB := Lib.hid hub
  have HLL := Lib.hid hl
  have M3 := Lib.hid m3
  have HNE := Lib.hid (show w.heap.size ≤ ub ∧ w.heap.size ≤ p ∧ ub ≠ p ∧ lv ≠ p ∧ w.heap.size ≤ lv ∧ lv < w3.heap.size ∧ p < w3.heap.size ∧ ub < w3.heap.size from ⟨hwub, hwp, hup, hlp, hlu, lt_of_heap hl, lt_of_heap hp, by have := lt_of_heap hp; omega⟩)
  have HBIG := Lib.hid hbig
  clear hw3 m3 hub hp hl hbig hubn hpn hlvn hwub hwp hup hlp hlu H1 H2
  refine HBG.out.mono ?_
  clear HBG
  rintro e w4 ⟨rfl, hp4, hm4⟩
  have R0 := Lib.hid (show OpInv w w4 d b p ub lv (turnOf d.last (d.n / 2) (d.sz - 16)) (d.n / 2) (.slice none 0 0) from
    ⟨⟨turnOf d.last (d.n / 2) (d.sz - 16), 0, 0, []⟩, rfl, by show d.n / 2 - 0 ≤ d.n / 2; omega, .zero, hp4, hm4.keep HLL.out HNE.out.2.2.2.1, HUB.out.keep hm4 HNE.out.2.2.1, OwnRecs.nil _ _, M3.out.then hm4 fun i hi e => by have := HNE.out.2.1; omega⟩)
  generalize turnOf d.last (d.n / 2) (d.sz - 16) = T at *
  clear hp4 hm4 HLL HUB M3
  go_wp2_with fail
  go_loopg [7] (d.n / 2 + 1) (fun g out wr => ∃ g', g = g' + 1 ∧ OpInv w wr d b p ub lv T g' out)
  case atStart => exact ⟨d.n / 2, rfl, R0.out⟩
  case round =>
    clear R0
    obtain ⟨g, rfl, hinv⟩ := hrel
    obtain ⟨L, hLT, hLg, hch, hp, hl, hub, hrec, hmod⟩ := hinv
    obtain ⟨vs0, -, e20, -⟩ := hrec.row
    obtain ⟨oa, oc, rfl⟩ := own_len e20
    have hbd := hch.bounds (by omega)
    have hle := hch.le (by omega)
    have hn2 : d.n ≤ 4096 := HD.out.n2
    have hz2 : d.sz ≤ 4096 := HD.out.s2
    have hall : L.all.length ≤ 2048 * 4080 := Nat.le_trans hbd.2 (Nat.mul_le_mul (by omega) (by omega))
    have hplt := lt_of_heap hp
    have hllt := lt_of_heap hl
    obtain ⟨w2, hw2⟩ : ∃ w2, w2 = (wr.alloc (.cells #[.slice none 0 0] 72)).alloc (.cells #[.int .i64 0] 3) := ⟨_, rfl⟩
    have m2 : Mod No wr w2 := by rw [hw2]; exact ((Mod.refl No wr).alloc _).alloc _
    have hr2 : w2.heap[wr.heap.size]? = some (.cells #[.slice none 0 0] 72 (0, 0)) := by rw [hw2]; exact heap_alloc_old _ (heap_alloc_new wr _)
    have hb2 : w2.heap[wr.heap.size + 1]? = some (.cells #[.int .i64 0] 3 (0, 0)) := by rw [hw2]; exact heap_at_new _ _ (by simp)
    have hz22 : w2.heap.size = wr.heap.size + 2 := by rw [hw2]; simp
    have hwr := hmod.size
    have HTRY := try_open (.pointer (some ⟨lv, 0, none⟩)) (.pointer (some ⟨wr.heap.size, 0, none⟩)) (.pointer (some ⟨wr.heap.size + 1, 0, none⟩)) w2 (fun q => q = wr.heap.size ∨ q = wr.heap.size + 1)
      (fun w' => ∃ (rs : List (List UInt8)) (beh : Nat) (v : Value), rd d.last (d.n / 2) (d.sz - 16) (L.turn % 2) L.at_ L.next = some (L.turn, rs, beh) ∧ w'.heap[wr.heap.size]? = some (.cells #[v] 72 (0, 0)) ∧ OwnRecs w' w.heap.size v rs ∧ w'.heap[wr.heap.size + 1]? = some (.cells #[.int .i64 (beh : Int)] 3 (0, 0)))
      (fun _ => Stop d.last (d.n / 2) (d.sz - 16) (L.turn % 2) L.turn L.at_ L.next) (fun q e => by omega)
      (fun w3' hm3' => (open1_any lv wr.heap.size (wr.heap.size + 1) L.all.length L _ _ (by omega) hz HW.out ((HD.out.stay (hmod.trans m2)).stay hm3') ((m2.trans hm3').keep hp (fun f => f)) ((m2.trans hm3').keep hl (fun f => f)) (hm3'.keep hr2 (fun f => f)) (hm3'.keep hb2 (fun f => f))).mono (by
        rintro e w' ⟨hm, ⟨rfl, rs, beh, v, h1, h2, h3, h4⟩ | ⟨rfl, h1⟩⟩
        · have := hm3'.size
          exact ⟨hm, .inl ⟨rfl, rs, beh, v, h1, h2, h3.lower (by omega), h4⟩⟩
        · exact ⟨hm, .inr ⟨rfl, h1⟩⟩))
    have HTRY := Lib.hid HTRY
    have HW2 := Lib.hid hw2
    have HPP := Lib.hid hp
    have HLL := Lib.hid hl
    have HUB := Lib.hid hub
    have HREC := Lib.hid hrec
    have HMOD := Lib.hid hmod
    have M2 := Lib.hid m2
    have HZ2 := Lib.hid hz22
    have HCH := Lib.hid hch
    have HBD := Lib.hid (And.intro hplt hllt)
    clear e20 vs0 hw2 m2 hr2 hb2 hz22 hp hl hub hrec hmod hch hplt hllt
    go_wp2_with fail
    rw [← HW2.out]
    refine HTRY.out.mono ?_
    clear HTRY
    rintro e w5 ⟨w4', hm4, ⟨hx1, hx2⟩, hm5, hcase⟩
    have hz2' := HZ2.out
    have hz4 := hm4.size
    have hplt := HBD.out.1
    have hllt := HBD.out.2
    have MN := Lib.hid (show Mod No wr w5 from (M2.out.then hm4 fun i hi e => by omega).then hm5 fun i hi e => by omega)
    have hl5 := MN.out.keep HLL.out (fun f => f)
    have hp5 := MN.out.keep HPP.out (fun f => f)
    have l5 := cell_of (i := 0) hl5 rfl
    have HP5 := Lib.hid hp5
    have HL5 := Lib.hid hl5
    rcases hcase with ⟨rfl, rs, beh, v, hrd, hrv, hrecs, hbv⟩ | ⟨rfl, hstop⟩
    · obtain ⟨us, k1, k2, k3⟩ := hrecs.row
      obtain ⟨sa, sc, rfl⟩ := own_len k2
      have hrl := rd_len (by omega) hrd
      obtain ⟨hat1, hat2, hat3, _⟩ := rd_some (by omega) hrd
      have hrl2 : rs.length ≤ 2048 * 4080 := Nat.le_trans hrl (Nat.mul_le_mul (by omega) (by omega))
      obtain ⟨rv, hrvn⟩ : ∃ rv, rv = wr.heap.size := ⟨_, rfl⟩
      obtain ⟨bw, hbwn⟩ : ∃ bw, bw = wr.heap.size + 1 := ⟨_, rfl⟩
      rw [← hrvn] at hrv
      rw [← hbwn] at hbv
      rw [← hbwn, ← hrvn]
      have hrv5 := hm5.keep hrv (by omega)
      have hbv5 := hm5.keep hbv (by omega)
      have hm5' : Mod No w4' w4' := Mod.refl _ _
      have hsx : ∀ (j : Nat) (u : Value) (r : List UInt8), us[j]? = some u → rs[j]? = some r → Sl w5 (fun k => k < w.heap.size) 5 u r.length (bv r) := fun j u r hu hr => (k3 j u r hu hr).keep hm5 (fun q cur fz e _ hx => by
        rcases e with e | e
        · subst e; rw [hx1] at hx; cases hx
        · subst e; rw [hx2] at hx; cases hx)
      have hk25 : w5.ownsRow w.heap.size 45 1 (.slice sa rs.length sc) rs.length us := own_keepM k2 hm5 (fun q hq e => by
        obtain ⟨cur, hx⟩ := own_heapM k2 hq
        rcases e with e | e
        · subst e; rw [hx1] at hx; cases hx
        · subst e; rw [hx2] at hx; cases hx)
      have hrc5 := HREC.out.stay MN.out
      obtain ⟨vs, e1, e2, e3⟩ := hrc5.row
      have hpo : ∀ k, (Value.slice oa L.all.length oc).ownBlock = some k → k ≠ p ∧ k ≠ lv ∧ k ≠ rv ∧ k ≠ bw ∧ k ≠ ub := fun k hk => by
        obtain ⟨cur, hc⟩ := own_heapM e2 hk
        obtain ⟨es, clock, hmp⟩ := (HUB.out.keep MN.out (fun f => f)).heap
        refine ⟨fun h => ?_, fun h => ?_, fun h => ?_, fun h => ?_, fun h => ?_⟩
        · subst h; rw [hp5] at hc; cases hc
        · subst h; rw [hl5] at hc; cases hc
        · subst h; rw [hrv5] at hc; cases hc
        · subst h; rw [hbv5] at hc; cases hc
        · subst h; rw [hmp] at hc; cases hc
      have HPO := Lib.hid hpo
      have HE := Lib.hid (And.intro e1 (And.intro e2 e3))
      have HU := Lib.hid (And.intro k1 (And.intro hk25 hsx))
      have HSU := Lib.hid (Sl.of_own (X := No) hk25 (fun _ _ f => f))
      have H1C := Lib.hid (show ∀ y ∈ us, y.oneCell' = true from fun y hy => by
        obtain ⟨j, hj, rfl⟩ := List.mem_iff_getElem.1 hy
        obtain ⟨a1, c1, h1⟩ := (hsx j us[j] (rs[j]'(by omega)) (List.getElem?_eq_getElem hj) (List.getElem?_eq_getElem (by omega))).len
        rw [h1]; rfl)
      have HRV5 := Lib.hid hrv5
      have HBV5 := Lib.hid hbv5
      have HRD := Lib.hid hrd
      have HMW := Lib.hid (HMOD.out.trans MN.out)
      have r5 := cell_of (i := 0) hrv5 rfl
      have HK1 := Lib.hid k1
      have hb5 : w.heap.size ≤ w5.heap.size := HMW.out.size
      have hnx1 : (L.next : Int) + 1 ≤ 18446744073709551615 := by omega
      have hc1 : (L.all.length : Int) + (rs.length : Int) ≤ 9223372036854775807 := by omega
      have hc0 : (0 : Int) ≤ (L.all.length : Int) + (rs.length : Int) := by omega
      obtain ⟨i0, hi0, hzz0, hzz1, hzz2⟩ := info_parts info_bs
      have HAT := Lib.hid (And.intro hat2 hat3)
      clear hx1 hx2 hm4 hm5 hm5' hz2' hz4 hrv hrecs hbv hrvn hbwn hrv5 hbv5 hsx hk25 hrc5 e1 e2 e3 hpo k1 k2 k3 hl5 hp5 hrd hrl
      go_wp2_with (at_builtin; refine app_sl _ rfl _ _ 72 rfl w.heap.size 45 i0 (.slice none 0 0) 1 24 Tryz.underlying72 hi0 hzz0 hzz1 hzz2 rfl (by decide) _ _ _ rfl HE.out.2.1 No 45 _ _ _ rfl HSU.out ?_ H1C.out ?_ ?_ hb5 ?_)
      · rw [HK1.out, Nat.mul_one]
      · unfold maxLen; omega
      · omega
      intro v' w6 hown6 hg6 _
      have hr6 := OwnRecs.app HE.out.1 HE.out.2.1 HE.out.2.2 (Nat.le_refl _) HU.out.1 HU.out.2.1 HU.out.2.2 hg6 hown6
      have hm6 := Mod.of_grown (S := fun q => (Value.slice oa L.all.length oc).ownBlock = some q) hg6 (fun q e _ => e)
      have hp6 := hm6.keep HP5.out (fun e => (HPO.out _ e).1 rfl)
      have hl6 := hm6.keep HL5.out (fun e => (HPO.out _ e).2.1 rfl)
      have hrv6 := hm6.keep HRV5.out (fun e => (HPO.out _ e).2.2.1 rfl)
      have hbv6 := hm6.keep HBV5.out (fun e => (HPO.out _ e).2.2.2.1 rfl)
      have hub6 := (HUB.out.keep MN.out (fun f => f)).keep hm6 (fun e => (HPO.out _ e).2.2.2.2 rfl)
      have hMW6 : Mod No w w6 := HMW.out.then hm6 fun i hi e => by have := (HE.out.2.1.lt i e).1; omega
      obtain ⟨na, nc, rfl⟩ := own_len hown6
      have hp6' : w6.heap[p]? = some (.cells #[.pointer (some ⟨b, 0, none⟩), .int .u64 (L.turn : Int), .int .u64 (L.next : Int), .int .i64 (L.at_ : Int), .int .i64 (L.all.length : Int), .map (some ub)] 112 (0, 0)) := hp6
      have l6 := cell_of (i := 0) hl6 rfl
      have b6 := cell_of (i := 0) hbv6 rfl
      have p63 := cell_of (i := 3) hp6' rfl
      have f63 := frozen_of 3 hp6'
      have m7 : Mod (fun q => q = p) w6 (w6.setCell ⟨p, 3, none⟩ (.int .i64 (beh : Int))) := (Mod.refl (fun q => q = p) w6).setCell (fun _ => rfl) _
      have q7 := heap_setCell hp6' (i := 3) (.int .i64 (beh : Int))
      have hl7 := m7.keep hl6 HNE.out.2.2.2.1
      have l7 := cell_of (i := 0) hl7 rfl
      have p72 := cell_of (i := 2) q7 rfl
      have f72 := frozen_of 2 q7
      have m8 : Mod (fun q => q = p) (w6.setCell ⟨p, 3, none⟩ (.int .i64 (beh : Int))) ((w6.setCell ⟨p, 3, none⟩ (.int .i64 (beh : Int))).setCell ⟨p, 2, none⟩ (.int .u64 ((L.next : Int) + 1))) := (Mod.refl (fun q => q = p) _).setCell (fun _ => rfl) _
      have q8 := heap_setCell q7 (i := 2) (.int .u64 ((L.next : Int) + 1))
      have hl8 := m8.keep hl7 HNE.out.2.2.2.1
      have hrp : rv ≠ p := fun e => by subst e; rw [hrv6] at hp6'; cases hp6'
      have hrv8 := m8.keep (m7.keep hrv6 hrp) hrp
      have hub8 := (hub6.keep m7 HNE.out.2.2.1).keep m8 HNE.out.2.2.1
      have M8 := Lib.hid (show Mod No w ((w6.setCell ⟨p, 3, none⟩ (.int .i64 (beh : Int))).setCell ⟨p, 2, none⟩ (.int .u64 ((L.next : Int) + 1))) from
        (hMW6.setCell (fun h => absurd h (by have := HNE.out.2.1; show ¬ p < w.heap.size; omega)) _).setCell (fun h => absurd h (by have := HNE.out.2.1; show ¬ p < w.heap.size; omega)) _)
      have hr8 := hr6.keepO (m7.trans m8) (fun q hq e => by
        subst hq
        rcases e with ⟨cur, e⟩ | ⟨cur, fz, e⟩
        · rw [hp6'] at e; cases e
        · rw [hp6'] at e; cases e)
      generalize hw8 : (w6.setCell ⟨p, 3, none⟩ (.int .i64 (beh : Int))).setCell ⟨p, 2, none⟩ (.int .u64 ((L.next : Int) + 1)) = w8 at *
      have LV8 := Lib.hid (cell_of (i := 0) hl8 rfl)
      have CT8 := Lib.hid (cell_of (i := 4) q8 rfl)
      have RV8 := Lib.hid (cell_of (i := 0) hrv8 rfl)
      have p84 := cell_of (i := 4) q8 rfl
      have f84 := frozen_of 4 q8
      have HW8 := Lib.hid hw8
      have m9 : Mod (fun q => q = p) w8.drew (w8.drew.setCell ⟨p, 4, none⟩ (.int .i64 ((L.all.length : Int) + (rs.length : Int)))) := (Mod.refl (fun q => q = p) _).setCell (fun _ => rfl) _
      have q9 := heap_setCell (w := w8.drew) q8 (i := 4) (.int .i64 ((L.all.length : Int) + (rs.length : Int)))
      have hg0 : 1 ≤ g := by omega
      have HWR := Lib.hid (show IntKind.i64.wrap ((L.all.length : Int) + (rs.length : Int)) = (L.all.length : Int) + (rs.length : Int) by rw [IntKind.wrap_i64]; omega)
      have RFIN := Lib.hid (show OpInv w (w8.drew.setCell ⟨p, 4, none⟩ (.int .i64 ((L.all.length : Int) + (rs.length : Int)))) d b p ub lv T (g - 1) (.slice na (L.all.length + rs.length) nc) from
        ⟨⟨L.turn, L.next + 1, beh, L.all ++ rs⟩, hLT, by show d.n / 2 - beh ≤ g - 1; have := HAT.out; omega, .step HCH.out HRD.out,
          by
            show (w8.drew.setCell ⟨p, 4, none⟩ (.int .i64 ((L.all.length : Int) + (rs.length : Int)))).heap[p]? = some (LgObj b ub L.turn (L.next + 1) beh (L.all ++ rs).length)
            rw [q9, List.length_append]; rfl,
          m9.keep hl8 HNE.out.2.2.2.1, (hub8.keep (S := No) (Mod.refl No w8).drew (fun f => f)).keep m9 HNE.out.2.2.1, (hr8.stay (Mod.refl No w8).drew).keepO m9 (fun q hq e => by
            subst hq
            rcases e with ⟨cur, e⟩ | ⟨cur, fz, e⟩
            · have e : w8.heap[q]? = _ := e
              rw [q8] at e; cases e
            · have e : w8.heap[q]? = _ := e
              rw [q8] at e; cases e),
          M8.out.drew.setCell (fun h => absurd h (by have := HNE.out.2.1; show ¬ p < w.heap.size; omega)) _⟩)
      clear m9 q9 hw8 m7 q7 hl7 m8 q8 hl8 hrp hrv8 hub8 hr8 hl6 hp6 hp6' hrv6 hbv6 hub6 hMW6 hm6 hr6 hown6 hg6
      clear HU HE HPO HSU HREC HBIG
      go_upto_region 18 with fail
      rw [HW8.out]
      have hS0 : w8.drew.cell? ⟨lv, 0, none⟩ = some (.pointer (some ⟨p, 0, none⟩)) ∧ w8.drew.cell? ⟨p, 4, none⟩ = some (.int .i64 (L.all.length : Int)) ∧ w8.drew.cell? ⟨rv, 0, none⟩ = some (.slice sa rs.length sc) := ⟨LV8.out, CT8.out, RV8.out⟩
      refine wp_region_T (fun w' => w'.cell? ⟨lv, 0, none⟩ = some (.pointer (some ⟨p, 0, none⟩)) ∧ w'.cell? ⟨p, 4, none⟩ = some (.int .i64 (L.all.length : Int)) ∧ w'.cell? ⟨rv, 0, none⟩ = some (.slice sa rs.length sc)) 9 (by kernel_rfl) ?_
      refine wpAnyT_take 0 (some 61) ?_ rfl rfl (by kernel_rfl) (fun _ _ _ h => h) hS0 (Or.inl ⟨by rfl, ?_⟩) ?_
      rotate_left
      · (intro w' hSw; (try dsimp only at hSw); go_simp; try with_reducible rfl)
      simp only [Act.put, List.setIfInBounds_toArray, List.set_cons_zero, List.set_cons_succ]
      refine wpAnyT_take 1 (some 62) ?_ rfl rfl (by kernel_rfl) (fun _ _ _ h => h) hS0 (Or.inl ⟨by rfl, ?_⟩) ?_
      rotate_left
      · (intro w' hSw; (try dsimp only at hSw); go_simp; try with_reducible rfl)
      simp only [Act.put, List.setIfInBounds_toArray, List.set_cons_zero, List.set_cons_succ]
      refine wpAnyT_take 2 (some 63) ?_ rfl rfl (by kernel_rfl) (fun _ _ _ h => h) hS0 (Or.inl ⟨by rfl, ?_⟩) ?_
      rotate_left
      · (intro w' hSw; (try dsimp only at hSw); go_simp; try with_reducible rfl)
      simp only [Act.put, List.setIfInBounds_toArray, List.set_cons_zero, List.set_cons_succ]
      refine wpAnyT_take 3 (some 64) ?_ rfl rfl (by kernel_rfl) (fun _ _ _ h => h) hS0 (Or.inl ⟨by rfl, ?_⟩) ?_
      rotate_left
      · (intro w' hSw; (try dsimp only at hSw); go_simp; try with_reducible rfl)
      simp only [Act.put, List.setIfInBounds_toArray, List.set_cons_zero, List.set_cons_succ]
      refine wpAnyT_take 4 (some 65) ?_ rfl rfl (by kernel_rfl) (fun _ _ _ h => h) hS0 (Or.inl ⟨by rfl, ?_⟩) ?_
      rotate_left
      · (intro w' hSw; (try dsimp only at hSw); go_simp; try with_reducible rfl)
      simp only [Act.put, List.setIfInBounds_toArray, List.set_cons_zero, List.set_cons_succ]
      refine wpAnyT_take 5 (some 66) ?_ rfl rfl (by kernel_rfl) (fun _ _ _ h => h) hS0 (Or.inl ⟨by rfl, ?_⟩) ?_
      rotate_left
      · (intro w' hSw; (try dsimp only at hSw); go_simp; try with_reducible rfl)
      simp only [Act.put, List.setIfInBounds_toArray, List.set_cons_zero, List.set_cons_succ]
      refine wpAnyT_take 6 (some 67) ?_ rfl rfl (by kernel_rfl) (fun _ _ _ h => h) hS0 (Or.inl ⟨by rfl, ?_⟩) ?_
      rotate_left
      · (intro w' hSw; (try dsimp only at hSw); go_simp; try with_reducible rfl)
      simp only [Act.put, List.setIfInBounds_toArray, List.set_cons_zero, List.set_cons_succ]
      refine wpAnyT_one 7 rfl (by kernel_rfl) rfl ?_
      intro K hK
      go_simp
      show K _ _
      refine hK.out _ _ (fun _ => hS0) ?_
      clear hK K
      refine wpAnyT_take 8 (some 69) ?_ rfl rfl (by kernel_rfl) (fun _ _ _ h => h) hS0 (Or.inl ⟨by rfl, ?_⟩) ?_
      rotate_left
      · (intro w' hSw; (try dsimp only at hSw); go_simp; try with_reducible rfl)
      simp only [Act.put, List.setIfInBounds_toArray, List.set_cons_zero, List.set_cons_succ]
      refine wpAnyT_one 9 rfl (by kernel_rfl) rfl ?_
      intro K hK
      go_simp
      show K _ _
      refine hK.out _ _ (fun h => absurd rfl h) ?_
      clear hK K
      refine wpAnyT_done (by kernel_rfl) ?_ _
      rw [HWR.out]
      go_wp2_with fail
      go_roundg g
      case measure => omega
      case rel => exact ⟨g - 1, by omega, RFIN.out⟩
    · have HST := Lib.hid hstop
      clear hx1 hx2 hstop hm4 hm5 hz2' hz4 hplt hllt hl5 hp5
      go_wp2_with fail
      go_ret3
      refine fin hR ⟨p, ub, _, L, rfl, ⟨HP5.out, HUB.out.keep MN.out (fun f => f)⟩, HREC.out.stay MN.out, hLT, HCH.out, HST.out, HMOD.out.trans MN.out, HNE.out.2.1, HNE.out.1⟩

end Go.Proofs.YtkeopmfmlciadaaGreat
namespace Go.Proofs.YtkeopmfmlciadaaGreat
open Go.RowKit

/-- Records that are read, outside X. -/
structure Recs (w : World) (X : Nat → Prop) (v : Value) (rs : List (List UInt8)) : Prop where
  row : ∃ vs : List Value, vs.length = rs.length ∧ Sl w X 45 v rs.length vs ∧ ∀ (j : Nat) (u : Value) (r : List UInt8), vs[j]? = some u → rs[j]? = some r → Sl w X 5 u r.length (bv r)

theorem Recs.stay {w w' : World} {X : Nat → Prop} {v : Value} {rs : List (List UInt8)} (h : Recs w X v rs) (hm : Mod No w w') : Recs w' X v rs := by
  obtain ⟨vs, h1, h2, h3⟩ := h.row
  exact ⟨vs, h1, h2.keep hm (fun _ _ _ f => f.elim), fun j u r hu hr => (h3 j u r hu hr).keep hm (fun _ _ _ f => f.elim)⟩

theorem Recs.keep {S X : Nat → Prop} {w w' : World} {v : Value} {rs : List (List UInt8)} (h : Recs w X v rs) (hm : Mod S w w') (hs : ∀ k, S k → X k) : Recs w' X v rs := by
  obtain ⟨vs, h1, h2, h3⟩ := h.row
  exact ⟨vs, h1, h2.keep hm (fun k _ _ s nx => absurd (hs k s) nx), fun j u r hu hr => (h3 j u r hu hr).keep hm (fun k _ _ s nx => absurd (hs k s) nx)⟩

theorem OwnRecs.recs {w : World} {X : Nat → Prop} {base : Nat} {v : Value} {rs : List (List UInt8)} (h : OwnRecs w base v rs) (hx : ∀ k, base ≤ k → ¬ X k) : Recs w X v rs := by
  obtain ⟨vs, h1, h2, h3⟩ := h.row
  exact ⟨vs, h1, Sl.of_own h2 hx, fun j u r hu hr => (h3 j u r hu hr).shrink fun k _ e => Nat.lt_of_not_le fun hle => hx k hle e⟩

/-- A record. -/
theorem Recs.at_ {w : World} {X : Nat → Prop} {v : Value} {rs : List (List UInt8)} (h : Recs w X v rs) {k : Nat} (hk : k < rs.length) : ∃ b o c u, v = .slice (some ⟨b, o, none⟩) rs.length c ∧ w.cell? ⟨b, o + k, none⟩ = some u ∧ Sl w X 5 u rs[k].length (bv rs[k]) := by
  obtain ⟨vs, h1, h2, h3⟩ := h.row
  obtain ⟨b, o, c, rfl, _⟩ := h2.shape (by omega)
  have hu : vs[k]? = some (vs[k]'(by omega)) := List.getElem?_eq_getElem (by omega)
  have hc := h2.cell (i := k) (by omega)
  dsimp only at hc
  exact ⟨b, o, c, _, rfl, hc.trans hu, h3 k _ _ hu (List.getElem?_eq_getElem hk)⟩

theorem Recs.len {w : World} {X : Nat → Prop} {v : Value} {rs : List (List UInt8)} (h : Recs w X v rs) : ∃ a c, v = .slice a rs.length c := by
  obtain ⟨vs, _, h2, _⟩ := h.row
  exact h2.len

def isLong (r : List UInt8) : Bool := decide ((1048576 : Int) < (r.length : Int))

set_option maxRecDepth 100000 in
set_option maxHeartbeats 1000000 in
theorem index_any {X : Nat → Prop} {v : Value} {rs : List (List UInt8)} {w : World} (h : Recs w X v rs) (hl : rs.length ≤ 1000000000) :
    Calls Tryz.prog 102 #[v, .func (.func 89) #[] #[]] w fun e w' => (∃ i : Int, e = .returned (.int .i64 i) ∧ decide (0 ≤ i) = rs.any isLong) ∧ w' = w := by
  refine calls_hide fun R hR => ?_
  obtain ⟨a, c, rfl⟩ := h.len
  have H := Lib.hid h
  clear h
  go_enter Tryz.func102, Tryz.ntmps102
  go_wp2_with fail
  go_loopw [8] (fun i wr => wr = w ∧ ∃ k : Nat, k ≤ rs.length ∧ i = .int .i64 k ∧ (rs.take k).any isLong = false) (fun i _ => rs.length - (intOf i).toNat)
  case atStart => exact ⟨rfl, 0, by omega, rfl, rfl⟩
  case round =>
    obtain ⟨rfl, k, hk, rfl, hno⟩ := hrel
    have HNO := Lib.hid hno
    clear hno
    have hk0 : (0 : Int) ≤ (k : Int) := Int.natCast_nonneg _
    by_cases hlt : k < rs.length
    · have hk1 : (k : Int) < (rs.length : Int) := by omega
      obtain ⟨b, o, c', u, hv, hu, hsl⟩ := H.out.at_ hlt
      cases hv
      obtain ⟨ua, uc, rfl⟩ := hsl.len
      have HLO := Lib.hid (long_any (a := ua) (n := rs[k].length) (c := uc) (w := wr))
      have HT := Lib.hid (show (rs.take (k + 1)).any isLong = isLong rs[k] by rw [List.take_succ_eq_append_getElem hlt, List.any_append, HNO.out]; simp)
      have HMEM := Lib.hid (show isLong rs[k] = true → rs.any isLong = true from fun e => List.any_eq_true.2 ⟨rs[k], List.getElem_mem hlt, e⟩)
      have HIS := Lib.hid (show isLong rs[k] = decide ((1048576 : Int) < (rs[k].length : Int)) from rfl)
      clear hsl
      generalize rs[k].length = n at *
      generalize isLong rs[k] = il at *
      go_wp2_with fail
      refine HLO.out.mono ?_
      rintro e w2 ⟨rfl, h2⟩
      subst h2
      rw [← HIS.out]
      cases il with
      | true =>
        go_wp2_with fail
        exact fin hR ⟨⟨_, rfl, by rw [HMEM.out (by trivial)]; exact decide_eq_true hk0⟩, rfl⟩
      | false =>
        go_wp2_with fail
        exact ⟨⟨trivial, k + 1, by omega, by go_num, HT.out⟩, by go_light; simp only [intOf]; omega⟩
    · have hkn : k = rs.length := by omega
      subst hkn
      go_wp2_with fail
      have hno := HNO.out
      rw [List.take_length] at hno
      exact fin hR ⟨⟨_, rfl, by rw [hno]; rfl⟩, rfl⟩

theorem contains_any {X : Nat → Prop} {v : Value} {rs : List (List UInt8)} {w : World} (h : Recs w X v rs) (hl : rs.length ≤ 1000000000) :
    Calls Tryz.prog 88 #[v, .func (.func 89) #[] #[]] w fun e w' => e = .returned (.bool (rs.any isLong)) ∧ w' = w := by
  refine calls_hide fun R hR => ?_
  have HI := Lib.hid (index_any h hl)
  obtain ⟨a, c, rfl⟩ := h.len
  clear h
  go_enter Tryz.func88, Tryz.ntmps88
  go_wp2_with fail
  refine HI.out.mono ?_
  rintro e w2 ⟨⟨i, rfl, hi⟩, h2⟩
  subst h2
  have HX := Lib.hid hi
  clear hi
  go_wp2_with fail
  exact fin hR ⟨by rw [← HX.out]; rfl, rfl⟩

theorem bodyB_take (rs : List (List UInt8)) (k : Nat) (hk : k < rs.length) : (bodyB (rs.take (k + 1))).length = (bodyB (rs.take k)).length + 4 + rs[k].length := by
  have e : bodyB (rs.take (k + 1)) = bodyB (rs.take k) ++ (be 4 rs[k].length ++ rs[k]) := by
    rw [List.take_succ_eq_append_getElem hk]
    unfold bodyB
    rw [List.flatMap_append]
    simp [recB]
  rw [e, List.length_append, List.length_append, be_len]
  omega

set_option maxRecDepth 100000 in
set_option maxHeartbeats 1000000 in
theorem bytes_any {X Y : Nat → Prop} {b sb mb p : Nat} {d : Dk} {v : Value} {rs : List (List UInt8)} {w : World} (h : Recs w X v rs) (hl : ∀ r ∈ rs, r.length ≤ 140737488355328) (hl2 : rs.length ≤ 1000000000) (hd : DkAt w Y b sb mb d) (c0 : w.cell? ⟨p, 0, none⟩ = some (.pointer (some ⟨b, 0, none⟩))) :
    Calls Tryz.prog 90 #[.pointer (some ⟨p, 0, none⟩), v] w fun e w' => e = .returned (.int .i64 ((min (32 + (bodyB rs).length) (d.n * d.sz + 1) : Nat) : Int)) ∧ Mod No w w' := by
  refine calls_hide fun R hR => ?_
  obtain ⟨a, c, rfl⟩ := h.len
  have HS := Lib.hid (show ∀ nq, Calls Tryz.prog 53 #[.pointer (some ⟨b, 0, none⟩)] (w.drewN nq) fun e w' => e = .returned (.int .i64 (d.n : Int)) ∧ w' = w.drewN nq from fun nq =>
    (sectors_ok (hd.stay ((Mod.refl No w).drewN nq))).mono fun e w' ⟨h1, h2⟩ => ⟨h1, h2.symm⟩)
  have HZ := Lib.hid (show ∀ nq, Calls Tryz.prog 54 #[.pointer (some ⟨b, 0, none⟩)] (w.drewN nq) fun e w' => e = .returned (.int .i64 (d.sz : Int)) ∧ w' = w.drewN nq from fun nq =>
    (size_ok (hd.stay ((Mod.refl No w).drewN nq))).mono fun e w' ⟨h1, h2⟩ => ⟨h1, h2.symm⟩)
  have hn2 : d.n ≤ 4096 := hd.n2
  have hz2 : d.sz ≤ 4096 := hd.s2
  have hn1 : 1 ≤ d.n := hd.n1
  have hz1 : 64 ≤ d.sz := hd.s1
  have hA : d.n * d.sz ≤ 4096 * 4096 := Nat.mul_le_mul hn2 hz2
  have hA1 : 64 ≤ d.n * d.sz := Nat.le_trans hz1 (Nat.le_mul_of_pos_left d.sz hn1)
  obtain ⟨A, hAA⟩ : ∃ A, A = d.n * d.sz := ⟨_, rfl⟩
  have hc : (d.n : Int) * (d.sz : Int) = (A : Int) := by rw [hAA, Int.natCast_mul]
  rw [← hAA] at hA hA1 hR
  have b1 : (-9223372036854775808 : Int) ≤ (d.n : Int) * (d.sz : Int) := by rw [hc]; omega
  have b2 : (d.n : Int) * (d.sz : Int) ≤ 9223372036854775807 := by rw [hc]; omega
  have HC := Lib.hid hc
  have H := Lib.hid h
  have HL := Lib.hid hl
  clear h hl hd hn2 hz2 hn1 hz1 hAA hc
  go_enter Tryz.func90, Tryz.ntmps90
  go_upto_region 1 with fail
  go_quiet (first | (go_at_call 53; with_reducible refine Calls.quiet_of_same (HS.out _)) | (go_at_call 54; with_reducible refine Calls.quiet_of_same (HZ.out _)))
  generalize hw2 : World.drewN w _ = w2
  have M2 := Lib.hid (show Mod No w w2 by rw [← hw2]; exact (Mod.refl No w).drewN _)
  have H2 := Lib.hid (H.out.stay M2.out)
  clear hw2 H HS HZ c0
  rw [HC.out]
  go_wp2_with fail
  go_loopw [6, 26] (fun x i wr => wr = w2 ∧ ∃ k : Nat, k ≤ rs.length ∧ i = .int .i64 k ∧ x = .int .i64 ((min (32 + (bodyB (rs.take k)).length) (A + 1) : Nat) : Int)) (fun _ i _ => rs.length - (intOf i).toNat)
  case atStart => exact ⟨rfl, 0, by omega, rfl, by
    have : min (32 + (bodyB (rs.take 0)).length) (A + 1) = 32 := by
      have : (bodyB (rs.take 0)).length = 0 := by simp [bodyB]
      omega
    rw [this]; rfl⟩
  case round =>
    obtain ⟨rfl, k, hk, rfl, rfl⟩ := hrel
    have hk0 : (0 : Int) ≤ (k : Int) := Int.natCast_nonneg _
    by_cases hlt : k < rs.length
    · have hk1 : (k : Int) < (rs.length : Int) := by omega
      obtain ⟨g, o, c', u, hv, hu, hsl⟩ := H2.out.at_ hlt
      cases hv
      obtain ⟨ua, uc, rfl⟩ := hsl.len
      have hrl := HL.out rs[k] (List.getElem_mem hlt)
      have hbt := bodyB_take rs k hlt
      clear hsl
      obtain ⟨B, hB⟩ : ∃ B, B = (bodyB (rs.take k)).length := ⟨_, rfl⟩
      rw [← hB] at hbt
      have HBT := Lib.hid hbt
      have HB := Lib.hid hB
      rw [← hB]
      generalize hQ : min (32 + B) (A + 1) = Q
      have HQ := Lib.hid hQ
      have hQ2 : Q ≤ 16777217 := by omega
      clear hbt hB hQ
      generalize hn : rs[k].length = n at *
      clear hn
      go_wp2_with fail
      exact ⟨⟨trivial, k + 1, by omega, by go_num, by
        have h1 := HBT.out
        have h2 := HQ.out
        rw [h1]
        have : min (32 + (B + 4 + n)) (A + 1) = min (Q + 4 + n) (A + 1) := by omega
        rw [this]; go_num⟩, by go_light; simp only [intOf]; omega⟩
    · have hkn : k = rs.length := by omega
      subst hkn
      go_wp2_with fail
      exact fin hR ⟨by rw [List.take_length]; rfl, M2.out⟩

end Go.Proofs.YtkeopmfmlciadaaGreat
