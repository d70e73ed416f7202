/-
  haversackhelp.Place; what else is told of a disk beside others. No statement is proved here; no condition.
-/
import Derived.Test.YtnchclleiccofaaLaw3
namespace Go.Proofs.Ytnchclleiccofaa
open Go.RowKit Go.Maps

theorem place_eq (k n : Int) (hn : 0 < n) (hk : k < 0) : k % n = (if k.tmod n < 0 then k.tmod n + n else k.tmod n) ∧ -n < k.tmod n ∧ k.tmod n ≤ 0 := by
  have h := Int.tmod_eq_emod (a := k) (b := n)
  have q4 := Int.emod_nonneg k (by omega : n ≠ 0)
  have q5 := Int.emod_lt_of_pos k hn
  rw [h]
  split
  · rename_i h1
    rcases h1 with h1 | h1
    · omega
    · have := Int.emod_eq_zero_of_dvd h1
      simp [this]; omega
  · have : (n.natAbs : Int) = n := by omega
    rw [this, if_pos (by omega)]; omega

set_option maxRecDepth 100000 in
set_option maxHeartbeats 400000 in
theorem place_any (k : Int) (n : Int) (w : World) (hn : 0 < n) (hn2 : n ≤ 1000000000) :
    Calls Try.prog 21 #[.int .i64 k, .int .i64 n] w fun e w' => e = .returned (.int .i64 (k % n)) ∧ w = w' := by
  refine calls_hide fun R hR => ?_
  have hnz : (n == 0) = false := by simp; omega
  rcases Int.lt_or_le k 0 with h0 | h0
  · obtain ⟨e1, b1, b2⟩ := place_eq k n hn h0
    have E1 := Lib.hid e1
    clear e1
    go_enter Try.func21, Try.ntmps21
    go_wp2
    · rename_i ht
      refine fin hR ⟨?_, rfl⟩
      rw [E1.out, if_pos ht]; rfl
    · rename_i ht
      refine fin hR ⟨?_, rfl⟩
      rw [E1.out, if_neg (by omega)]; rfl
  · have q4 := Int.emod_nonneg k (by omega : n ≠ 0)
    go_enter Try.func21, Try.ntmps21
    go_wp2
    exact fin hR ⟨rfl, rfl⟩

theorem DkAt.avoid {w : World} {X : Nat → Prop} {b sb mb : Nat} {d : Dk} (h : DkAt w X b sb mb d) : DkAt w (fun q => X q ∨ w.heap.size ≤ q) b sb mb d := by
  obtain ⟨cur, hc⟩ := h.sure
  obtain ⟨D, hD⟩ := h.dirty
  exact ⟨h.obj, ⟨cur, hc.heap, hc.len, fun i hi => let ⟨v, e, s⟩ := hc.cell i hi; ⟨v, e, s.avoid⟩⟩, ⟨D, hD.mp, hD.keys, hD.gone, fun i l hi hd => let ⟨a, v, e, s⟩ := hD.here i l hi hd; ⟨a, v, e, s.avoid⟩⟩,
    h.lenS, h.lenD, h.n1, h.n2, h.s1, h.s2, h.c1, h.c2⟩
theorem DkAt.shrink {w : World} {X Y : Nat → Prop} {b sb mb : Nat} {d : Dk} (h : DkAt w X b sb mb d) (hy : ∀ k, k < w.heap.size → Y k → X k) : DkAt w Y b sb mb d := by
  obtain ⟨cur, hc⟩ := h.sure
  obtain ⟨D, hD⟩ := h.dirty
  exact ⟨h.obj, ⟨cur, hc.heap, hc.len, fun i hi => let ⟨v, e, s⟩ := hc.cell i hi; ⟨v, e, s.shrink hy⟩⟩, ⟨D, hD.mp, hD.keys, hD.gone, fun i l hi hd => let ⟨a, v, e, s⟩ := hD.here i l hi hd; ⟨a, v, e, s.shrink hy⟩⟩,
    h.lenS, h.lenD, h.n1, h.n2, h.s1, h.s2, h.c1, h.c2⟩

/-- Another disk beside: its calls turn nothing of this one. -/
theorem DkAt.beside {w w' : World} {X Y : Nat → Prop} {b sb mb b' sb' mb' : Nat} {d d' : Dk} (h : DkAt w X b sb mb d) (h' : DkAt w Y b' sb' mb' d') (hm : Mod (Own3 b' sb' mb') w w') (hn : ∀ q, Own3 b sb mb q → ¬ Own3 b' sb' mb' q) : DkAt w' X b sb mb d :=
  h.keep hm (hn b (.inl rfl)) (hn sb (.inr (.inl rfl))) (hn mb (.inr (.inr rfl))) fun _ hq => .inr fun cur fz => h'.not_bytes hq cur fz

theorem own2_own3 {b sb mb : Nat} : ∀ q, Own2 b mb q → Own3 b sb mb q := fun _ h => h.elim .inl fun e => .inr (.inr e)

end Go.Proofs.Ytnchclleiccofaa
