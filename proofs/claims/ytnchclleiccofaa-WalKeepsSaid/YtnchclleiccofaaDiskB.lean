/-
  Layer 3, the disk: its representation; slices.Clone at bytes; Read. No statement is proved here; no condition.
-/
import Derived.Test.YtnchclleiccofaaDisk
import Derived.Test.YtnchclleiccofaaMap
namespace Go.Proofs.Ytnchclleiccofaa
open Go.RowKit Go.Maps

theorem info_u8 : (Try.prog.info? 5).map (fun i => (i.zero, i.size, i.bytes)) = some (some (.int .u8 0), 1, 1) := by kernel_rfl
theorem info_bs : (Try.prog.info? 33).map (fun i => (i.zero, i.size, i.bytes)) = some (some (.slice none 0 0), 1, 24) := by kernel_rfl

set_option maxRecDepth 100000 in
set_option maxHeartbeats 400000 in
theorem clone_bytes (X : Nat → Prop) (v : Value) (l : List Value) (w : World) (h : Sl w X 5 v l.length l) (h1 : ∀ u ∈ l, u.oneCell' = true) (hsz : l.length ≤ 140737488355328) :
    Calls Try.prog 40 #[v] w fun e w' => ∃ v', e = .returned v' ∧ w'.ownsRow w.heap.size 5 1 v' l.length l ∧ (v' = .slice none 0 0 ↔ v = .slice none 0 0) ∧ Mod No w w' := by
  obtain ⟨i0, hi, hz0, hz1, hz2⟩ := info_parts info_u8
  refine calls_hide fun R hR => ?_
  have H := Lib.hid h
  rcases h with ⟨rfl, hn, hl⟩ | ⟨blk, of, c, cur, fz, rfl, hn, hc, hX, hh, hle, hr⟩
  · have hl' := Lib.hid hl
    clear hn hl
    have e1 := Lib.run_eql_slice_nil (P := Try.prog)
    go_enter Try.func40, Try.ntmps40
    go_wp2
    refine fin hR ⟨.slice none 0 0, rfl, ?_, by simp, Mod.refl _ _⟩
    rw [hl'.out]
    exact World.ownsRow_nil _ _ _ _
  · clear hh hr hle
    have e1 := Lib.run_eql_slice_nil (P := Try.prog)
    have hown : (w.alloc (.cells #[] 5)).ownsRow w.heap.size 5 1 (.slice (some ⟨w.heap.size, 0, none⟩) 0 0) 0 [] := World.ownsRow_lit w #[] 0 (Nat.le_refl _) (by unfold maxLen; omega) rfl
    have hsl : Sl (w.alloc (.cells #[] 5)) X 5 (.slice (some ⟨blk, of, none⟩) l.length c) l.length l := H.out.keep (S := No) ((Mod.refl No w).alloc _) (fun _ _ _ f => f.elim)
    have HO := Lib.hid hown
    have HS := Lib.hid hsl
    clear hown hsl
    go_enter Try.func40, Try.ntmps40
    go_wp2_with (at_builtin; refine app_sl _ rfl _ _ 33 rfl w.heap.size 5 i0 (.int .u8 0) 1 1 Try.underlying33 hi hz0 hz1 hz2 rfl (by decide) _ _ _ rfl HO.out X 5 _ _ _ rfl HS.out ?_ h1 ?_ ?_ ?_ ?_)
    · simp
    · unfold maxLen; omega
    · omega
    · simp
    intro v' w1 hown' hg hnil
    have HO' := Lib.hid hown'
    have HG := Lib.hid hg
    have HN := Lib.hid hnil
    clear hown' hg hnil
    go_wp2
    refine fin hR ⟨v', rfl, HO'.out, ?_, ?_⟩
    · simp [HN.out]
    · exact ((Mod.refl No w).alloc _).then (Mod.of_grown (S := fun k => k = w.heap.size) HG.out (by rintro k ⟨⟩ _; rfl)) (fun i hi e => by subst e; omega)

/-- A disk, as the document has it: how many sectors, how great; what is sure, what was written since; behind how many writes the power goes (-1: never); whether it is gone. -/
structure Dk where
  n : Nat
  sz : Nat
  sure : Nat → List UInt8
  dirty : Nat → Option (List UInt8)
  cut : Int
  dead : Bool

/-- A sector, as it was written last. -/
def Dk.last (d : Dk) (i : Nat) : List UInt8 := (d.dirty i).getD (d.sure i)

theorem key_int : Keyed Try.prog 3 := int_keyed Try.underlying3
theorem keyOf_nat (i : Nat) (h : i ≤ 9223372036854775807) : keyOf Try.prog 3 (.int .i64 (i : Int)) = some (.int .i64 (i : Int)) :=
  keyOf_int_mk Try.underlying3 (WalkArith.wf_i64 (by omega))

/-- The map of what was written. -/
structure DirtyAt (w : World) (X : Nat → Prop) (mb n sz : Nat) (dirty : Nat → Option (List UInt8)) (D : DataW Value) : Prop where
  mp : Mp w 3 mb D
  keys : ∀ kl, Maps.has D kl = true → ∃ i : Nat, i < n ∧ kl = .int .i64 (i : Int)
  gone : ∀ i, i < n → dirty i = none → Maps.has D (.int .i64 (i : Int)) = false
  here : ∀ i l, i < n → dirty i = some l → Maps.has D (.int .i64 (i : Int)) = true ∧ ∃ v, (∀ zd, D.atKey (.int .i64 (i : Int)) zd = .held v) ∧ Sl w X 5 v sz (bv l)

/-- The sectors that are sure. -/
structure SureAt (w : World) (X : Nat → Prop) (sb n sz : Nat) (sure : Nat → List UInt8) (cur : Array Value) : Prop where
  heap : w.heap[sb]? = some (.cells cur 33 (0, 0))
  len : n ≤ cur.size
  cell : ∀ i, i < n → ∃ v, cur[i]? = some v ∧ Sl w X 5 v sz (bv (sure i))

/-- A disk in memory: its struct, its sure sectors, its map; no bytes of its own lie in X. -/
structure DkAt (w : World) (X : Nat → Prop) (b sb mb : Nat) (d : Dk) : Prop where
  obj : ∃ sc, w.heap[b]? = some (.cells #[.slice (some ⟨sb, 0, none⟩) d.n sc, .map (some mb), .int .i64 d.cut, .bool d.dead] 31 (0, 0)) ∧ d.n ≤ sc ∧ sc ≤ maxLen
  sure : ∃ cur, SureAt w X sb d.n d.sz d.sure cur
  dirty : ∃ D, DirtyAt w X mb d.n d.sz d.dirty D
  lenS : ∀ i, i < d.n → (d.sure i).length = d.sz
  lenD : ∀ i l, i < d.n → d.dirty i = some l → l.length = d.sz
  n1 : 1 ≤ d.n
  n2 : d.n ≤ 4096
  s1 : 64 ≤ d.sz
  s2 : d.sz ≤ 4096
  c1 : -1 ≤ d.cut
  c2 : d.cut ≤ 9223372036854775807

/-- What may turn beside a disk: nothing of its own, no bytes but those of X. -/
def Beside (w : World) (X : Nat → Prop) (S : Nat → Prop) : Prop := ∀ k, S k → X k ∨ ∀ cur fz, w.heap[k]? ≠ some (.cells cur 5 fz)

theorem Sl.beside {S X : Nat → Prop} {w w' : World} {v : Value} {n : Nat} {xs : List Value} (h : Sl w X 5 v n xs) (hm : Mod S w w') (hs : Beside w X S) : Sl w' X 5 v n xs :=
  h.keep hm fun k cur fz s nx => (hs k s).elim (fun x => absurd x nx) (fun g => g cur fz)

theorem DirtyAt.keep {S X : Nat → Prop} {w w' : World} {mb n sz : Nat} {dirty : Nat → Option (List UInt8)} {D : DataW Value} (h : DirtyAt w X mb n sz dirty D) (hm : Mod S w w') (h1 : ¬ S mb) (hs : Beside w X S) : DirtyAt w' X mb n sz dirty D :=
  ⟨h.mp.keep hm h1, h.keys, h.gone, fun i l hi hd => let ⟨a, v, e, r⟩ := h.here i l hi hd; ⟨a, v, e, r.beside hm hs⟩⟩

theorem SureAt.keep {S X : Nat → Prop} {w w' : World} {sb n sz : Nat} {sure : Nat → List UInt8} {cur : Array Value} (h : SureAt w X sb n sz sure cur) (hm : Mod S w w') (h1 : ¬ S sb) (hs : Beside w X S) : SureAt w' X sb n sz sure cur :=
  ⟨hm.keep h.heap h1, h.len, fun i hi => let ⟨v, e, r⟩ := h.cell i hi; ⟨v, e, r.beside hm hs⟩⟩

theorem DkAt.keep {S X : Nat → Prop} {w w' : World} {b sb mb : Nat} {d : Dk} (h : DkAt w X b sb mb d) (hm : Mod S w w') (h1 : ¬ S b) (h2 : ¬ S sb) (h3 : ¬ S mb) (hs : Beside w X S) : DkAt w' X b sb mb d := by
  obtain ⟨sc, ho, r⟩ := h.obj
  obtain ⟨cur, hc⟩ := h.sure
  obtain ⟨D, hD⟩ := h.dirty
  exact ⟨⟨sc, hm.keep ho h1, r⟩, ⟨cur, hc.keep hm h2 hs⟩, ⟨D, hD.keep hm h3 hs⟩, h.lenS, h.lenD, h.n1, h.n2, h.s1, h.s2, h.c1, h.c2⟩

theorem beside_no (w : World) (X : Nat → Prop) : Beside w X No := fun _ f => f.elim

theorem DkAt.stay {X : Nat → Prop} {w w' : World} {b sb mb : Nat} {d : Dk} (h : DkAt w X b sb mb d) (hm : Mod No w w') : DkAt w' X b sb mb d :=
  h.keep hm (fun f => f) (fun f => f) (fun f => f) (beside_no _ _)

theorem DirtyAt.size {X : Nat → Prop} {w : World} {mb n sz : Nat} {dirty : Nat → Option (List UInt8)} {D : DataW Value} (h : DirtyAt w X mb n sz dirty D) : Maps.size D ≤ n := by
  refine size_le_of_range (q := .i64) (h.mp.tidy key_int) h.keys fun es hD p hp => ?_
  have h1 := h.keys p.1
  subst hD
  obtain ⟨es', clock, hb, F, _, he⟩ := h.mp
  have hk := Maps.fit_keys F
  cases he
  have hp' : p ∈ es'.toList.map (Go.WideElems.rg Try.prog 3 heldR) := (Go.WideShapes.sorted_perm _).mem_iff.1 hp
  obtain ⟨v, hv⟩ := hk p hp'
  obtain ⟨x, _, hx, _⟩ := Maps.keyOf_int_inv Try.underlying3 hv
  exact ⟨x, hx⟩

theorem DkAt.mb_ne {X : Nat → Prop} {w : World} {b sb mb : Nat} {d : Dk} (h : DkAt w X b sb mb d) : b ≠ sb ∧ b ≠ mb ∧ sb ≠ mb := by
  obtain ⟨sc, ho, _⟩ := h.obj
  obtain ⟨cur, hc⟩ := h.sure
  obtain ⟨D, hD⟩ := h.dirty
  obtain ⟨es, clock, hm⟩ := hD.mp.heap
  have hs := hc.heap
  refine ⟨fun e => ?_, fun e => ?_, fun e => ?_⟩
  · subst e; rw [ho] at hs; cases hs
  · subst e; rw [ho] at hm; cases hm
  · subst e; rw [hs] at hm; cases hm

theorem zero_bs (w : World) : (zeroValue 33).run Try.prog w = .ok (.slice none 0 0) w := zero_of (by kernel_rfl)

set_option maxRecDepth 100000 in
set_option maxHeartbeats 400000 in
theorem read_any (X : Nat → Prop) (b sb mb : Nat) (d : Dk) (i : Int) (w : World) (h : DkAt w X b sb mb d) :
    Calls Try.prog 20 #[.pointer (some ⟨b, 0, none⟩), .int .i64 i] w fun e w' => ∃ v, e = .returned (.tuple #[v, .int .i64 (atE d.dead i d.n)]) ∧ Mod No w w' ∧
      (atE d.dead i d.n ≠ 0 → v = .slice none 0 0) ∧ (atE d.dead i d.n = 0 → w'.ownsRow w.heap.size 5 1 v d.sz (bv (d.last i.toNat))) := by
  obtain ⟨sc, ho, hsc1, hsc2⟩ := h.obj
  obtain ⟨cur, hc⟩ := h.sure
  obtain ⟨D, hD⟩ := h.dirty
  refine calls_hide fun R hR => ?_
  have c0 := cell_of (i := 0) ho rfl
  have c1 := cell_of (i := 1) ho rfl
  have HA := Lib.hid (at_any b _ _ _ _ _ _ i w ho)
  by_cases hE : atE d.dead i d.n = 0
  · have hi : 0 ≤ i ∧ i < d.n ∧ d.dead = false := by
      unfold atE at hE
      split at hE
      · omega
      · split at hE
        · omega
        · rename_i h1 h2; simp at h1; exact ⟨by omega, by omega, h1⟩
    obtain ⟨k, rfl⟩ := Int.eq_ofNat_of_zero_le hi.1
    have hk : k < d.n := by omega
    have hkn : d.n ≤ 4096 := h.n2
    have hs2 : d.sz ≤ 4096 := h.s2
    rw [hE] at HA hR
    obtain ⟨v, hv, hsl⟩ := hc.cell k hk
    have cs := cell_ofA hc.heap hv
    have hkey := keyOf_nat k (by omega)
    have e1 := Lib.hid (h.lenS k hk)
    have hlast := Lib.hid (show d.last k = (d.dirty k).getD (d.sure k) from rfl)
    clear hE ho hc hi hv
    cases hd : d.dirty k with
    | none =>
      have hl := hD.mp.look_miss key_int Try.underlying27 (zero_bs w) hkey (hD.gone k hk hd)
      have HC := Lib.hid (clone_bytes X v (bv (d.sure k)) w (by rw [bv_length, e1.out]; exact hsl) (bv_one _) (by rw [bv_length, e1.out]; omega))
      have Hd := Lib.hid hd
      clear hkey hD hsl h hd
      go_enter Try.func20, Try.ntmps20
      go_wp2_with (first | (go_at_call 38; refine HA.out.mono ?_; rintro e w' ⟨rfl, rfl⟩) | (go_at_call 40; refine HC.out.mono ?_; rintro e w' ⟨v', rfl, hown, hnil, hm⟩; have HO := Lib.hid hown; have HM := Lib.hid hm; clear hown hnil hm))
      refine fin hR ⟨v', rfl, HM.out, by simp, fun _ => ?_⟩
      have := HO.out
      rw [bv_length, e1.out] at this
      rw [show Int.toNat (k : Int) = k by omega, hlast.out, Hd.out]
      exact this
    | some l =>
      obtain ⟨hh, v2, hat, hsl2⟩ := hD.here k l hk hd
      have hl := hD.mp.look_hit key_int Try.underlying27 (zero_bs w) hkey hh hat
      have e2 := Lib.hid (h.lenD k l hk hd)
      have HC := Lib.hid (clone_bytes X v2 (bv l) w (by rw [bv_length, e2.out]; exact hsl2) (bv_one _) (by rw [bv_length, e2.out]; omega))
      have Hd := Lib.hid hd
      clear hkey hD hsl h hd hh hat hsl2
      go_enter Try.func20, Try.ntmps20
      go_wp2_with (first | (go_at_call 38; refine HA.out.mono ?_; rintro e w' ⟨rfl, rfl⟩) | (go_at_call 40; refine HC.out.mono ?_; rintro e w' ⟨v', rfl, hown, hnil, hm⟩; have HO := Lib.hid hown; have HM := Lib.hid hm; clear hown hnil hm))
      refine fin hR ⟨v', rfl, HM.out, by simp, fun _ => ?_⟩
      have := HO.out
      rw [bv_length, e2.out] at this
      rw [show Int.toNat (k : Int) = k by omega, hlast.out, Hd.out]
      exact this
  · clear hc hD h ho c0 c1
    generalize atE d.dead i d.n = E at *
    have h1 : (E != 0) = true := by simpa using hE
    have HE := Lib.hid hE
    clear hE
    go_enter Try.func20, Try.ntmps20
    go_wp2_with (go_at_call 38; refine HA.out.mono ?_; rintro e w' ⟨rfl, rfl⟩)
    exact fin hR ⟨.slice none 0 0, rfl, Mod.refl _ _, fun _ => rfl, fun h => absurd h HE.out⟩

end Go.Proofs.Ytnchclleiccofaa
