/-
  The law DiskPlays: its model in memory; power and crash of the model. No statement is proved here; no condition.
-/
import Derived.Test.YtjmnpfbinjlegaaSure
namespace Go.Proofs.Ytjmnpfbinjlegaa
open Go.RowKit Go.Maps

/-- The model's flags. -/
structure FlAt (w : World) (fb n : Nat) (f : Nat → Bool) (cur : Array Value) : Prop where
  heap : w.heap[fb]? = some (.cells cur 4 (0, 0))
  cell : ∀ i, i < n → cur[i]? = some (.bool (f i))

def fresh (d : Dk) (i : Nat) : Bool := (d.dirty i).isSome

/-- The model in memory: what was written last, what is sure, what is fresh, the power, the cut. -/
structure MdAt (w : World) (q lb sb fb : Nat) (d : Dk) : Prop where
  obj : ∃ lc sc fc nn, w.heap[q]? = some (.cells #[.slice (some ⟨lb, 0, none⟩) d.n lc, .slice (some ⟨sb, 0, none⟩) d.n sc, .slice (some ⟨fb, 0, none⟩) d.n fc, .bool d.dead, .bool (decide (d.cut ≠ -1)), .int .i64 nn] 48 (0, 0)) ∧ (d.cut ≠ -1 → nn = d.cut) ∧ d.n ≤ lc ∧ lc ≤ maxLen ∧ d.n ≤ sc ∧ sc ≤ maxLen ∧ d.n ≤ fc ∧ fc ≤ maxLen
  l : ∃ cur, SureAt w No lb d.n d.sz d.last cur
  s : ∃ cur, SureAt w No sb d.n d.sz d.sure cur
  f : ∃ cur, FlAt w fb d.n (fresh d) cur
  ne : lb ≠ sb
  lenL : ∀ i, i < d.n → (d.last i).length = d.sz
  lenS : ∀ i, i < d.n → (d.sure i).length = d.sz
  n1 : 1 ≤ d.n
  n2 : d.n ≤ 4096
  s1 : 64 ≤ d.sz
  s2 : d.sz ≤ 4096
  c1 : -1 ≤ d.cut
  c2 : d.cut ≤ 9223372036854775807

def Own4 (q lb sb fb : Nat) : Nat → Prop := fun k => k = q ∨ k = lb ∨ k = sb ∨ k = fb

theorem SureAt.set {w : World} {X : Nat → Prop} {sb n sz : Nat} {f : Nat → List UInt8} {cur : Array Value} (h : SureAt w X sb n sz f cur) {i : Nat} (hi : i < n) {v : Value} {l : List UInt8} (hv : Sl w X 5 v sz (bv l)) :
    SureAt (w.setCell ⟨sb, i, none⟩ v) X sb n sz (fun k => if k = i then l else f k) (cur.setIfInBounds i v) := by
  have hm : Mod (· = sb) w (w.setCell ⟨sb, i, none⟩ v) := (Mod.refl (· = sb) w).setCell (fun _ => rfl) _
  have hb : Beside w X (· = sb) := fun k hk => .inr fun cur' fz e => by subst hk; rw [h.heap] at e; cases e
  refine ⟨heap_setCell h.heap v, by rw [Array.size_setIfInBounds]; exact h.len, fun j hj => ?_⟩
  by_cases e : j = i
  · subst e
    exact ⟨v, by rw [Array.getElem?_setIfInBounds_self_of_lt (by have := h.len; omega)], by rw [if_pos rfl]; exact hv.beside hm hb⟩
  · obtain ⟨u, hu, hs⟩ := h.cell j hj
    exact ⟨u, by rw [Array.getElem?_setIfInBounds_ne (Ne.symm e)]; exact hu, by rw [if_neg e]; exact hs.beside hm hb⟩

theorem SureAt.congr {w : World} {X : Nat → Prop} {sb n sz : Nat} {f g : Nat → List UInt8} {cur : Array Value} (h : SureAt w X sb n sz f cur) (e : ∀ i, i < n → f i = g i) : SureAt w X sb n sz g cur :=
  ⟨h.heap, h.len, fun i hi => by rw [← e i hi]; exact h.cell i hi⟩

theorem FlAt.keep {S : Nat → Prop} {w w' : World} {fb n : Nat} {f : Nat → Bool} {cur : Array Value} (h : FlAt w fb n f cur) (hm : Mod S w w') (hs : ¬ S fb) : FlAt w' fb n f cur := ⟨hm.keep h.heap hs, h.cell⟩
theorem FlAt.set {w : World} {fb n : Nat} {f : Nat → Bool} {cur : Array Value} (h : FlAt w fb n f cur) {i : Nat} (hi : i < n) (v : Bool) :
    FlAt (w.setCell ⟨fb, i, none⟩ (.bool v)) fb n (fun k => if k = i then v else f k) (cur.setIfInBounds i (.bool v)) := by
  refine ⟨heap_setCell h.heap _, fun j hj => ?_⟩
  by_cases e : j = i
  · subst e
    rw [if_pos rfl, Array.getElem?_setIfInBounds_self_of_lt (Array.getElem?_eq_some_iff.1 (h.cell j hi)).1]
  · rw [if_neg e, Array.getElem?_setIfInBounds_ne (Ne.symm e)]; exact h.cell j hj
theorem FlAt.congr {w : World} {fb n : Nat} {f g : Nat → Bool} {cur : Array Value} (h : FlAt w fb n f cur) (e : ∀ i, i < n → f i = g i) : FlAt w fb n g cur :=
  ⟨h.heap, fun i hi => by rw [← e i hi]; exact h.cell i hi⟩

theorem MdAt.diff {w : World} {q lb sb fb : Nat} {d : Dk} (h : MdAt w q lb sb fb d) : q ≠ lb ∧ q ≠ sb ∧ q ≠ fb ∧ lb ≠ sb ∧ lb ≠ fb ∧ sb ≠ fb := by
  obtain ⟨_, _, _, _, ho, _⟩ := h.obj
  obtain ⟨_, hl⟩ := h.l
  obtain ⟨_, hs⟩ := h.s
  obtain ⟨_, hf⟩ := h.f
  have hl := hl.heap
  have hs := hs.heap
  have hf := hf.heap
  refine ⟨fun e => ?_, fun e => ?_, fun e => ?_, h.ne, fun e => ?_, fun e => ?_⟩
  · subst e; rw [ho] at hl; cases hl
  · subst e; rw [ho] at hs; cases hs
  · subst e; rw [ho] at hf; cases hf
  · subst e; rw [hl] at hf; cases hf
  · subst e; rw [hs] at hf; cases hf

theorem MdAt.keep {S : Nat → Prop} {w w' : World} {q lb sb fb : Nat} {d : Dk} (h : MdAt w q lb sb fb d) (hm : Mod S w w') (hs : ∀ k, Own4 q lb sb fb k → ¬ S k) (hb : Beside w No S) : MdAt w' q lb sb fb d := by
  obtain ⟨lc, sc, fc, nn, ho, r⟩ := h.obj
  obtain ⟨_, hl⟩ := h.l
  obtain ⟨_, hr⟩ := h.s
  obtain ⟨_, hf⟩ := h.f
  exact ⟨⟨lc, sc, fc, nn, hm.keep ho (hs q (.inl rfl)), r⟩, ⟨_, hl.keep hm (hs lb (.inr (.inl rfl))) hb⟩, ⟨_, hr.keep hm (hs sb (.inr (.inr (.inl rfl)))) hb⟩, ⟨_, hf.keep hm (hs fb (.inr (.inr (.inr rfl))))⟩,
    h.ne, h.lenL, h.lenS, h.n1, h.n2, h.s1, h.s2, h.c1, h.c2⟩
theorem MdAt.stay {w w' : World} {q lb sb fb : Nat} {d : Dk} (h : MdAt w q lb sb fb d) (hm : Mod No w w') : MdAt w' q lb sb fb d := h.keep hm (fun _ _ f => f) (beside_no _ _)

/-- The struct alone turns. -/
theorem MdAt.turned {w w' : World} {q lb sb fb : Nat} {d d' : Dk} {lc sc fc : Nat} {nn : Int} (h : MdAt w q lb sb fb d) (hm : Mod (· = q) w w') (h1 : d'.n = d.n) (h2 : d'.sz = d.sz) (h3 : d'.sure = d.sure) (h4 : d'.dirty = d.dirty)
    (ho : w'.heap[q]? = some (.cells #[.slice (some ⟨lb, 0, none⟩) d.n lc, .slice (some ⟨sb, 0, none⟩) d.n sc, .slice (some ⟨fb, 0, none⟩) d.n fc, .bool d'.dead, .bool (decide (d'.cut ≠ -1)), .int .i64 nn] 48 (0, 0))) (hn : d'.cut ≠ -1 → nn = d'.cut)
    (hc : d.n ≤ lc ∧ lc ≤ maxLen ∧ d.n ≤ sc ∧ sc ≤ maxLen ∧ d.n ≤ fc ∧ fc ≤ maxLen) (c1 : -1 ≤ d'.cut) (c2 : d'.cut ≤ 9223372036854775807) : MdAt w' q lb sb fb d' := by
  obtain ⟨e1, e2, e3, e4, e5, e6⟩ := h.diff
  have hb : Beside w No (· = q) := fun k hk => .inr fun cur' fz e => by
    obtain ⟨_, _, _, _, ho, _⟩ := h.obj
    subst hk; rw [ho] at e; cases e
  have hl : d'.last = d.last := by funext i; unfold Dk.last; rw [h3, h4]
  have hf : fresh d' = fresh d := by funext i; unfold fresh; rw [h4]
  obtain ⟨_, hl1⟩ := h.l
  obtain ⟨_, hr⟩ := h.s
  obtain ⟨_, hfl⟩ := h.f
  refine ⟨⟨lc, sc, fc, nn, by rw [h1]; exact ho, hn, by rw [h1]; exact hc⟩, ⟨_, by rw [h1, h2, hl]; exact hl1.keep hm (Ne.symm e1) hb⟩, ⟨_, by rw [h1, h2, h3]; exact hr.keep hm (Ne.symm e2) hb⟩, ⟨_, by rw [h1, hf]; exact hfl.keep hm (Ne.symm e3)⟩,
    h.ne, ?_, ?_, by rw [h1]; exact h.n1, by rw [h1]; exact h.n2, by rw [h2]; exact h.s1, by rw [h2]; exact h.s2, c1, c2⟩
  · rw [h1, h2, hl]; exact h.lenL
  · rw [h1, h2, h3]; exact h.lenS

set_option maxHeartbeats 800000 in
theorem mpower_any (q lb sb fb : Nat) (d : Dk) (w : World) (h : MdAt w q lb sb fb d) :
    Calls Try.prog 17 #[.pointer (some ⟨q, 0, none⟩)] w fun e w' => e = .returned (.bool (decide (d.cut ≠ 0))) ∧ MdAt w' q lb sb fb d.power ∧ Mod (· = q) w w' := by
  obtain ⟨lc, sc, fc, nn, ho, hnn, hc⟩ := h.obj
  have H := Lib.hid h
  have HC := Lib.hid hc
  have h1 := h.c1
  have h2 := h.c2
  clear h hc
  refine calls_hide fun R hR => ?_
  by_cases e1 : d.cut = -1
  · have hd : decide (d.cut ≠ -1) = false := by simp [e1]
    rw [hd] at ho
    have c4 := cell_of (i := 4) ho rfl
    have HA := Lib.hid (show decide (d.cut ≠ 0) = true from by simp [e1])
    have HO := Lib.hid ho
    have hp : d.power = d := by unfold Dk.power; rw [if_neg (by omega), if_neg (by omega)]
    have HP := Lib.hid hp
    clear ho hd hp hnn
    go_enter Try.func17, Try.ntmps17
    go_wp2_with fail
    exact fin hR ⟨by rw [HA.out]; rfl, by rw [HP.out]; exact H.out, Mod.refl _ _⟩
  · have hn := hnn e1
    subst hn
    have hd : decide (d.cut ≠ -1) = true := by simp [e1]
    rw [hd] at ho
    have c4 := cell_of (i := 4) ho rfl
    have c5 := cell_of (i := 5) ho rfl
    have c3 := cell_of (i := 3) ho rfl
    have f3 := frozen_of 3 ho
    have f5 := frozen_of 5 ho
    have hmod : ∀ i u, Mod (· = q) w (w.setCell ⟨q, i, none⟩ u) := fun i u => (Mod.refl (· = q) w).setCell (fun _ => rfl) _
    have hset := fun i u => heap_setCell (i := i) ho u
    have HM := Lib.hid hmod
    have HS := Lib.hid hset
    have HO := Lib.hid ho
    have E1 := Lib.hid e1
    clear ho hd hnn hmod hset e1
    by_cases e0 : d.cut = 0
    · have hz : (d.cut == 0) = true := by simpa using e0
      have HA := Lib.hid (show decide (d.cut ≠ 0) = false from by simp [e0])
      have E0 := Lib.hid e0
      go_enter Try.func17, Try.ntmps17
      go_wp2_with fail
      refine fin hR ⟨by rw [HA.out]; rfl, H.out.turned (d' := d.power) (HM.out _ _) rfl rfl rfl rfl (nn := d.cut) ?_ ?_ HC.out ?_ ?_, HM.out _ _⟩
      · rw [HS.out]
        have hp : d.power = { d with dead := true } := by unfold Dk.power; rw [E0.out]; rfl
        rw [hp]
        simp [E1.out]
      · intro _; unfold Dk.power; rw [E0.out]; rfl
      · have hp : d.power.cut = 0 := by unfold Dk.power; rw [E0.out]; rfl
        omega
      · have hp : d.power.cut = 0 := by unfold Dk.power; rw [E0.out]; rfl
        omega
    · have hz : (d.cut == 0) = false := by simpa using e0
      have HA := Lib.hid (show decide (d.cut ≠ 0) = true from by simp [e0])
      have E0 := Lib.hid e0
      have h3 : 0 < d.cut := by have := E1.out; omega
      go_enter Try.func17, Try.ntmps17
      go_wp2_with fail
      have hp : d.power = { d with cut := d.cut - 1 } := by unfold Dk.power; rw [if_pos h3, if_neg E0.out]
      refine fin hR ⟨by rw [HA.out]; rfl, H.out.turned (d' := d.power) (HM.out _ _) rfl rfl rfl rfl (nn := d.cut - 1) ?_ ?_ HC.out ?_ ?_, HM.out _ _⟩
      · rw [HS.out, hp]
        have h4 : decide (d.cut - 1 ≠ -1) = true := decide_eq_true (by omega)
        rw [h4]
        rfl
      · intro _; rw [hp]
      · rw [hp]; show -1 ≤ d.cut - 1; omega
      · rw [hp]; show d.cut - 1 ≤ 9223372036854775807; omega


end Go.Proofs.Ytjmnpfbinjlegaa
