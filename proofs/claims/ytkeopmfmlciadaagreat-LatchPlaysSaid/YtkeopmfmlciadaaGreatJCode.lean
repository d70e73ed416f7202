/-
  Layer 2, the code: a truth, a text as they are asked for; whether all was read. No statement is proved here; no condition.
-/
import Derived.Test.YtkeopmfmlciadaaGreatJBaseA
import Derived.Test.YtkeopmfmlciadaaGreatJBase
import Derived.Deep.Light
import Derived.Lib.AppendStr
import Derived.Laws.Bits64b
import Derived.Defers
import Derived.Recover
namespace Go.Proofs.YtkeopmfmlciadaaGreat

/-- A number's bytes. -/
def numB (n : Nat) : List UInt8 := if h : n < 128 then [UInt8.ofNat n] else UInt8.ofNat (n % 128 + 128) :: numB (n / 128)
termination_by n
decreasing_by omega

theorem numB_lt {n : Nat} (h : n < 128) : numB n = [UInt8.ofNat n] := by rw [numB]; simp [h]
theorem numB_ge {n : Nat} (h : 128 ≤ n) : numB n = UInt8.ofNat (n % 128 + 128) :: numB (n / 128) := by rw [numB]; simp [Nat.not_lt.2 h]

theorem numB_len : ∀ (k n : Nat), n < 128 ^ (k + 1) → (numB n).length ≤ k + 1
  | k, n, h => by
    by_cases hn : n < 128
    · rw [numB_lt hn]; simp
    · rw [numB_ge (by omega)]
      match k, h with
      | 0, h => simp at h; omega
      | k + 1, h =>
        have := numB_len k (n / 128) (by rw [Nat.pow_succ] at h; exact Nat.div_lt_of_lt_mul (by rw [Nat.mul_comm]; exact h))
        simp only [List.length_cons]; omega

theorem numB_pos (n : Nat) : 0 < (numB n).length := by
  by_cases hn : n < 128
  · rw [numB_lt hn]; simp
  · rw [numB_ge (by omega)]; simp

/-- A number is read: from the i-th byte on, what was read being acc. -/
def rdNumG (i acc : Nat) : List UInt8 → Option (Nat × List UInt8)
  | [] => none
  | x :: l => if 10 ≤ i then none else if i = 9 ∧ 1 < x.toNat then none else
      if x.toNat < 128 then (if x.toNat = 0 ∧ i ≠ 0 then none else some (acc + x.toNat % 128 * 2 ^ (7 * i), l)) else rdNumG (i + 1) (acc + x.toNat % 128 * 2 ^ (7 * i)) l

def rdNum (l : List UInt8) : Option (Nat × List UInt8) := rdNumG 0 0 l

theorem rdNumG_num : ∀ (k i acc m : Nat) (l : List UInt8), i + k = 9 → m * 2 ^ (7 * i) < 18446744073709551616 → (i ≠ 0 → 0 < m) → rdNumG i acc (numB m ++ l) = some (acc + m * 2 ^ (7 * i), l) := by
  intro k
  induction k with
  | zero =>
    intro i acc m l hi hm h0
    have hi9 : i = 9 := by omega
    subst hi9
    have hm2 : m < 2 := by omega
    rw [numB_lt (by omega)]
    have hx : (UInt8.ofNat m).toNat = m := by simp; omega
    simp only [List.cons_append, List.nil_append, rdNumG, hx]
    rw [if_neg (by omega), if_neg (by omega), if_pos (by omega), if_neg (by have := h0 (by omega); omega), Nat.mod_eq_of_lt (by omega)]
  | succ k ih =>
    intro i acc m l hi hm h0
    by_cases hs : m < 128
    · rw [numB_lt hs]
      have hx : (UInt8.ofNat m).toNat = m := by simp; omega
      simp only [List.cons_append, List.nil_append, rdNumG, hx]
      rw [if_neg (by omega), if_neg (by omega), if_pos hs, if_neg (fun h => by have := h0 h.2; omega), Nat.mod_eq_of_lt hs]
    · rw [numB_ge (by omega)]
      have hx : (UInt8.ofNat (m % 128 + 128)).toNat = m % 128 + 128 := by simp; omega
      have hp : 2 ^ (7 * (i + 1)) = 128 * 2 ^ (7 * i) := by rw [show 7 * (i + 1) = 7 * i + 7 by omega, Nat.pow_add]; omega
      have hd : m / 128 * (128 * 2 ^ (7 * i)) = m / 128 * 128 * 2 ^ (7 * i) := by rw [Nat.mul_assoc]
      have hle : m / 128 * 128 * 2 ^ (7 * i) ≤ m * 2 ^ (7 * i) := Nat.mul_le_mul_right _ (by omega)
      simp only [List.cons_append, rdNumG, hx]
      rw [if_neg (by omega), if_neg (by omega), if_neg (by omega), ih (i + 1) _ (m / 128) l (by omega) (by rw [hp, hd]; omega) (fun _ => by omega)]
      congr 2
      rw [hp, hd, show (m % 128 + 128) % 128 = m % 128 by omega, Nat.add_assoc, ← Nat.add_mul]
      congr 2; omega

theorem rdNum_num (n : Nat) (l : List UInt8) (h : n < 18446744073709551616) : rdNum (numB n ++ l) = some (n, l) := by
  have := rdNumG_num 9 0 0 n l rfl (by simpa using h) (fun h => absurd rfl h)
  simpa [rdNum] using this

/-- A text's bytes; what is read of one. -/
def textB (s : List UInt8) : List UInt8 := numB s.length ++ s
def rdText (l : List UInt8) : Option (List UInt8 × List UInt8) := match rdNum l with
  | some (n, r) => if n ≤ r.length then some (r.take n, r.drop n) else none
  | none => none

theorem rdText_text (s l : List UInt8) (h : s.length < 18446744073709551616) : rdText (textB s ++ l) = some (s, l) := by
  unfold rdText textB
  rw [List.append_assoc, rdNum_num _ _ h]
  simp

def boolB (b : Bool) : List UInt8 := [if b then 1 else 0]
def rdBool : List UInt8 → Option (Bool × List UInt8)
  | [] => none
  | x :: l => if x.toNat ≤ 1 then some (x.toNat == 1, l) else none

theorem rdBool_bool (b : Bool) (l : List UInt8) : rdBool (boolB b ++ l) = some (b, l) := by
  cases b <;> rfl

end Go.Proofs.YtkeopmfmlciadaaGreat
namespace Go.Proofs.YtkeopmfmlciadaaGreat
open Go.RowKit

/-- A writer in memory, all of it from base on. -/
structure WrAt (w : World) (base q : Nat) (v : Value) (L : List UInt8) : Prop where
  obj : w.heap[q]? = some (.cells #[v] 127 (0, 0))
  own : w.ownsRow base 5 1 v L.length (bv L)
  low : base ≤ q

theorem WrAt.stay {w w' : World} {base q : Nat} {v : Value} {L : List UInt8} (h : WrAt w base q v L) (hm : Mod No w w') : WrAt w' base q v L :=
  ⟨hm.keep h.obj (fun f => f), own_keepM h.own hm (fun _ _ f => f), h.low⟩

/-- What is from base on. -/
abbrev From (base k : Nat) : Prop := base ≤ k

theorem newWriter_any (w : World) : Calls Tryz.prog 46 #[] w fun e w' => e = .returned (.pointer (some ⟨w.heap.size, 0, none⟩)) ∧ WrAt w' w.heap.size w.heap.size (.slice none 0 0) [] ∧ Mod No w w' := by
  refine calls_hide fun R hR => ?_
  go_enter Tryz.func46, Tryz.ntmps46
  go_wp2_with fail
  exact fin hR ⟨rfl, ⟨heap_alloc_new w _, World.ownsRow_nil _ _ _ _, Nat.le_refl _⟩, (Mod.refl No w).alloc _⟩

/-- What is appended to a writer's row is stored. -/
theorem WrAt.push {w w' : World} {base q : Nat} {v v' : Value} {L M : List UInt8} (h : WrAt w base q v L) (hg : w.grownBy w' v.ownBlock) (hown : w'.ownsRow base 5 1 v' (L ++ M).length (bv (L ++ M))) :
    WrAt (w'.setCell ⟨q, 0, none⟩ v') base q v' (L ++ M) ∧ Mod (From base) w (w'.setCell ⟨q, 0, none⟩ v') ∧ w'.heap[q]? = some (.cells #[v] 127 (0, 0)) := by
  have hm := Mod.of_grown (S := fun k => v.ownBlock = some k) hg (fun k e _ => e)
  have hne : ¬ v.ownBlock = some q := fun e => by
    obtain ⟨cur, hc⟩ := own_heapM h.own e
    rw [h.obj] at hc; cases hc
  have hq' := hm.keep h.obj hne
  have hms : Mod (fun k => k = q) w' (w'.setCell ⟨q, 0, none⟩ v') := (Mod.refl (fun k => k = q) w').setCell (fun _ => rfl) _
  refine ⟨⟨by rw [heap_setCell hq']; rfl, own_keepM hown hms (fun k hk e => ?_), h.low⟩, ?_, hq'⟩
  · subst e
    obtain ⟨cur, hc⟩ := own_heapM hown hk
    rw [hq'] at hc; cases hc
  · exact (hm.weaken fun k _ e => (h.own.lt _ e).1).trans (hms.weaken fun k _ e => by subst e; exact h.low)

theorem or128 (x : Nat) : bits .or .u8 ((x : Int) % 256) 128 = ((x % 128 + 128 : Nat) : Int) := by
  have h1 : (x : Int) % 256 = ((x % 256 : Nat) : Int) := by omega
  have : ∀ y : Fin 256, bits .or .u8 ((y.val : Nat) : Int) 128 = ((y.val % 128 + 128 : Nat) : Int) := by decide +kernel
  rw [h1]
  have h2 := this ⟨x % 256, Nat.mod_lt _ (by decide)⟩
  dsimp only at h2
  rw [h2, show x % 256 % 128 = x % 128 by omega]

end Go.Proofs.YtkeopmfmlciadaaGreat
namespace Go.Proofs.YtkeopmfmlciadaaGreat
open Go.RowKit

theorem numB_bound (n : Nat) (h : n < 18446744073709551616) : (numB n).length ≤ 10 := numB_len 9 n (by omega)

set_option maxRecDepth 100000 in
set_option maxHeartbeats 4000000 in
theorem wnum_any {w : World} {base q : Nat} {v0 : Value} {L : List UInt8} (h : WrAt w base q v0 L) (hL : L.length ≤ 1000000000) (hb : base ≤ w.heap.size) {a : Addr} {c n : Nat} (c0 : w.cell? ⟨a.block, a.off, none⟩ = some (.int .u64 (n : Int))) (ha : a.spot = none) (hn : n < 18446744073709551616) :
    Calls Tryz.prog 47 #[.pointer (some ⟨q, 0, none⟩), .slice (some a) 1 c] w fun e w' => ∃ v, e = .returned (.tuple #[]) ∧ WrAt w' base q v (L ++ numB n) ∧ Mod (From base) w w' := by
  obtain ⟨i0, hi, hz0, hz1, hz2⟩ := info_parts info_u8
  refine calls_hide fun R hR => ?_
  obtain ⟨ab, ao, sp⟩ := a
  dsimp only at c0 ha
  subst ha
  have hnb := numB_bound n hn
  have H := Lib.hid h
  have HN := Lib.hid hn
  have HNB := Lib.hid hnb
  have hn64 : (n : Int) ≤ 18446744073709551615 := by omega
  clear h hn hnb
  go_enter Tryz.func47, Tryz.ntmps47
  go_wp2_with fail
  go_loopw [5, 8] (fun x i wr => (i = .int .i64 0 ∧ wr = w) ∨ (i = .int .i64 1 ∧ ∃ v, WrAt wr base q v (L ++ numB n) ∧ Mod (From base) w wr)) (fun _ i _ => 2 - (intOf i).toNat)
  case atStart => exact .inl ⟨rfl, rfl⟩
  case round =>
    rcases hrel with ⟨rfl, rfl⟩ | ⟨rfl, v, hw, hm⟩
    · go_wp2_with fail
      go_loopw [5] (fun x ws => ∃ (m : Nat) (v : Value) (pre : List UInt8), x = .int .u64 (m : Int) ∧ m ≤ n ∧ numB n = pre ++ numB m ∧ WrAt ws base q v (L ++ pre) ∧ Mod (From base) wr ws) (fun x _ => (intOf x).toNat)
      case atStart => exact ⟨n, v0, [], rfl, Nat.le_refl _, rfl, by rw [List.append_nil]; exact H.out, Mod.refl _ _⟩
      case round =>
        obtain ⟨m, v, pre, rfl, hmn, hpre, hw, hm⟩ := hrel
        have hm0 : (0 : Int) ≤ (m : Int) := Int.natCast_nonneg _
        have hm1 : (m : Int) ≤ 18446744073709551615 := by omega
        have hpl : pre.length ≤ 10 := by
          have := HNB.out
          rw [hpre, List.length_append] at this; omega
        obtain ⟨va, vc, rfl⟩ := own_len hw.own
        have cq := cell_of (i := 0) hw.obj rfl
        have HW := Lib.hid hw
        have HM := Lib.hid hm
        have hbs : base ≤ wr.heap.size := by have := hm.size; omega
        clear hw hm
        by_cases hs : m < 128
        · have hs1 : (m : Int) < 128 := by omega
          have HP := Lib.hid (show numB n = pre ++ [UInt8.ofNat m] by rw [hpre, numB_lt hs])
          clear hpre
          have hmod : (m : Int) % 256 = (m : Int) := by omega
          have HBY := Lib.hid (show (m : Int) = (((UInt8.ofNat m).toNat : Nat) : Int) by simp; omega)
          have HOW := Lib.hid (own_keepM HW.out.own ((Mod.refl No wr).alloc (.cells #[.int .u8 (m : Int)] 5)) (fun _ _ f => f))
          have HBX := Lib.hid (show Sl (wr.alloc (.cells #[.int .u8 (m : Int)] 5)) No 5 (.slice (some ⟨wr.heap.size, 0, none⟩) 1 1) 1 (bv [UInt8.ofNat m]) from
            .inr ⟨wr.heap.size, 0, 1, #[.int .u8 (m : Int)], (0, 0), rfl, Nat.le_refl _, by unfold maxLen; omega, fun f => f, heap_alloc_new wr _, Nat.le_refl _, fun i hi => by
              obtain rfl : i = 0 := by simpa using hi
              rw [HBY.out]; rfl⟩)
          have hLp : (L ++ pre).length ≤ 1000000010 := by rw [List.length_append]; omega
          generalize hlp : (L ++ pre).length = lp at *
          have HLP := Lib.hid hlp
          clear hlp
          go_wp2_with (at_builtin; refine app_sl _ rfl _ _ 45 rfl base 5 i0 (.int .u8 0) 1 1 Tryz.underlying45 hi hz0 hz1 hz2 rfl (by decide) _ _ _ rfl HOW.out No 5 _ _ _ rfl HBX.out rfl (bv_one _) ?_ ?_ ?_ ?_)
          · unfold maxLen; omega
          · omega
          · simp; omega
          intro v' w6 hown6 hg6 _
          obtain ⟨a6, c6, rfl⟩ := own_len hown6
          have hWa : WrAt (wr.alloc (.cells #[.int .u8 (m : Int)] 5)) base q (.slice va lp vc) (L ++ pre) := HW.out.stay ((Mod.refl No wr).alloc _)
          obtain ⟨hW7, hM7, hq6⟩ := hWa.push (M := [UInt8.ofNat m]) hg6 (by
            rw [bv_append, List.length_append, HLP.out]; exact hown6)
          have cq6 := cell_of (i := 0) hq6 rfl
          have fq6 := frozen_of 0 hq6
          have HW7 := Lib.hid hW7
          have HM7 := Lib.hid ((HM.out.trans (((Mod.refl No wr).alloc (.cells #[.int .u8 (m : Int)] 5)).weaken fun _ _ f => f.elim)).trans hM7)
          clear hown6 hg6 hWa hW7 hM7 hq6 HW HM HOW HBX cq
          go_wp2_with fail
          exact ⟨.inr ⟨rfl, _, by rw [HP.out, ← List.append_assoc]; exact HW7.out, HM7.out⟩, by go_light; simp only [intOf]; omega⟩
        · have hs1 : (128 : Int) ≤ (m : Int) := by omega
          have HP := Lib.hid (show numB n = (pre ++ [UInt8.ofNat (m % 128 + 128)]) ++ numB (m / 128) by rw [hpre, numB_ge (by omega)]; simp)
          clear hpre
          have hor := or128 m
          obtain ⟨y, hy⟩ : ∃ y, y = m % 128 + 128 := ⟨_, rfl⟩
          rw [← hy] at hor HP
          have HBY := Lib.hid (show (y : Int) = (((UInt8.ofNat y).toNat : Nat) : Int) by simp; omega)
          clear hy
          have HOW := Lib.hid (own_keepM HW.out.own ((Mod.refl No wr).alloc (.cells #[.int .u8 (y : Int)] 5)) (fun _ _ f => f))
          have HBX := Lib.hid (show Sl (wr.alloc (.cells #[.int .u8 (y : Int)] 5)) No 5 (.slice (some ⟨wr.heap.size, 0, none⟩) 1 1) 1 (bv [UInt8.ofNat y]) from
            .inr ⟨wr.heap.size, 0, 1, #[.int .u8 (y : Int)], (0, 0), rfl, Nat.le_refl _, by unfold maxLen; omega, fun f => f, heap_alloc_new wr _, Nat.le_refl _, fun i hi => by
              obtain rfl : i = 0 := by simpa using hi
              rw [HBY.out]; rfl⟩)
          have hLp : (L ++ pre).length ≤ 1000000010 := by rw [List.length_append]; omega
          generalize hlp : (L ++ pre).length = lp at *
          have HLP := Lib.hid hlp
          clear hlp
          go_wp2_with (at_builtin; refine app_sl _ rfl _ _ 45 rfl base 5 i0 (.int .u8 0) 1 1 Tryz.underlying45 hi hz0 hz1 hz2 rfl (by decide) _ _ _ rfl HOW.out No 5 _ _ _ rfl HBX.out rfl (bv_one _) ?_ ?_ ?_ ?_)
          · unfold maxLen; omega
          · omega
          · simp; omega
          intro v' w6 hown6 hg6 _
          obtain ⟨a6, c6, rfl⟩ := own_len hown6
          have hWa : WrAt (wr.alloc (.cells #[.int .u8 (y : Int)] 5)) base q (.slice va lp vc) (L ++ pre) := HW.out.stay ((Mod.refl No wr).alloc _)
          obtain ⟨hW7, hM7, hq6⟩ := hWa.push (M := [UInt8.ofNat y]) hg6 (by
            rw [bv_append, List.length_append, HLP.out]; exact hown6)
          have cq6 := cell_of (i := 0) hq6 rfl
          have fq6 := frozen_of 0 hq6
          have HW7 := Lib.hid hW7
          have HM7 := Lib.hid ((HM.out.trans (((Mod.refl No wr).alloc (.cells #[.int .u8 (y : Int)] 5)).weaken fun _ _ f => f.elim)).trans hM7)
          clear hown6 hg6 hWa hW7 hM7 hq6 HW HM HOW HBX cq
          go_wp2_with fail
          exact ⟨⟨m / 128, _, pre ++ [UInt8.ofNat y], by go_num, by omega, HP.out, by rw [← List.append_assoc]; exact HW7.out, HM7.out⟩, by go_light; simp only [intOf]; omega⟩
    · have HW := Lib.hid hw
      have HM := Lib.hid hm
      clear hw hm
      go_wp2_with fail
      go_end0
      exact fin hR ⟨v, rfl, HW.out, HM.out⟩

end Go.Proofs.YtkeopmfmlciadaaGreat
namespace Go.Proofs.YtkeopmfmlciadaaGreat
open Go.RowKit

theorem strCells_bv (s : ByteArray) : Lib.strCells s = bv s.data.toList := by
  unfold Lib.strCells bv
  rfl

theorem str_size (s : ByteArray) : s.size = s.data.toList.length := by simp

set_option maxRecDepth 100000 in
set_option maxHeartbeats 4000000 in
theorem wtext_any {w : World} {base q : Nat} {v0 : Value} {L : List UInt8} (h : WrAt w base q v0 L) (hL : L.length ≤ 900000000) (hb : base ≤ w.heap.size) {ab ao c : Nat} {s : ByteArray} (c0 : w.cell? ⟨ab, ao, none⟩ = some (.string s)) (hs : s.size ≤ 10000000) :
    Calls Tryz.prog 63 #[.pointer (some ⟨q, 0, none⟩), .slice (some ⟨ab, ao, none⟩) 1 c] w fun e w' => ∃ v, e = .returned (.tuple #[]) ∧ WrAt w' base q v (L ++ textB s.data.toList) ∧ Mod (From base) w w' := by
  obtain ⟨i0, hi, hz0, hz1, hz2⟩ := info_parts info_u8
  refine calls_hide fun R hR => ?_
  have H := Lib.hid h
  have HSL := Lib.hid (str_size s)
  have HNB := Lib.hid (numB_bound s.size (by omega))
  have HSC := Lib.hid (strCells_bv s)
  have hsI : (s.size : Int) ≤ 10000000 := by omega
  clear h
  go_enter Tryz.func63, Tryz.ntmps63
  go_wp2_with fail
  go_loopw [5, 8] (fun x i wr => (i = .int .i64 0 ∧ wr = w) ∨ (i = .int .i64 1 ∧ ∃ v, WrAt wr base q v (L ++ textB s.data.toList) ∧ Mod (From base) w wr)) (fun _ i _ => 2 - (intOf i).toNat)
  case atStart => exact .inl ⟨rfl, rfl⟩
  case round =>
    rcases hrel with ⟨rfl, rfl⟩ | ⟨rfl, v, hw, hm⟩
    · have hm1 : Mod No wr (wr.alloc (.cells #[.int .u64 (s.size : Int)] 102)) := (Mod.refl No wr).alloc _
      have HN := Lib.hid (wnum_any (a := ⟨wr.heap.size, 0, none⟩) (c := 1) (n := s.size) (H.out.stay hm1) (by omega) (by simp; omega) (cell_of (i := 0) (xs := [.int .u64 (s.size : Int)]) (heap_alloc_new wr _) rfl) rfl (by omega))
      clear hm1
      go_wp2_with fail
      with_reducible refine HN.out.mono ?_
      clear HN
      rintro e w2 ⟨v, rfl, hw2, hm2⟩
      have hlen : (L ++ numB s.size).length = L.length + (numB s.size).length := List.length_append
      have hnb := HNB.out
      obtain ⟨va, vc, rfl⟩ := own_len hw2.own
      have cq := cell_of (i := 0) hw2.obj rfl
      have HW := Lib.hid hw2
      have HM := Lib.hid ((((Mod.refl No wr).alloc (.cells #[.int .u64 (s.size : Int)] 102)).weaken fun _ _ f => f.elim).trans hm2)
      have hb2 : base ≤ w2.heap.size := by have := HM.out.size; omega
      have ho := hw2.own
      generalize hlp : (L ++ numB s.size).length = lp at *
      have HOWN := Lib.hid ho
      clear ho
      have HLP := Lib.hid hlp
      have hlp2 : lp ≤ 900000010 := by omega
      clear hw2 hm2 hlen hnb hlp
      go_wp2_with (at_builtin; refine Lib.wpList_append_own_string (P := Tryz.prog) _ rfl _ _ 45 9 rfl base 5 i0 Tryz.underlying45 Tryz.underlying9 hi hz0 hz1 hz2 _ _ _ rfl HOWN.out s rfl ?_ ?_ hb2 ?_)
      · unfold maxLen; omega
      · omega
      intro v' w6 hown6 hg6 _
      obtain ⟨a6, c6, rfl⟩ := own_len hown6
      obtain ⟨hW7, hM7, hq6⟩ := HW.out.push (M := s.data.toList) hg6 (by
        rw [bv_append, List.length_append, HLP.out, ← HSL.out, ← HSC.out]; exact hown6)
      have cq6 := cell_of (i := 0) hq6 rfl
      have fq6 := frozen_of 0 hq6
      have HW7 := Lib.hid hW7
      have HM7 := Lib.hid (HM.out.trans hM7)
      clear hown6 hg6 hW7 hM7 hq6 HW HM cq
      go_wp2_with fail
      exact ⟨.inr ⟨rfl, _, by unfold textB; rw [← HSL.out, ← List.append_assoc]; exact HW7.out, HM7.out⟩, by go_light; simp only [intOf]; omega⟩
    · have HW := Lib.hid hw
      have HM := Lib.hid hm
      clear hw hm
      go_wp2_with fail
      go_end0
      exact fin hR ⟨v, rfl, HW.out, HM.out⟩

set_option maxRecDepth 100000 in
set_option maxHeartbeats 4000000 in
theorem wbool_any {w : World} {base q : Nat} {v0 : Value} {L : List UInt8} (h : WrAt w base q v0 L) (hL : L.length ≤ 900000000) (hb : base ≤ w.heap.size) {ab ao c : Nat} {o : Bool} (c0 : w.cell? ⟨ab, ao, none⟩ = some (.bool o)) :
    Calls Tryz.prog 62 #[.pointer (some ⟨q, 0, none⟩), .slice (some ⟨ab, ao, none⟩) 1 c] w fun e w' => ∃ v, e = .returned (.tuple #[]) ∧ WrAt w' base q v (L ++ boolB o) ∧ Mod (From base) w w' := by
  refine calls_hide fun R hR => ?_
  have H := Lib.hid h
  clear h
  go_enter Tryz.func62, Tryz.ntmps62
  go_wp2_with fail
  go_loopw [5, 6, 9] (fun x y i wr => (i = .int .i64 0 ∧ wr = w) ∨ (i = .int .i64 1 ∧ ∃ v, WrAt wr base q v (L ++ boolB o) ∧ Mod (From base) w wr)) (fun _ _ i _ => 2 - (intOf i).toNat)
  case atStart => exact .inl ⟨rfl, rfl⟩
  case round =>
    rcases hrel with ⟨rfl, rfl⟩ | ⟨rfl, v, hw, hm⟩
    · obtain ⟨n, hn⟩ : ∃ n : Nat, n = if o then 1 else 0 := ⟨_, rfl⟩
      have hn1 : n ≤ 1 := by rw [hn]; split <;> omega
      have HBB := Lib.hid (show numB n = boolB o by rw [hn]; cases o <;> (rw [numB_lt (by decide)]; rfl))
      have hm1 : Mod No wr (wr.alloc (.cells #[.int .u64 (n : Int)] 102)) := (Mod.refl No wr).alloc _
      have HNX := Lib.hid (wnum_any (a := ⟨wr.heap.size, 0, none⟩) (c := 1) (n := n) (H.out.stay hm1) (by omega) (by simp; omega) (cell_of (i := 0) (xs := [.int .u64 (n : Int)]) (heap_alloc_new wr _) rfl) rfl (by omega))
      clear hm1
      cases o with
      | true =>
        obtain rfl : n = 1 := hn
        go_wp2_with fail
        refine HNX.out.mono ?_
        clear HNX
        rintro e w2 ⟨v, rfl, hw2, hm2⟩
        have HW := Lib.hid hw2
        have HM := Lib.hid ((((Mod.refl No wr).alloc (.cells #[.int .u64 ((1 : Nat) : Int)] 102)).weaken fun _ _ f => f.elim).trans hm2)
        clear hw2 hm2
        go_wp2_with fail
        exact ⟨.inr ⟨rfl, v, by rw [← HBB.out]; exact HW.out, HM.out⟩, by go_light; simp only [intOf]; omega⟩
      | false =>
        obtain rfl : n = 0 := hn
        go_wp2_with fail
        refine HNX.out.mono ?_
        clear HNX
        rintro e w2 ⟨v, rfl, hw2, hm2⟩
        have HW := Lib.hid hw2
        have HM := Lib.hid ((((Mod.refl No wr).alloc (.cells #[.int .u64 ((0 : Nat) : Int)] 102)).weaken fun _ _ f => f.elim).trans hm2)
        clear hw2 hm2
        go_wp2_with fail
        exact ⟨.inr ⟨rfl, v, by rw [← HBB.out]; exact HW.out, HM.out⟩, by go_light; simp only [intOf]; omega⟩
    · have HW := Lib.hid hw
      have HM := Lib.hid hm
      clear hw hm
      go_wp2_with fail
      go_end0
      exact fin hR ⟨v, rfl, HW.out, HM.out⟩

theorem wbytes_any {w : World} {base q : Nat} {v0 : Value} {L : List UInt8} (h : WrAt w base q v0 L) (hL : L.length ≤ 1000000000) :
    Calls Tryz.prog 48 #[.pointer (some ⟨q, 0, none⟩)] w fun e w' => ∃ v, e = .returned v ∧ w'.ownsRow w.heap.size 5 1 v L.length (bv L) ∧ Mod No w w' := by
  refine calls_hide fun R hR => ?_
  have cq := cell_of (i := 0) h.obj rfl
  have HC := clone_bytes No v0 (bv L) w (by rw [bv_length]; exact Sl.of_own h.own (fun _ _ f => f)) (bv_one _) (by rw [bv_length]; omega)
  rw [bv_length] at HC
  have HC := Lib.hid HC
  obtain ⟨va, vc, rfl⟩ := own_len h.own
  clear h
  go_enter Tryz.func48, Tryz.ntmps48
  go_wp2_with fail
  with_reducible refine HC.out.mono ?_
  rintro e w2 ⟨v, rfl, ho, -, hm⟩
  have HO := Lib.hid ho
  have HM := Lib.hid hm
  clear ho hm HC cq
  go_wp2_with fail
  exact fin hR ⟨v, rfl, HO.out, HM.out⟩

end Go.Proofs.YtkeopmfmlciadaaGreat
namespace Go.Proofs.YtkeopmfmlciadaaGreat
open Go.RowKit

theorem sizeOf_u8 (W : World) : (sizeOf (Tryz.prog.elem 45)).run Tryz.prog W = .ok 1 W := by kernel_rfl

theorem elem_u8 : Tryz.prog.underlying 45 = some (.slice (Tryz.prog.elem 45)) := by kernel_rfl

/-- b[k:] -/
theorem slice_from {w : World} {X : Nat → Prop} {a : Option Addr} {n c k : Nat} {kd : IntKind} {xs : List Value} (h : Sl w X 5 (.slice a n c) n xs) (hx : xs.length = n) (hk : k ≤ n) :
    ∃ a', (∀ W, (Instr.slice 45 (.slice a n c) (some (.int kd (k : Int))) none none).run Tryz.prog W = .ok (.slice a' (n - k) (c - k)) W) ∧ Sl w X 5 (.slice a' (n - k) (c - k)) (n - k) (xs.drop k) := by
  have hrun : ∀ W, (Instr.slice 45 (.slice a n c) (some (.int kd (k : Int))) none none).run Tryz.prog W = .ok (sliced a k n c 1) W := fun W => by
    rw [run_slice_l W 45 a n c elem_u8 kd (k : Int) (by omega) (by omega), sizeOf_u8]
    rfl
  refine ⟨_, hrun, ?_⟩
  rcases h with ⟨h, h0, rfl⟩ | ⟨blk, o, c', cur, fz, hv, hn, hc, hX, hh, hl, hr⟩
  · cases h
    obtain rfl : k = 0 := by omega
    exact .inl ⟨rfl, rfl, by simp⟩
  · cases hv
    by_cases hck : c = k
    · subst hck
      obtain rfl : n = c := by omega
      rw [if_pos rfl, List.drop_of_length_le (by omega)]
      exact .inr ⟨blk, o, n - n, cur, fz, rfl, by omega, by omega, hX, hh, by simp only [List.length_nil]; omega, fun i hi => by cases hi⟩
    · rw [if_neg hck]
      refine .inr ⟨blk, o + k, c - k, cur, fz, ?_, by omega, by omega, hX, hh, by rw [List.length_drop]; omega, fun i hi => ?_⟩
      · simp only [Option.map_some, Nat.mul_one]
        congr 2
        exact Addr.add_lit _ _ _
      · rw [List.length_drop] at hi
        rw [List.getElem?_drop, ← hr (k + i) (by omega), Nat.add_assoc]

/-- b[:k] -/
theorem slice_to {w : World} {X : Nat → Prop} {a : Option Addr} {n c k : Nat} {kd : IntKind} {xs : List Value} (h : Sl w X 5 (.slice a n c) n xs) (hx : xs.length = n) (hk : k ≤ n) :
    ∃ a', (∀ W, (Instr.slice 45 (.slice a n c) none (some (.int kd (k : Int))) none).run Tryz.prog W = .ok (.slice a' k c) W) ∧ Sl w X 5 (.slice a' k c) k (xs.take k) := by
  have hnc : n ≤ c := by
    rcases h with ⟨h, h0, _⟩ | ⟨blk, o, c', cur, fz, hv, hn, _⟩
    · cases h; exact Nat.le_refl _
    · cases hv; exact hn
  have hrun : ∀ W, (Instr.slice 45 (.slice a n c) none (some (.int kd (k : Int))) none).run Tryz.prog W = .ok (sliced a 0 k c 1) W := fun W => by
    rw [run_slice_h W 45 a n c elem_u8 kd (k : Int) (by omega) (by omega), sizeOf_u8]
    rfl
  refine ⟨_, hrun, ?_⟩
  rcases h with ⟨h, h0, rfl⟩ | ⟨blk, o, c', cur, fz, hv, hn, hc, hX, hh, hl, hr⟩
  · cases h
    obtain rfl : k = 0 := by omega
    exact .inl ⟨rfl, rfl, by simp⟩
  · cases hv
    have e : (if c = 0 then some (⟨blk, o, none⟩ : Addr) else Option.map (fun x : Addr => x.add (0 * 1)) (some ⟨blk, o, none⟩)) = some ⟨blk, o, none⟩ := by
      split
      · rfl
      · simp [Addr.add]
    rw [e]
    exact .inr ⟨blk, o, c, cur, fz, rfl, by omega, hc, hX, hh, by rw [List.length_take]; omega, fun i hi => by
      rw [List.length_take] at hi
      rw [List.getElem?_take_of_lt (by omega)]
      exact hr i (by omega)⟩

/-- What reading ends with that fails. -/
abbrev stopC : Value := .iface 153 (.agg #[])
abbrev StoppedC : Ending := .panicked [{ v := stopC, recovered := false }]

theorem cmust_yes (w : World) : Calls Tryz.prog 101 #[.bool true] w fun e w' => e = .returned (.tuple #[]) ∧ w' = w := by
  refine calls_hide fun R hR => ?_
  go_enter Tryz.func101, Tryz.ntmps101
  go_wp2_with fail
  go_end0
  exact fin hR ⟨rfl, rfl⟩

theorem cmust_no (w : World) : Calls Tryz.prog 101 #[.bool false] w fun e w' => e = StoppedC ∧ w' = w := by
  refine calls_hide fun R hR => ?_
  go_enter Tryz.func101, Tryz.ntmps101
  go_wp2_with fail
  exact ⟨rfl, fin hR ⟨rfl, rfl⟩⟩

/-- A reader in memory. -/
structure RdAt (w : World) (q : Nat) (v : Value) (L : List UInt8) (failed : Bool) : Prop where
  obj : w.heap[q]? = some (.cells #[v, .bool failed] 134 (0, 0))
  row : Sl w No 5 v L.length (bv L)

theorem RdAt.keep {S : Nat → Prop} {w w' : World} {q : Nat} {v : Value} {L : List UInt8} {f : Bool} (h : RdAt w q v L f) (hm : Mod S w w') (hq : ¬ S q) (hs : ∀ k cur fz, S k → w.heap[k]? ≠ some (.cells cur 5 fz)) : RdAt w' q v L f :=
  ⟨hm.keep h.obj hq, h.row.keep hm fun k cur fz s _ => hs k cur fz s⟩

theorem RdAt.stay {w w' : World} {q : Nat} {v : Value} {L : List UInt8} {f : Bool} (h : RdAt w q v L f) (hm : Mod No w w') : RdAt w' q v L f :=
  h.keep hm (fun f => f) (fun _ _ _ f => f.elim)

/-- The reader's bytes are set. -/
theorem RdAt.set {w : World} {q : Nat} {v v' : Value} {L L' : List UInt8} {f : Bool} (h : RdAt w q v L f) (h' : Sl w No 5 v' L'.length (bv L')) : RdAt (w.setCell ⟨q, 0, none⟩ v') q v' L' f ∧ Mod (fun k => k = q) w (w.setCell ⟨q, 0, none⟩ v') := by
  have hm : Mod (fun k => k = q) w (w.setCell ⟨q, 0, none⟩ v') := (Mod.refl (fun k => k = q) w).setCell (fun _ => rfl) _
  exact ⟨⟨by rw [heap_setCell h.obj]; rfl, h'.keep hm fun k cur fz s _ e => by subst s; rw [h.obj] at e; cases e⟩, hm⟩

theorem newReader_any {w : World} {X : Nat → Prop} {v : Value} {L : List UInt8} (h : Sl w X 5 v L.length (bv L)) (hl : L.length ≤ 1000000000) :
    Calls Tryz.prog 50 #[v] w fun e w' => ∃ q v', e = .returned (.pointer (some ⟨q, 0, none⟩)) ∧ RdAt w' q v' L false ∧ Mod No w w' ∧ w.heap.size ≤ q := by
  refine calls_hide fun R hR => ?_
  have HC := clone_bytes X v (bv L) w (by rw [bv_length]; exact h) (bv_one _) (by rw [bv_length]; omega)
  rw [bv_length] at HC
  have HC := Lib.hid HC
  obtain ⟨va, vc, rfl⟩ := h.len
  clear h
  go_enter Tryz.func50, Tryz.ntmps50
  go_wp2_with fail
  with_reducible refine HC.out.mono ?_
  rintro e w2 ⟨v', rfl, ho, -, hm⟩
  have hm2 : Mod No w2 (w2.alloc (.cells #[v', .bool false] 134)) := (Mod.refl No w2).alloc _
  have HR := Lib.hid (show RdAt (w2.alloc (.cells #[v', .bool false] 134)) w2.heap.size v' L false from ⟨heap_alloc_new w2 _, (Sl.of_own ho (fun _ _ f => f)).keep hm2 (fun _ _ _ f => f.elim)⟩)
  have HM := Lib.hid (hm.trans hm2)
  have HZ := Lib.hid hm.size
  obtain ⟨ha, hc, rfl⟩ := own_len ho
  clear ho hm hm2 HC
  go_wp2_with fail
  exact fin hR ⟨_, _, rfl, HR.out, HM.out, HZ.out⟩

end Go.Proofs.YtkeopmfmlciadaaGreat
namespace Go.Proofs.YtkeopmfmlciadaaGreat
open Go.RowKit

theorem andNot128 (x : Nat) (h : x < 256) : bits .andNot .u8 (x : Int) 128 = ((x % 128 : Nat) : Int) := by
  have : ∀ y : Fin 256, bits .andNot .u8 ((y.val : Nat) : Int) 128 = ((y.val % 128 : Nat) : Int) := by decide +kernel
  exact this ⟨x, h⟩

theorem and128 (x : Nat) (h : x < 256) : bits .and .u8 (x : Int) 128 = if x < 128 then 0 else 128 := by
  have : ∀ y : Fin 256, bits .and .u8 ((y.val : Nat) : Int) 128 = if y.val < 128 then 0 else 128 := by decide +kernel
  exact this ⟨x, h⟩

theorem or_part (acc y k : Nat) (hk : k ≤ 63) (h : acc < 2 ^ k) (hy : y * 2 ^ k < 18446744073709551616) : bits .or .u64 (acc : Int) ((y * 2 ^ k : Nat) : Int) = ((acc + y * 2 ^ k : Nat) : Int) := by
  have ha : acc < 18446744073709551616 := Nat.lt_of_lt_of_le h (Nat.le_trans (Nat.pow_le_pow_right (by decide) hk) (by decide))
  rw [bits_or_u64_nat _ _ ha hy, Nat.or_comm, Nat.mul_comm y, ← Nat.two_pow_add_eq_or_of_lt h y, Nat.add_comm]

theorem or_wrap (acc y k : Nat) (hk : k ≤ 63) (h : acc < 2 ^ k) (hy : y * 2 ^ k < 18446744073709551616) : bits .or .u64 (acc : Int) (IntKind.u64.wrap ((y : Int) * 2 ^ k)) = ((acc + y * 2 ^ k : Nat) : Int) := by
  have e : IntKind.u64.wrap ((y : Int) * 2 ^ k) = ((y * 2 ^ k : Nat) : Int) := by
    have e1 : (y : Int) * 2 ^ k = ((y * 2 ^ k : Nat) : Int) := by rw [Int.natCast_mul, Int.natCast_pow]; rfl
    rw [e1, IntKind.wrap_u64]
    exact Int.emod_eq_of_lt (Int.natCast_nonneg _) (by omega)
  rw [e]
  exact or_part acc y k hk h hy

theorem cmust_if (b : Bool) (hb : b = true) (w : World) : Calls Tryz.prog 101 #[.bool b] w fun e w' => e = .returned (.tuple #[]) ∧ w' = w := by
  subst hb; exact cmust_yes w

theorem cmust_not (b : Bool) (hb : b = false) (w : World) : Calls Tryz.prog 101 #[.bool b] w fun e w' => e = StoppedC ∧ w' = w := by
  subst hb; exact cmust_no w

theorem part_lt {acc y k : Nat} (h : acc < 2 ^ (7 * k)) (hy : y < 128) : acc + y * 2 ^ (7 * k) < 2 ^ (7 * (k + 1)) := by
  have hp : 2 ^ (7 * (k + 1)) = 128 * 2 ^ (7 * k) := by rw [show 7 * (k + 1) = 7 * k + 7 by omega, Nat.pow_add]; omega
  have : y * 2 ^ (7 * k) ≤ 127 * 2 ^ (7 * k) := Nat.mul_le_mul_right _ (by omega)
  omega

theorem part_64 {y k : Nat} (hk : k ≤ 9) (hy : y < 128) (h9 : k = 9 → y ≤ 1) : y * 2 ^ (7 * k) < 18446744073709551616 := by
  by_cases e : k = 9
  · subst e; have := h9 rfl; omega
  · have h1 : 2 ^ (7 * k) ≤ 2 ^ 56 := Nat.pow_le_pow_right (by decide) (by omega)
    have h2 : y * 2 ^ (7 * k) ≤ 127 * 2 ^ 56 := Nat.mul_le_mul (by omega) h1
    omega

theorem part_sum {acc y k : Nat} (h : acc < 2 ^ (7 * k)) (hk : k ≤ 9) (hy : y < 128) (h9 : k = 9 → y ≤ 1) : acc + y * 2 ^ (7 * k) < 18446744073709551616 := by
  by_cases e : k = 9
  · subst e; have := h9 rfl; omega
  · have h1 : 2 ^ (7 * k) ≤ 2 ^ 56 := Nat.pow_le_pow_right (by decide) (by omega)
    have h2 : y * 2 ^ (7 * k) ≤ 127 * 2 ^ 56 := Nat.mul_le_mul (by omega) h1
    omega

/-- What num leaves. -/
def NumPost (w : World) (q : Nat) (L : List UInt8) (e : Ending) (w' : World) : Prop :=
  Mod (fun k => k = q) w w' ∧ ∃ v L', RdAt w' q v L' false ∧ ((∃ n, rdNum L = some (n, L') ∧ e = .returned (.int .u64 (n : Int)) ∧ n < 18446744073709551616) ∨ (rdNum L = none ∧ e = StoppedC))

set_option maxRecDepth 100000 in
set_option maxHeartbeats 4000000 in
theorem num_any {w : World} {q : Nat} {v0 : Value} {L : List UInt8} (h : RdAt w q v0 L false) (_ : L.length ≤ 1000000000) :
    Calls Tryz.prog 97 #[.pointer (some ⟨q, 0, none⟩)] w (NumPost w q L) := by
  refine calls_hide fun R hR => ?_
  have H := Lib.hid h
  clear h
  go_enter Tryz.func97, Tryz.ntmps97
  go_wp2_with fail
  go_loopw [3, 4] (fun n i wr => ∃ (k acc : Nat) (v : Value) (l : List UInt8), k ≤ 9 ∧ i = .int .i64 (k : Int) ∧ n = .int .u64 (acc : Int) ∧ acc < 2 ^ (7 * k) ∧ RdAt wr q v l false ∧ Mod (fun k => k = q) w wr ∧ rdNum L = rdNumG k acc l ∧ l.length ≤ L.length) (fun _ i _ => 10 - (intOf i).toNat)
  case atStart => exact ⟨0, 0, v0, L, by omega, rfl, rfl, by decide, H.out, Mod.refl _ _, rfl, Nat.le_refl _⟩
  case round =>
    obtain ⟨k, acc, v, l, hk, rfl, rfl, hacc, hrd, hm, hG, hll⟩ := hrel
    have hk0 : (0 : Int) ≤ (k : Int) := Int.natCast_nonneg _
    have hk9 : (k : Int) ≤ 9 := by omega
    have HACC := Lib.hid hacc
    have HM := Lib.hid hm
    obtain ⟨a, c, rfl⟩ := hrd.row.len
    have cq := cell_of (i := 0) hrd.obj rfl
    have fq := frozen_of 0 hrd.obj
    have HRD := Lib.hid hrd
    clear hacc hm hrd
    cases l with
    | nil =>
      have HG := Lib.hid (show rdNum L = none from hG)
      clear hG
      go_wp2_with fail
      with_reducible refine (cmust_no wr).mono ?_
      rintro e w2 ⟨rfl, h2⟩
      subst h2
      go_wp2_with fail
      exact ⟨rfl, fin hR ⟨HM.out, _, _, HRD.out, .inr ⟨HG.out, rfl⟩⟩⟩
    | cons x l =>
      have hxb := UInt8.toNat_lt x
      obtain ⟨g, o, c', hv, -⟩ := HRD.out.row.shape (by simp)
      cases hv
      have hcx := HRD.out.row.cell (i := 0) (by simp)
      rw [bv_get _ _ (by simp)] at hcx
      dsimp only [List.getElem_cons_zero] at hcx
      rw [Nat.add_zero] at hcx
      obtain ⟨a', hsf, hsl⟩ := slice_from (kd := .i64) (k := 1) HRD.out.row (by rw [bv_length]) (by simp)
      rw [show ((1 : Nat) : Int) = 1 from rfl] at hsf
      have hsf := hsf wr
      have hl1 : (x :: l).length - 1 = l.length := by simp
      rw [hl1] at hsf hsl
      have HSL := Lib.hid (show Sl wr No 5 (.slice a' l.length (c - 1)) l.length (bv l) from hsl)
      obtain ⟨w2, hw2⟩ : ∃ w2, w2 = wr.setCell ⟨q, 0, none⟩ (.slice a' l.length (c - 1)) := ⟨_, rfl⟩
      obtain ⟨hR2, hM2⟩ := HRD.out.set HSL.out
      rw [← hw2] at hR2 hM2
      have HR2 := Lib.hid hR2
      have HM2 := Lib.hid (HM.out.trans hM2)
      have HW2 := Lib.hid hw2
      have hlen1 : (x :: l).length = l.length + 1 := rfl
      rw [hlen1] at hsf cq
      clear hsl hl1 hR2 hM2 hw2 hlen1
      unfold rdNumG at hG
      generalize x.toNat = xv at *
      rw [if_neg (by omega)] at hG
      by_cases h9 : k = 9 ∧ 1 < xv
      · rw [if_pos h9] at hG
        have HG := Lib.hid hG
        obtain ⟨rfl, hx1⟩ := h9
        have hx1' : (1 : Int) < (xv : Int) := by omega
        clear hG
        go_wp2_with fail
        with_reducible refine (cmust_yes wr).mono ?_
        rintro e w3 ⟨rfl, h2⟩
        subst h2
        go_wp2_with fail
        rw [← HW2.out, show decide ((xv : Int) ≤ 1) = false from decide_eq_false (by omega)]
        with_reducible refine (cmust_no w2).mono ?_
        rintro e w4 ⟨rfl, h2⟩
        subst h2
        go_wp2_with fail
        exact ⟨rfl, fin hR ⟨HM2.out, _, _, HR2.out, .inr ⟨HG.out, rfl⟩⟩⟩
      · rw [if_neg h9] at hG
        by_cases hs : xv < 128
        · have hsI : (xv : Int) < 128 := by omega
          rw [if_pos hs] at hG
          by_cases h0 : xv = 0 ∧ k ≠ 0
          · rw [if_pos h0] at hG
            have hx0 : (xv : Int) = 0 := by omega
            have hk1 : ¬ (k : Int) = 0 := by omega
            have hk1' : (0 : Int) < (k : Int) := by omega
            have hkb : ((k : Int) == 0) = false := by simpa using hk1
            have hxb0 : ((xv : Int) != 0) = false := by simp; omega
            by_cases hk8 : k ≤ 8
            · have hk8I : (k : Int) < 9 := by omega
              clear hx0
              have ha1 := andNot128 xv hxb
              have ha2 := and128 xv hxb
              rw [if_pos hs] at ha2
              have HP64 := Lib.hid (part_64 (y := xv % 128) hk (Nat.mod_lt _ (by decide)) (fun e => by omega))
              have HOR := Lib.hid (or_wrap acc (xv % 128) (7 * k) (by omega) HACC.out HP64.out)
              have HLT := Lib.hid (part_lt (y := xv % 128) HACC.out (Nat.mod_lt _ (by decide)))
              have HS64 := Lib.hid (part_sum (y := xv % 128) HACC.out hk (Nat.mod_lt _ (by decide)) (fun e => by omega))
              have HG := Lib.hid hG
              clear hG h9
              generalize hy : xv % 128 = y at *
              have HY := Lib.hid hy
              clear hy
              have hyI : (y : Int) < 128 := by have := HY.out; omega
              go_wp2_with fail
              with_reducible refine (cmust_yes wr).mono ?_
              rintro e w3 ⟨rfl, h2⟩
              subst h2
              go_wp2_with fail
              rw [← HW2.out]
              refine (cmust_if _ ?hb w2).mono ?_
              case hb => first | rfl | (exact decide_eq_true (by omega))
              rintro e w4 ⟨rfl, h2⟩
              subst h2
              go_wp2_with fail
              refine (cmust_not _ ?hb2 w4).mono ?_
              case hb2 => first | rfl | (simp; omega) | (exact decide_eq_false (by omega))
              rintro e w5 ⟨rfl, h2⟩
              subst h2
              go_wp2_with fail
              exact ⟨rfl, fin hR ⟨HM2.out, _, _, HR2.out, .inr ⟨HG.out, rfl⟩⟩⟩
            · have hk8I : ¬ (k : Int) < 9 := by omega
              have hk8J : (9 : Int) ≤ (k : Int) := by omega
              clear hx0
              have ha1 := andNot128 xv hxb
              have ha2 := and128 xv hxb
              rw [if_pos hs] at ha2
              have HP64 := Lib.hid (part_64 (y := xv % 128) hk (Nat.mod_lt _ (by decide)) (fun e => by omega))
              have HOR := Lib.hid (or_wrap acc (xv % 128) (7 * k) (by omega) HACC.out HP64.out)
              have HLT := Lib.hid (part_lt (y := xv % 128) HACC.out (Nat.mod_lt _ (by decide)))
              have HS64 := Lib.hid (part_sum (y := xv % 128) HACC.out hk (Nat.mod_lt _ (by decide)) (fun e => by omega))
              have HG := Lib.hid hG
              clear hG h9
              generalize hy : xv % 128 = y at *
              have HY := Lib.hid hy
              clear hy
              have hyI : (y : Int) < 128 := by have := HY.out; omega
              go_wp2_with fail
              with_reducible refine (cmust_yes wr).mono ?_
              rintro e w3 ⟨rfl, h2⟩
              subst h2
              go_wp2_with fail
              rw [← HW2.out]
              refine (cmust_if _ ?hb w2).mono ?_
              case hb => first | rfl | (exact decide_eq_true (by omega))
              rintro e w4 ⟨rfl, h2⟩
              subst h2
              go_wp2_with fail
              refine (cmust_not _ ?hb2 w4).mono ?_
              case hb2 => first | rfl | (simp; omega) | (exact decide_eq_false (by omega))
              rintro e w5 ⟨rfl, h2⟩
              subst h2
              go_wp2_with fail
              exact ⟨rfl, fin hR ⟨HM2.out, _, _, HR2.out, .inr ⟨HG.out, rfl⟩⟩⟩
          · rw [if_neg h0] at hG
            by_cases hx : xv = 0
            · have hkb : ((k : Int) == 0) = true := by simp; omega
              have hxb0 : ((xv : Int) != 0) = false := by simp; omega
              have hk8I : (k : Int) < 9 := by omega
              have hkz : k ≤ 8 := by omega
              clear hx h0
              have ha1 := andNot128 xv hxb
              have ha2 := and128 xv hxb
              rw [if_pos hs] at ha2
              have HP64 := Lib.hid (part_64 (y := xv % 128) hk (Nat.mod_lt _ (by decide)) (fun e => by omega))
              have HOR := Lib.hid (or_wrap acc (xv % 128) (7 * k) (by omega) HACC.out HP64.out)
              have HLT := Lib.hid (part_lt (y := xv % 128) HACC.out (Nat.mod_lt _ (by decide)))
              have HS64 := Lib.hid (part_sum (y := xv % 128) HACC.out hk (Nat.mod_lt _ (by decide)) (fun e => by omega))
              have HG := Lib.hid hG
              clear hG h9
              generalize hy : xv % 128 = y at *
              have HY := Lib.hid hy
              clear hy
              have hyI : (y : Int) < 128 := by have := HY.out; omega
              go_wp2_with fail
              with_reducible refine (cmust_yes wr).mono ?_
              rintro e w3 ⟨rfl, h2⟩
              subst h2
              go_wp2_with fail
              rw [← HW2.out]
              refine (cmust_if _ ?hb w2).mono ?_
              case hb => first | rfl | (exact decide_eq_true (by omega))
              rintro e w4 ⟨rfl, h2⟩
              subst h2
              go_wp2_with fail
              refine (cmust_if _ ?hb2 w4).mono ?_
              case hb2 => first | rfl | (simp; omega) | (exact decide_eq_true (by omega))
              rintro e w5 ⟨rfl, h2⟩
              subst h2
              go_wp2_with fail
              refine fin hR ⟨HM2.out, _, _, HR2.out, .inl ⟨_, HG.out, ?_, ?_⟩⟩
              · first | (rw [HOR.out]; rfl) | rw [HOR.out]
              · exact HS64.out
            · have hx0 : ¬ (xv : Int) = 0 := by omega
              have hxb0 : ((xv : Int) != 0) = true := by simp; omega
              by_cases hk8 : k ≤ 8
              · have hk8I : (k : Int) < 9 := by omega
                have ha1 := andNot128 xv hxb
                have ha2 := and128 xv hxb
                rw [if_pos hs] at ha2
                have HP64 := Lib.hid (part_64 (y := xv % 128) hk (Nat.mod_lt _ (by decide)) (fun e => by omega))
                have HOR := Lib.hid (or_wrap acc (xv % 128) (7 * k) (by omega) HACC.out HP64.out)
                have HLT := Lib.hid (part_lt (y := xv % 128) HACC.out (Nat.mod_lt _ (by decide)))
                have HS64 := Lib.hid (part_sum (y := xv % 128) HACC.out hk (Nat.mod_lt _ (by decide)) (fun e => by omega))
                have HG := Lib.hid hG
                clear hG h9
                generalize hy : xv % 128 = y at *
                have HY := Lib.hid hy
                clear hy
                have hyI : (y : Int) < 128 := by have := HY.out; omega
                go_wp2_with fail
                with_reducible refine (cmust_yes wr).mono ?_
                rintro e w3 ⟨rfl, h2⟩
                subst h2
                go_wp2_with fail
                rw [← HW2.out]
                refine (cmust_if _ ?hb w2).mono ?_
                case hb => first | rfl | (exact decide_eq_true (by omega))
                rintro e w4 ⟨rfl, h2⟩
                subst h2
                go_wp2_with fail
                refine (cmust_if _ ?hb2 w4).mono ?_
                case hb2 => first | rfl | (simp; omega) | (exact decide_eq_true (by omega))
                rintro e w5 ⟨rfl, h2⟩
                subst h2
                go_wp2_with fail
                refine fin hR ⟨HM2.out, _, _, HR2.out, .inl ⟨_, HG.out, ?_, ?_⟩⟩
                · first | (rw [HOR.out]; rfl) | rw [HOR.out]
                · exact HS64.out
              · have hk8I : ¬ (k : Int) < 9 := by omega
                have hk8J : (9 : Int) ≤ (k : Int) := by omega
                have hx1I : (xv : Int) ≤ 1 := by omega
                have ha1 := andNot128 xv hxb
                have ha2 := and128 xv hxb
                rw [if_pos hs] at ha2
                have HP64 := Lib.hid (part_64 (y := xv % 128) hk (Nat.mod_lt _ (by decide)) (fun e => by omega))
                have HOR := Lib.hid (or_wrap acc (xv % 128) (7 * k) (by omega) HACC.out HP64.out)
                have HLT := Lib.hid (part_lt (y := xv % 128) HACC.out (Nat.mod_lt _ (by decide)))
                have HS64 := Lib.hid (part_sum (y := xv % 128) HACC.out hk (Nat.mod_lt _ (by decide)) (fun e => by omega))
                have HG := Lib.hid hG
                clear hG h9
                generalize hy : xv % 128 = y at *
                have HY := Lib.hid hy
                clear hy
                have hyI : (y : Int) < 128 := by have := HY.out; omega
                go_wp2_with fail
                with_reducible refine (cmust_yes wr).mono ?_
                rintro e w3 ⟨rfl, h2⟩
                subst h2
                go_wp2_with fail
                rw [← HW2.out]
                refine (cmust_if _ ?hb w2).mono ?_
                case hb => first | rfl | (exact decide_eq_true (by omega))
                rintro e w4 ⟨rfl, h2⟩
                subst h2
                go_wp2_with fail
                refine (cmust_if _ ?hb2 w4).mono ?_
                case hb2 => first | rfl | (simp; omega) | (exact decide_eq_true (by omega))
                rintro e w5 ⟨rfl, h2⟩
                subst h2
                go_wp2_with fail
                refine fin hR ⟨HM2.out, _, _, HR2.out, .inl ⟨_, HG.out, ?_, ?_⟩⟩
                · first | (rw [HOR.out]; rfl) | rw [HOR.out]
                · exact HS64.out
        · have hk8 : k ≤ 8 := by omega
          rw [if_neg hs] at hG
          have ha1 := andNot128 xv hxb
          have ha2 := and128 xv hxb
          rw [if_neg hs] at ha2
          have hk8I : (k : Int) < 9 := by omega
          have HP64 := Lib.hid (part_64 (y := xv % 128) hk (Nat.mod_lt _ (by decide)) (fun e => by omega))
          have HOR := Lib.hid (or_wrap acc (xv % 128) (7 * k) (by omega) HACC.out HP64.out)
          have HLT := Lib.hid (part_lt (y := xv % 128) HACC.out (Nat.mod_lt _ (by decide)))
          have HS64 := Lib.hid (part_sum (y := xv % 128) HACC.out hk (Nat.mod_lt _ (by decide)) (fun e => by omega))
          have HG := Lib.hid hG
          clear hG h9
          generalize hy : xv % 128 = y at *
          have HY := Lib.hid hy
          clear hy
          have hyI : (y : Int) < 128 := by have := HY.out; omega
          go_wp2_with fail
          with_reducible refine (cmust_yes wr).mono ?_
          rintro e w3 ⟨rfl, h2⟩
          subst h2
          go_wp2_with fail
          rw [← HW2.out]
          with_reducible refine (cmust_yes w2).mono ?_
          rintro e w4 ⟨rfl, h2⟩
          subst h2
          go_wp2_with fail
          exact ⟨⟨k + 1, acc + y * 2 ^ (7 * k), _, l, by omega, by go_num, by rw [HOR.out], HLT.out, HR2.out, HM2.out, HG.out, by simp only [List.length_cons] at hll; omega⟩, by go_light; simp only [intOf]; omega⟩

end Go.Proofs.YtkeopmfmlciadaaGreat
namespace Go.Proofs.YtkeopmfmlciadaaGreat
open Go.RowKit

/-- What text leaves. -/
def TextPost (w : World) (q : Nat) (L : List UInt8) (e : Ending) (w' : World) : Prop :=
  Mod (fun k => k = q) w w' ∧ ∃ v L', RdAt w' q v L' false ∧ ((∃ s, rdText L = some (s, L') ∧ e = .returned (.string ⟨s.toArray⟩)) ∨ (rdText L = none ∧ e = StoppedC))

def BoolPost (w : World) (q : Nat) (L : List UInt8) (e : Ending) (w' : World) : Prop :=
  Mod (fun k => k = q) w w' ∧ ∃ v L', RdAt w' q v L' false ∧ ((∃ o, rdBool L = some (o, L') ∧ e = .returned (.bool o)) ∨ (rdBool L = none ∧ e = StoppedC))

theorem rdNumG_len : ∀ (l : List UInt8) (i acc n : Nat) (r : List UInt8), rdNumG i acc l = some (n, r) → r.length ≤ l.length
  | [], _, _, _, _, h => by cases h
  | x :: l, i, acc, n, r, h => by
    unfold rdNumG at h
    split at h
    · cases h
    · split at h
      · cases h
      · split at h
        · split at h
          · cases h
          · cases h; simp
        · have := rdNumG_len l _ _ _ _ h
          simp; omega

set_option maxRecDepth 100000 in
set_option maxHeartbeats 4000000 in
theorem rtext_any {w : World} {q : Nat} {v0 : Value} {L : List UInt8} (h : RdAt w q v0 L false) (hL : L.length ≤ 1000000000) :
    Calls Tryz.prog 87 #[.pointer (some ⟨q, 0, none⟩)] w (TextPost w q L) := by
  refine calls_hide fun R hR => ?_
  have HN := Lib.hid (num_any h hL)
  have HL := Lib.hid hL
  clear h hL
  go_enter Tryz.func87, Tryz.ntmps87
  go_wp2_with fail
  with_reducible refine HN.out.mono ?_
  clear HN
  rintro e w1 ⟨hm, v, L', hrd, ⟨n, hn, rfl, hn64⟩ | ⟨hn, rfl⟩⟩
  · have hll : L'.length ≤ 1000000000 := Nat.le_trans (rdNumG_len _ _ _ _ _ hn) HL.out
    obtain ⟨a, c, rfl⟩ := hrd.row.len
    have cq := cell_of (i := 0) hrd.obj rfl
    have fq := frozen_of 0 hrd.obj
    have HRD := Lib.hid hrd
    have HM := Lib.hid hm
    have HN := Lib.hid hn
    have hnI : (n : Int) ≤ 18446744073709551615 := by omega
    have hllI : (L'.length : Int) ≤ 1000000000 := by omega
    clear hrd hm hn hn64
    by_cases hle : n ≤ L'.length
    · have hleI : (n : Int) ≤ (L'.length : Int) := by omega
      have HT := Lib.hid (show rdText L = some (L'.take n, L'.drop n) by unfold rdText; rw [HN.out]; exact if_pos hle)
      obtain ⟨a1, hs1, hsl1⟩ := slice_to (kd := .u64) (k := n) HRD.out.row (by rw [bv_length]) hle
      obtain ⟨a2, hs2, hsl2⟩ := slice_from (kd := .u64) (k := n) HRD.out.row (by rw [bv_length]) hle
      have hl1 : (L'.take n).length = n := by rw [List.length_take]; omega
      have hl2 : (L'.drop n).length = L'.length - n := List.length_drop
      have hcv := string_of (P := Tryz.prog) (src := 45) (dst := 9) (e := 5) (l := L'.take n) (by rw [hl1, bv_take]; exact hsl1) Tryz.underlying45 Tryz.underlying5 Tryz.underlying9
      have hs1 := hs1 w1
      have hs2 := hs2 w1
      have hset := HRD.out.set (L' := L'.drop n) (v' := .slice a2 (L'.length - n) (c - n)) (by rw [hl2, bv_drop]; exact hsl2)
      have HSET := Lib.hid hset
      clear hsl1 hsl2 hl1 hl2 hset
      generalize L'.length = m at *
      generalize hZ : (⟨(L'.take n).toArray⟩ : ByteArray) = Z at *
      have HZ := Lib.hid hZ
      clear hZ
      go_wp2_with fail
      refine (cmust_if _ ?hb w1).mono ?_
      case hb => first | rfl | (exact decide_eq_true (by omega))
      rintro e w2 ⟨rfl, h2⟩
      subst h2
      go_wp2_with fail
      exact fin hR ⟨HM.out.trans HSET.out.2, _, _, HSET.out.1, .inl ⟨_, HT.out, by rw [HZ.out]; rfl⟩⟩
    · have hleI : (L'.length : Int) < (n : Int) := by omega
      have HT := Lib.hid (show rdText L = none by unfold rdText; rw [HN.out]; exact if_neg hle)
      go_wp2_with fail
      refine (cmust_not _ ?hb w1).mono ?_
      case hb => first | rfl | (exact decide_eq_false (by omega))
      rintro e w2 ⟨rfl, h2⟩
      subst h2
      go_wp2_with fail
      exact ⟨rfl, fin hR ⟨HM.out, _, _, HRD.out, .inr ⟨HT.out, rfl⟩⟩⟩
  · have HT := Lib.hid (show rdText L = none by unfold rdText; rw [hn])
    have HX := Lib.hid (And.intro hm hrd)
    clear hm hrd hn
    go_wp2_with fail
    exact ⟨rfl, fin hR ⟨HX.out.1, _, _, HX.out.2, .inr ⟨HT.out, rfl⟩⟩⟩

set_option maxRecDepth 100000 in
set_option maxHeartbeats 4000000 in
theorem rbool_any {w : World} {q : Nat} {v0 : Value} {L : List UInt8} (h : RdAt w q v0 L false) :
    Calls Tryz.prog 85 #[.pointer (some ⟨q, 0, none⟩)] w (BoolPost w q L) := by
  refine calls_hide fun R hR => ?_
  obtain ⟨a, c, rfl⟩ := h.row.len
  have cq := cell_of (i := 0) h.obj rfl
  have fq := frozen_of 0 h.obj
  have H := Lib.hid h
  clear h
  cases L with
  | nil =>
    go_enter Tryz.func85, Tryz.ntmps85
    go_wp2_with fail
    refine (cmust_not _ ?hb w).mono ?_
    case hb => rfl
    rintro e w2 ⟨rfl, h2⟩
    subst h2
    go_wp2_with fail
    exact ⟨rfl, fin hR ⟨Mod.refl _ _, _, _, H.out, .inr ⟨rfl, rfl⟩⟩⟩
  | cons x l =>
    have hxb := UInt8.toNat_lt x
    obtain ⟨g, o, c', hv, -⟩ := H.out.row.shape (by simp)
    cases hv
    have hcx := H.out.row.cell (i := 0) (by simp)
    rw [bv_get _ _ (by simp)] at hcx
    dsimp only [List.getElem_cons_zero] at hcx
    rw [Nat.add_zero] at hcx
    obtain ⟨a', hsf, hsl⟩ := slice_from (kd := .i64) (k := 1) H.out.row (by rw [bv_length]) (by simp)
    rw [show ((1 : Nat) : Int) = 1 from rfl] at hsf
    have hsf := hsf w
    have hl1 : (x :: l).length - 1 = l.length := by simp
    rw [hl1] at hsf hsl
    have hset := H.out.set (L' := l) (v' := .slice a' l.length (c - 1)) hsl
    have HSET := Lib.hid hset
    have hlen1 : (x :: l).length = l.length + 1 := rfl
    rw [hlen1] at hsf cq
    have HRB := Lib.hid (show rdBool (x :: l) = if x.toNat ≤ 1 then some (x.toNat == 1, l) else none from rfl)
    clear hsl hl1 hset hlen1
    generalize x.toNat = xv at *
    by_cases h1 : xv ≤ 1
    · have h1I : (xv : Int) ≤ 1 := by omega
      go_enter Tryz.func85, Tryz.ntmps85
      go_wp2_with fail
      refine (cmust_if _ ?hb w).mono ?_
      case hb => first | rfl | (exact decide_eq_true (by omega))
      rintro e w2 ⟨rfl, h2⟩
      subst h2
      go_wp2_with fail
      refine fin hR ⟨HSET.out.2, _, _, HSET.out.1, .inl ⟨xv == 1, by rw [HRB.out, if_pos h1], ?_⟩⟩
      have h01 : xv = 0 ∨ xv = 1 := by omega
      rcases h01 with rfl | rfl <;> rfl
    · have h1I : (1 : Int) < (xv : Int) := by omega
      go_enter Tryz.func85, Tryz.ntmps85
      go_wp2_with fail
      refine (cmust_not _ ?hb w).mono ?_
      case hb => first | rfl | (exact decide_eq_false (by omega))
      rintro e w2 ⟨rfl, h2⟩
      subst h2
      go_wp2_with fail
      exact ⟨rfl, fin hR ⟨Mod.refl _ _, _, _, H.out, .inr ⟨by rw [HRB.out, if_neg h1], rfl⟩⟩⟩

end Go.Proofs.YtkeopmfmlciadaaGreat
namespace Go.Proofs.YtkeopmfmlciadaaGreat
open Go.RowKit

set_option maxRecDepth 100000 in
set_option maxHeartbeats 1000000 in
theorem rstop_idle (p k : Nat) (w : World) :
    CallsD Tryz.prog 98 #[.pointer (some ⟨p, 0, none⟩), .pointer (some ⟨k, 0, none⟩)] .returning w fun e u' w' => e = .returned (.tuple #[]) ∧ u' = .returning ∧ w' = w := by
  refine callsD_of_wpS Tryz.func98 rfl fun c₀ cs hu => ?_
  apply wpS_seq
  apply wpS_region
  simp [wpOpsS, go_sem, recoverD, hu, Tryz.ntmps98, Exit.thenS]
  refine wpS_of_wp ?_
  refine wp_mono (Q := Exit.then (fun a' w' => a'.defers = [] ∧ w' = w) Nope) ?_ ?_
  · refine wp_part fun J K' hJ hK => ?_
    simp only [Array.replicate_succ, Array.replicate_zero]
    go_wp2_with fail
    exact Met.intro (hJ _ _ ⟨rfl, rfl⟩)
  · rintro e a' w' hq
    cases e with
    | normal =>
      obtain ⟨hd, rfl⟩ := hq
      cases c₀
      simp_all [bodyPostS, results, Tryz.results98]
    | exit id => exact hq.elim
    | goto l => exact hq.elim
    | ret => exact hq.elim
    | panic ch => exact hq.elim
    | outgrown => exact hq.elim

theorem assert_stopC (w : World) (v : Value) : (Instr.typeAssert (.iface 153 v) 20 153 true).run Tryz.prog w = .ok (.tuple #[v, .bool true]) w := by kernel_rfl

set_option maxRecDepth 100000 in
set_option maxHeartbeats 1000000 in
theorem rstop_caught (p k q : Nat) (x f : Bool) (v : Value) (w : World) (hp : w.heap[p]? = some (.cells #[.pointer (some ⟨q, 0, none⟩)] 107 (0, 0))) (hk : w.heap[k]? = some (.cells #[.bool x] 4 (0, 0))) (hq : w.heap[q]? = some (.cells #[v, .bool f] 134 (0, 0))) :
    CallsD Tryz.prog 98 #[.pointer (some ⟨p, 0, none⟩), .pointer (some ⟨k, 0, none⟩)] (.panicking [{ v := stopC, recovered := false }]) w fun e u' w' =>
      e = .returned (.tuple #[]) ∧ u' = .panicking [{ v := stopC, recovered := true }] ∧ w'.heap[k]? = some (.cells #[.bool false] 4 (0, 0)) ∧ w'.heap[q]? = some (.cells #[v, .bool true] 134 (0, 0)) ∧ Mod (fun i => i = k ∨ i = q) w w' := by
  refine callsD_of_wpS Tryz.func98 rfl fun c₀ cs hu => ?_
  apply wpS_seq
  apply wpS_region
  simp [wpOpsS, go_sem, recoverD, hu, Tryz.ntmps98, Exit.thenS]
  refine wpS_of_wp ?_
  refine wp_mono (Q := Exit.then (fun a' w' => a'.defers = [] ∧ w'.heap[k]? = some (.cells #[.bool false] 4 (0, 0)) ∧ w'.heap[q]? = some (.cells #[v, .bool true] 134 (0, 0)) ∧ Mod (fun i => i = k ∨ i = q) w w') Nope) ?_ ?_
  · refine wp_part fun J K' hJ hK => ?_
    have hta := assert_stopC
    simp only [Array.replicate_succ, Array.replicate_zero]
    have hpl := lt_of_heap hp
    have hql := lt_of_heap hq
    have hkl := lt_of_heap hk
    have hqk : q ≠ k := fun e => by subst e; rw [hq] at hk; cases hk
    obtain ⟨wd, hwd⟩ : ∃ wd, wd = w.alloc (.cells #[] 153) := ⟨_, rfl⟩
    have hmd : Mod No w wd := by rw [hwd]; exact (Mod.refl No w).alloc _
    have hp1 := hmd.keep hp (fun f => f)
    have hq1 := hmd.keep hq (fun f => f)
    have hk1 := hmd.keep hk (fun f => f)
    have pc := cell_of (i := 0) hp1 rfl
    have qc := cell_of (i := 1) hq1 rfl
    have qf := frozen_of 1 hq1
    have m2 : Mod (fun i => i = q) wd (wd.setCell ⟨q, 1, none⟩ (.bool true)) := (Mod.refl (fun i => i = q) wd).setCell (fun _ => rfl) _
    have hk2 := m2.keep hk1 (Ne.symm hqk)
    have kc := cell_of (i := 0) hk2 rfl
    have kf := frozen_of 0 hk2
    have hq2 := heap_setCell hq1 (i := 1) (.bool true)
    have m3 : Mod (fun i => i = k) (wd.setCell ⟨q, 1, none⟩ (.bool true)) ((wd.setCell ⟨q, 1, none⟩ (.bool true)).setCell ⟨k, 0, none⟩ (.bool false)) := (Mod.refl (fun i => i = k) _).setCell (fun _ => rfl) _
    have R1 := Lib.hid (m3.keep hq2 hqk)
    have R2 := Lib.hid (heap_setCell hk2 (i := 0) (.bool false))
    have R3 := Lib.hid (show Mod (fun i => i = k ∨ i = q) w ((wd.setCell ⟨q, 1, none⟩ (.bool true)).setCell ⟨k, 0, none⟩ (.bool false)) from
      ((hmd.weaken fun _ _ f => f.elim).setCell (fun _ => .inr rfl) _).setCell (fun _ => .inl rfl) _)
    have HWD := Lib.hid hwd
    clear hp hq hk hmd hp1 hq1 hk1 m2 hk2 hq2 m3 hqk hpl hql hkl
    subst hwd
    go_wp2_with fail
    exact Met.intro (hJ _ _ ⟨rfl, R2.out, R1.out, R3.out⟩)
  · rintro e a' w' hq
    cases e with
    | normal =>
      obtain ⟨hd, h1, h2, h3⟩ := hq
      cases c₀
      simp_all [bodyPostS, results, Tryz.results98]
    | exit id => exact hq.elim
    | goto l => exact hq.elim
    | ret => exact hq.elim
    | panic ch => exact hq.elim
    | outgrown => exact hq.elim

end Go.Proofs.YtkeopmfmlciadaaGreat
namespace Go.Proofs.YtkeopmfmlciadaaGreat
open Go.RowKit

theorem rtry_set {q : Nat} {v : Value} {L : List UInt8} {f : Bool} {w w' : World} {S : Nat → Prop} (h : RdAt w q v L f) (hq : w'.heap[q]? = some (.cells #[v, .bool true] 134 (0, 0))) (hm : Mod S w w') (hs : ∀ k cur fz, S k → w.heap[k]? ≠ some (.cells cur 5 fz)) : RdAt w' q v L true :=
  ⟨hq, h.row.keep hm fun k cur fz s _ => hs k cur fz s⟩


set_option maxRecDepth 100000 in
set_option maxHeartbeats 1000000 in
theorem rtry_bool_failed {q : Nat} {v c1 c2 : Value} {L : List UInt8} {w : World} (h : RdAt w q v L true) :
    Calls Tryz.prog 74 #[.pointer (some ⟨q, 0, none⟩), .func (.func 84) #[] #[c1, c2]] w fun e w' => e = .returned (.bool false) ∧ Mod No w w' := by
  refine calls_hide fun R hR => ?_
  have hmf : ∀ (fn : Fn) (first cap : Array Value) (w : World), (Instr.makeFunc fn first cap).run Tryz.prog w = .ok (.func fn first cap) w := fun _ _ _ _ => rfl
  have hql := lt_of_heap h.obj
  obtain ⟨w1, hw1⟩ : ∃ w1, w1 = (w.alloc (.cells #[.pointer (some ⟨q, 0, none⟩)] 107)).alloc (.cells #[.bool false] 4) := ⟨_, rfl⟩
  have m1 : Mod No w w1 := by rw [hw1]; exact ((Mod.refl No w).alloc _).alloc _
  have cq := cell_of (i := 1) h.obj rfl
  have R3 := Lib.hid m1
  clear m1 h
  go_enter_defers Tryz.func74, Tryz.ntmps74
  subst hw1
  go_wp2_with fail
  refine ⟨.bool false, ?_, ?_⟩
  · simp [results, Tryz.results74, go_sem]
  · exact fin hR ⟨rfl, R3.out⟩

set_option maxRecDepth 100000 in
set_option maxHeartbeats 1000000 in
theorem rtry_bool {q : Nat} {v c1 c2 : Value} {L : List UInt8} {w : World} (h : RdAt w q v L false) (S : Nat → Prop) (Yes : World → Prop) (Nay : Prop) (hS : ∀ i, S i → i < w.heap.size)
    (hf : ∀ w1, Mod No w w1 → Calls Tryz.prog 84 #[c1, c2] w1 fun e w' => Mod S w1 w' ∧ ((e = .returned (.tuple #[]) ∧ Yes w') ∨ (e = StoppedC ∧ Nay ∧ ∃ v L', RdAt w' q v L' false))) :
    Calls Tryz.prog 74 #[.pointer (some ⟨q, 0, none⟩), .func (.func 84) #[] #[c1, c2]] w fun e w' => ∃ wy, Mod S w wy ∧
      ((e = .returned (.bool true) ∧ Yes wy ∧ wy.heap[w.heap.size + 1]? = some (.cells #[.bool false] 4 (0, 0)) ∧ Mod (fun i => i = w.heap.size + 1) wy w') ∨ (e = .returned (.bool false) ∧ Nay ∧ (∃ v L', RdAt w' q v L' true) ∧ Mod (fun i => i = w.heap.size + 1 ∨ i = q) wy w')) := by
  refine calls_hide fun R hR => ?_
  have hmf : ∀ (fn : Fn) (first cap : Array Value) (w : World), (Instr.makeFunc fn first cap).run Tryz.prog w = .ok (.func fn first cap) w := fun _ _ _ _ => rfl
  have hql := lt_of_heap h.obj
  obtain ⟨w1, hw1⟩ : ∃ w1, w1 = (w.alloc (.cells #[.pointer (some ⟨q, 0, none⟩)] 107)).alloc (.cells #[.bool false] 4) := ⟨_, rfl⟩
  have m1 : Mod No w w1 := by rw [hw1]; exact ((Mod.refl No w).alloc _).alloc _
  have hp : w1.heap[w.heap.size]? = some (.cells #[.pointer (some ⟨q, 0, none⟩)] 107 (0, 0)) := by
    rw [hw1]; exact heap_alloc_old _ (heap_alloc_new w _)
  have hk : w1.heap[w.heap.size + 1]? = some (.cells #[.bool false] 4 (0, 0)) := by
    rw [hw1]; exact heap_at_new _ _ (by simp)
  have cq := cell_of (i := 1) h.obj rfl
  have HF := Lib.hid (hf w1 m1)
  have HW1 := Lib.hid hw1
  have M1 := Lib.hid m1
  have HP := Lib.hid hp
  have HK := Lib.hid hk
  have HS := Lib.hid hS
  clear hf hw1 m1 hp hk hS h
  go_enter_defers Tryz.func74, Tryz.ntmps74
  go_wp2_with fail
  rw [← HW1.out]
  refine HF.out.mono ?_
  clear HF
  rintro e wy ⟨hmy, hcase⟩
  have hpy := hmy.keep HP.out (fun e => by have := HS.out _ e; omega)
  have hky := hmy.keep HK.out (fun e => by have := HS.out _ e; omega)
  have MY := Lib.hid (show Mod S w wy from (M1.out.weaken fun _ _ f => f.elim).trans hmy)
  have HPY := Lib.hid hpy
  clear HW1
  rcases hcase with ⟨rfl, hy⟩ | ⟨rfl, hna, v', L', hn⟩
  · have HY := Lib.hid (And.intro hy hky)
    have k0 := cell_of (i := 0) hky rfl
    have kf := frozen_of 0 hky
    have R2 := Lib.hid (cell_of (i := 0) (heap_setCell hky (i := 0) (.bool true)) rfl)
    have R3 := Lib.hid (show Mod (fun i => i = w.heap.size + 1) wy (wy.setCell ⟨w.heap.size + 1, 0, none⟩ (.bool true)) from (Mod.refl (fun i => i = w.heap.size + 1) wy).setCell (fun _ => rfl) _)
    clear hy hpy hky
    go_wp2_with fail
    refine leaves_cons (f := 98) (args := #[.pointer (some ⟨w.heap.size, 0, none⟩), .pointer (some ⟨w.heap.size + 1, 0, none⟩)]) (by simp) (by simp [go_sem]) ?_
    refine (rstop_idle _ _ _).mono ?_
    rintro e u' w'' ⟨rfl, rfl, rfl⟩
    have r2 := R2.out
    refine ⟨.bool true, ?_, ?_⟩
    · simp [results, Tryz.results74, go_sem, r2]
    · exact fin hR ⟨wy, MY.out, .inl ⟨rfl, HY.out.1, HY.out.2, R3.out⟩⟩
  · have HN := Lib.hid hn
    have HNA := Lib.hid hna
    have HKY := Lib.hid hky
    clear hn hna hky hpy
    go_wp2_with fail
    refine leaves_cons (f := 98) (args := #[.pointer (some ⟨w.heap.size, 0, none⟩), .pointer (some ⟨w.heap.size + 1, 0, none⟩)]) (by simp) (by simp [go_sem]) ?_
    refine (rstop_caught _ _ q _ _ _ _ HPY.out HKY.out HN.out.obj).mono ?_
    rintro e u' w'' ⟨rfl, rfl, r1, r2, hm⟩
    have hrd := rtry_set HN.out r2 hm (fun i cur fz s e => by
      rcases s with s | s
      · subst s; have h := HKY.out; rw [h] at e; cases e
      · subst s; have h := HN.out.obj; rw [h] at e; cases e)
    have r1 := cell_of (i := 0) r1 rfl
    refine ⟨.bool false, ?_, ?_⟩
    · simp [results, Tryz.results74, go_sem, r1]
    · exact fin hR ⟨wy, MY.out, .inr ⟨rfl, HNA.out, ⟨_, _, hrd⟩, hm⟩⟩

set_option maxRecDepth 100000 in
set_option maxHeartbeats 1000000 in
theorem rtry_text_failed {q : Nat} {v c1 c2 : Value} {L : List UInt8} {w : World} (h : RdAt w q v L true) :
    Calls Tryz.prog 74 #[.pointer (some ⟨q, 0, none⟩), .func (.func 86) #[] #[c1, c2]] w fun e w' => e = .returned (.bool false) ∧ Mod No w w' := by
  refine calls_hide fun R hR => ?_
  have hmf : ∀ (fn : Fn) (first cap : Array Value) (w : World), (Instr.makeFunc fn first cap).run Tryz.prog w = .ok (.func fn first cap) w := fun _ _ _ _ => rfl
  have hql := lt_of_heap h.obj
  obtain ⟨w1, hw1⟩ : ∃ w1, w1 = (w.alloc (.cells #[.pointer (some ⟨q, 0, none⟩)] 107)).alloc (.cells #[.bool false] 4) := ⟨_, rfl⟩
  have m1 : Mod No w w1 := by rw [hw1]; exact ((Mod.refl No w).alloc _).alloc _
  have cq := cell_of (i := 1) h.obj rfl
  have R3 := Lib.hid m1
  clear m1 h
  go_enter_defers Tryz.func74, Tryz.ntmps74
  subst hw1
  go_wp2_with fail
  refine ⟨.bool false, ?_, ?_⟩
  · simp [results, Tryz.results74, go_sem]
  · exact fin hR ⟨rfl, R3.out⟩

set_option maxRecDepth 100000 in
set_option maxHeartbeats 1000000 in
theorem rtry_text {q : Nat} {v c1 c2 : Value} {L : List UInt8} {w : World} (h : RdAt w q v L false) (S : Nat → Prop) (Yes : World → Prop) (Nay : Prop) (hS : ∀ i, S i → i < w.heap.size)
    (hf : ∀ w1, Mod No w w1 → Calls Tryz.prog 86 #[c1, c2] w1 fun e w' => Mod S w1 w' ∧ ((e = .returned (.tuple #[]) ∧ Yes w') ∨ (e = StoppedC ∧ Nay ∧ ∃ v L', RdAt w' q v L' false))) :
    Calls Tryz.prog 74 #[.pointer (some ⟨q, 0, none⟩), .func (.func 86) #[] #[c1, c2]] w fun e w' => ∃ wy, Mod S w wy ∧
      ((e = .returned (.bool true) ∧ Yes wy ∧ wy.heap[w.heap.size + 1]? = some (.cells #[.bool false] 4 (0, 0)) ∧ Mod (fun i => i = w.heap.size + 1) wy w') ∨ (e = .returned (.bool false) ∧ Nay ∧ (∃ v L', RdAt w' q v L' true) ∧ Mod (fun i => i = w.heap.size + 1 ∨ i = q) wy w')) := by
  refine calls_hide fun R hR => ?_
  have hmf : ∀ (fn : Fn) (first cap : Array Value) (w : World), (Instr.makeFunc fn first cap).run Tryz.prog w = .ok (.func fn first cap) w := fun _ _ _ _ => rfl
  have hql := lt_of_heap h.obj
  obtain ⟨w1, hw1⟩ : ∃ w1, w1 = (w.alloc (.cells #[.pointer (some ⟨q, 0, none⟩)] 107)).alloc (.cells #[.bool false] 4) := ⟨_, rfl⟩
  have m1 : Mod No w w1 := by rw [hw1]; exact ((Mod.refl No w).alloc _).alloc _
  have hp : w1.heap[w.heap.size]? = some (.cells #[.pointer (some ⟨q, 0, none⟩)] 107 (0, 0)) := by
    rw [hw1]; exact heap_alloc_old _ (heap_alloc_new w _)
  have hk : w1.heap[w.heap.size + 1]? = some (.cells #[.bool false] 4 (0, 0)) := by
    rw [hw1]; exact heap_at_new _ _ (by simp)
  have cq := cell_of (i := 1) h.obj rfl
  have HF := Lib.hid (hf w1 m1)
  have HW1 := Lib.hid hw1
  have M1 := Lib.hid m1
  have HP := Lib.hid hp
  have HK := Lib.hid hk
  have HS := Lib.hid hS
  clear hf hw1 m1 hp hk hS h
  go_enter_defers Tryz.func74, Tryz.ntmps74
  go_wp2_with fail
  rw [← HW1.out]
  refine HF.out.mono ?_
  clear HF
  rintro e wy ⟨hmy, hcase⟩
  have hpy := hmy.keep HP.out (fun e => by have := HS.out _ e; omega)
  have hky := hmy.keep HK.out (fun e => by have := HS.out _ e; omega)
  have MY := Lib.hid (show Mod S w wy from (M1.out.weaken fun _ _ f => f.elim).trans hmy)
  have HPY := Lib.hid hpy
  clear HW1
  rcases hcase with ⟨rfl, hy⟩ | ⟨rfl, hna, v', L', hn⟩
  · have HY := Lib.hid (And.intro hy hky)
    have k0 := cell_of (i := 0) hky rfl
    have kf := frozen_of 0 hky
    have R2 := Lib.hid (cell_of (i := 0) (heap_setCell hky (i := 0) (.bool true)) rfl)
    have R3 := Lib.hid (show Mod (fun i => i = w.heap.size + 1) wy (wy.setCell ⟨w.heap.size + 1, 0, none⟩ (.bool true)) from (Mod.refl (fun i => i = w.heap.size + 1) wy).setCell (fun _ => rfl) _)
    clear hy hpy hky
    go_wp2_with fail
    refine leaves_cons (f := 98) (args := #[.pointer (some ⟨w.heap.size, 0, none⟩), .pointer (some ⟨w.heap.size + 1, 0, none⟩)]) (by simp) (by simp [go_sem]) ?_
    refine (rstop_idle _ _ _).mono ?_
    rintro e u' w'' ⟨rfl, rfl, rfl⟩
    have r2 := R2.out
    refine ⟨.bool true, ?_, ?_⟩
    · simp [results, Tryz.results74, go_sem, r2]
    · exact fin hR ⟨wy, MY.out, .inl ⟨rfl, HY.out.1, HY.out.2, R3.out⟩⟩
  · have HN := Lib.hid hn
    have HNA := Lib.hid hna
    have HKY := Lib.hid hky
    clear hn hna hky hpy
    go_wp2_with fail
    refine leaves_cons (f := 98) (args := #[.pointer (some ⟨w.heap.size, 0, none⟩), .pointer (some ⟨w.heap.size + 1, 0, none⟩)]) (by simp) (by simp [go_sem]) ?_
    refine (rstop_caught _ _ q _ _ _ _ HPY.out HKY.out HN.out.obj).mono ?_
    rintro e u' w'' ⟨rfl, rfl, r1, r2, hm⟩
    have hrd := rtry_set HN.out r2 hm (fun i cur fz s e => by
      rcases s with s | s
      · subst s; have h := HKY.out; rw [h] at e; cases e
      · subst s; have h := HN.out.obj; rw [h] at e; cases e)
    have r1 := cell_of (i := 0) r1 rfl
    refine ⟨.bool false, ?_, ?_⟩
    · simp [results, Tryz.results74, go_sem, r1]
    · exact fin hR ⟨wy, MY.out, .inr ⟨rfl, HNA.out, ⟨_, _, hrd⟩, hm⟩⟩

end Go.Proofs.YtkeopmfmlciadaaGreat
namespace Go.Proofs.YtkeopmfmlciadaaGreat
open Go.RowKit

/-- What 60 leaves. -/
def RboolPost (w : World) (q : Nat) (L : List UInt8) (e : Ending) (w' : World) : Prop :=
  Mod (fun k => k = q) w w' ∧ ((∃ (o : Bool) (L' : List UInt8) (v : Value), rdBool L = some (o, L') ∧ e = .returned (.bool o) ∧ RdAt w' q v L' false) ∨ (rdBool L = none ∧ e = .returned (.bool false) ∧ ∃ v L', RdAt w' q v L' true))

set_option maxRecDepth 100000 in
set_option maxHeartbeats 1000000 in
theorem cbool_any {w : World} {q p k : Nat} {v0 x : Value} {L : List UInt8} (h : RdAt w q v0 L false) (_ : L.length ≤ 1000000000) (hp : w.heap[p]? = some (.cells #[.pointer (some ⟨q, 0, none⟩)] 107 (0, 0))) (hk : w.heap[k]? = some (.cells #[x] 4 (0, 0))) (hx : ∃ o : Bool, x = .bool o) :
    Calls Tryz.prog 84 #[.pointer (some ⟨p, 0, none⟩), .pointer (some ⟨k, 0, none⟩)] w fun e w' => Mod (fun i => i = q ∨ i = k) w w' ∧
      ((e = .returned (.tuple #[]) ∧ ∃ (o : Bool) (L' : List UInt8) (v : Value), rdBool L = some (o, L') ∧ RdAt w' q v L' false ∧ w'.heap[k]? = some (.cells #[.bool o] 4 (0, 0))) ∨ (e = StoppedC ∧ rdBool L = none ∧ ∃ v L', RdAt w' q v L' false)) := by
  refine calls_hide fun R hR => ?_
  obtain ⟨o0, rfl⟩ := hx
  have pc := cell_of (i := 0) hp rfl
  have HI := Lib.hid (rbool_any h)
  have HK := Lib.hid hk
  have hqk : k ≠ q := fun e => by subst e; rw [h.obj] at hk; cases hk
  clear h hp hk
  go_enter Tryz.func84, Tryz.ntmps84
  go_wp2_with fail
  with_reducible refine HI.out.mono ?_
  clear HI
  rintro e w1 ⟨hm, v, L', hrd, ⟨o, hn, rfl⟩ | ⟨hn, rfl⟩⟩
  · have hk1 := hm.keep HK.out hqk
    have kc := cell_of (i := 0) hk1 rfl
    have kf := frozen_of 0 hk1
    have hms : Mod (fun i => i = k) w1 (w1.setCell ⟨k, 0, none⟩ (.bool o)) := (Mod.refl (fun i => i = k) w1).setCell (fun _ => rfl) _
    have R1 := Lib.hid (show Mod (fun i => i = q ∨ i = k) w (w1.setCell ⟨k, 0, none⟩ (.bool o)) from (hm.weaken fun _ _ e => .inl e).trans (hms.weaken fun _ _ e => .inr e))
    have R2 := Lib.hid (And.intro hn (And.intro (hrd.keep hms (fun e => hqk e.symm) (fun i cur fz s e => by subst s; rw [hk1] at e; cases e)) (heap_setCell hk1 (i := 0) (.bool o))))
    clear hm hrd hk1 hms hn
    go_wp2_with fail
    go_end0
    exact fin hR ⟨R1.out, .inl ⟨rfl, _, _, _, R2.out.1, R2.out.2.1, R2.out.2.2⟩⟩
  · have HX := Lib.hid (And.intro hm (And.intro hn hrd))
    clear hm hn hrd
    go_wp2_with fail
    exact ⟨rfl, fin hR ⟨HX.out.1.weaken fun _ _ e => .inl e, .inr ⟨rfl, HX.out.2.1, _, _, HX.out.2.2⟩⟩⟩

set_option maxRecDepth 100000 in
set_option maxHeartbeats 1000000 in
theorem rbool_ok {w : World} {q : Nat} {v0 : Value} {L : List UInt8} (h : RdAt w q v0 L false) (hL : L.length ≤ 1000000000) :
    Calls Tryz.prog 60 #[.pointer (some ⟨q, 0, none⟩)] w (RboolPost w q L) := by
  refine calls_hide fun R hR => ?_
  have hmf : ∀ (fn : Fn) (first cap : Array Value) (w : World), (Instr.makeFunc fn first cap).run Tryz.prog w = .ok (.func fn first cap) w := fun _ _ _ _ => rfl
  have hql := lt_of_heap h.obj
  obtain ⟨w1, hw1⟩ : ∃ w1, w1 = (w.alloc (.cells #[.pointer (some ⟨q, 0, none⟩)] 107)).alloc (.cells #[.bool false] 4) := ⟨_, rfl⟩
  have m1 : Mod No w w1 := by rw [hw1]; exact ((Mod.refl No w).alloc _).alloc _
  have hz1 : w1.heap.size = w.heap.size + 2 := by rw [hw1]; simp
  have hp : w1.heap[w.heap.size]? = some (.cells #[.pointer (some ⟨q, 0, none⟩)] 107 (0, 0)) := by
    rw [hw1]; exact heap_alloc_old _ (heap_alloc_new w _)
  have hk : w1.heap[w.heap.size + 1]? = some (.cells #[.bool false] 4 (0, 0)) := by
    rw [hw1]; exact heap_at_new _ _ (by simp)
  have HT := Lib.hid (rtry_bool (c1 := .pointer (some ⟨w.heap.size, 0, none⟩)) (c2 := .pointer (some ⟨w.heap.size + 1, 0, none⟩)) (h.stay m1) (fun i => i = q ∨ i = w.heap.size + 1) (fun wy => ∃ (o : Bool) (L' : List UInt8) (v : Value), rdBool L = some (o, L') ∧ RdAt wy q v L' false ∧ wy.heap[w.heap.size + 1]? = some (.cells #[.bool o] 4 (0, 0))) (rdBool L = none) (fun i e => by omega)
    (fun w2 hm2 => cbool_any ((h.stay m1).stay hm2) hL (hm2.keep hp (fun f => f)) (hm2.keep hk (fun f => f)) ⟨_, rfl⟩))
  have pc := cell_of (i := 0) hp rfl
  have M1 := Lib.hid m1
  have HW1 := Lib.hid hw1
  have HZ := Lib.hid hz1
  have HL2 := Lib.hid h
  clear hw1 m1 hz1 hp hk h hL
  go_enter Tryz.func60, Tryz.ntmps60
  go_wp2_with fail
  rw [← HW1.out]
  with_reducible refine HT.out.mono ?_
  clear HT
  rintro e w2 ⟨wy, hmy, ⟨rfl, ⟨o, L', v, hn, hrd, hk⟩, hok, hm2⟩ | ⟨rfl, hn, ⟨v, L', hrd⟩, hm2⟩⟩
  · have hk2 := hm2.keep hk (by have := HZ.out; omega)
    have kc := cell_of (i := 0) hk2 rfl
    have HX := Lib.hid (show Mod (fun i => i = q) w w2 ∧ rdBool L = some (o, L') ∧ RdAt w2 q v L' false from ⟨((M1.out.weaken fun _ _ f => f.elim : Mod (fun i => i = q) w w1).then hmy (fun i hi e => by omega)).then hm2 (fun i hi e => by have := HZ.out; omega), hn, hrd.keep hm2 (fun e => by have := HZ.out; omega) (fun i cur fz s e => by subst s; rw [hok] at e; cases e)⟩)
    clear hmy hm2 hn hrd hk hk2 hok HW1
    go_wp2_with fail
    exact fin hR ⟨HX.out.1, .inl ⟨_, _, _, HX.out.2.1, rfl, HX.out.2.2⟩⟩
  · have HX := Lib.hid (show Mod (fun i => i = q) w w2 ∧ rdBool L = none ∧ RdAt w2 q v L' true from ⟨((M1.out.weaken fun _ _ f => f.elim : Mod (fun i => i = q) w w1).then hmy (fun i hi e => by omega)).then hm2 (fun i hi e => by have := HZ.out; omega), hn, hrd⟩)
    clear hmy hm2 hn hrd HW1
    go_wp2_with fail
    exact fin hR ⟨HX.out.1, .inr ⟨HX.out.2.1, rfl, _, _, HX.out.2.2⟩⟩

set_option maxRecDepth 100000 in
theorem rbool_failed {w : World} {q : Nat} {v0 : Value} {L : List UInt8} (h : RdAt w q v0 L true) :
    Calls Tryz.prog 60 #[.pointer (some ⟨q, 0, none⟩)] w fun e w' => e = .returned (.bool false) ∧ Mod No w w' := by
  refine calls_hide fun R hR => ?_
  have hmf : ∀ (fn : Fn) (first cap : Array Value) (w : World), (Instr.makeFunc fn first cap).run Tryz.prog w = .ok (.func fn first cap) w := fun _ _ _ _ => rfl
  have hql := lt_of_heap h.obj
  obtain ⟨w1, hw1⟩ : ∃ w1, w1 = (w.alloc (.cells #[.pointer (some ⟨q, 0, none⟩)] 107)).alloc (.cells #[.bool false] 4) := ⟨_, rfl⟩
  have m1 : Mod No w w1 := by rw [hw1]; exact ((Mod.refl No w).alloc _).alloc _
  have HT := Lib.hid (rtry_bool_failed (c1 := .pointer (some ⟨w.heap.size, 0, none⟩)) (c2 := .pointer (some ⟨w.heap.size + 1, 0, none⟩)) (h.stay m1))
  have M1 := Lib.hid m1
  have HW1 := Lib.hid hw1
  clear hw1 m1 h
  go_enter Tryz.func60, Tryz.ntmps60
  go_wp2_with fail
  rw [← HW1.out]
  with_reducible refine HT.out.mono ?_
  clear HT
  rintro e w2 ⟨rfl, hm2⟩
  have M2 := Lib.hid (M1.out.trans hm2)
  clear hm2 HW1
  go_wp2_with fail
  exact fin hR ⟨rfl, M2.out⟩

/-- What 61 leaves. -/
def RtextPost (w : World) (q : Nat) (L : List UInt8) (e : Ending) (w' : World) : Prop :=
  Mod (fun k => k = q) w w' ∧ ((∃ (o : List UInt8) (L' : List UInt8) (v : Value), rdText L = some (o, L') ∧ e = .returned (.string ⟨o.toArray⟩) ∧ RdAt w' q v L' false) ∨ (rdText L = none ∧ e = .returned (.string ⟨#[]⟩) ∧ ∃ v L', RdAt w' q v L' true))

set_option maxRecDepth 100000 in
set_option maxHeartbeats 1000000 in
theorem ctext_any {w : World} {q p k : Nat} {v0 x : Value} {L : List UInt8} (h : RdAt w q v0 L false) (hL : L.length ≤ 1000000000) (hp : w.heap[p]? = some (.cells #[.pointer (some ⟨q, 0, none⟩)] 107 (0, 0))) (hk : w.heap[k]? = some (.cells #[x] 9 (0, 0))) (hx : ∃ o : List UInt8, x = .string ⟨o.toArray⟩) :
    Calls Tryz.prog 86 #[.pointer (some ⟨p, 0, none⟩), .pointer (some ⟨k, 0, none⟩)] w fun e w' => Mod (fun i => i = q ∨ i = k) w w' ∧
      ((e = .returned (.tuple #[]) ∧ ∃ (o : List UInt8) (L' : List UInt8) (v : Value), rdText L = some (o, L') ∧ RdAt w' q v L' false ∧ w'.heap[k]? = some (.cells #[.string ⟨o.toArray⟩] 9 (0, 0))) ∨ (e = StoppedC ∧ rdText L = none ∧ ∃ v L', RdAt w' q v L' false)) := by
  refine calls_hide fun R hR => ?_
  obtain ⟨o0, rfl⟩ := hx
  have pc := cell_of (i := 0) hp rfl
  have HI := Lib.hid (rtext_any h hL)
  have HK := Lib.hid hk
  have hqk : k ≠ q := fun e => by subst e; rw [h.obj] at hk; cases hk
  clear h hp hk hL
  go_enter Tryz.func86, Tryz.ntmps86
  go_wp2_with fail
  with_reducible refine HI.out.mono ?_
  clear HI
  rintro e w1 ⟨hm, v, L', hrd, ⟨o, hn, rfl⟩ | ⟨hn, rfl⟩⟩
  · have hk1 := hm.keep HK.out hqk
    have kc := cell_of (i := 0) hk1 rfl
    have kf := frozen_of 0 hk1
    have hms : Mod (fun i => i = k) w1 (w1.setCell ⟨k, 0, none⟩ (.string ⟨o.toArray⟩)) := (Mod.refl (fun i => i = k) w1).setCell (fun _ => rfl) _
    have R1 := Lib.hid (show Mod (fun i => i = q ∨ i = k) w (w1.setCell ⟨k, 0, none⟩ (.string ⟨o.toArray⟩)) from (hm.weaken fun _ _ e => .inl e).trans (hms.weaken fun _ _ e => .inr e))
    have R2 := Lib.hid (And.intro hn (And.intro (hrd.keep hms (fun e => hqk e.symm) (fun i cur fz s e => by subst s; rw [hk1] at e; cases e)) (heap_setCell hk1 (i := 0) (.string ⟨o.toArray⟩))))
    clear hm hrd hk1 hms hn
    go_wp2_with fail
    go_end0
    exact fin hR ⟨R1.out, .inl ⟨rfl, _, _, _, R2.out.1, R2.out.2.1, R2.out.2.2⟩⟩
  · have HX := Lib.hid (And.intro hm (And.intro hn hrd))
    clear hm hn hrd
    go_wp2_with fail
    exact ⟨rfl, fin hR ⟨HX.out.1.weaken fun _ _ e => .inl e, .inr ⟨rfl, HX.out.2.1, _, _, HX.out.2.2⟩⟩⟩

set_option maxRecDepth 100000 in
set_option maxHeartbeats 1000000 in
theorem rtext_ok {w : World} {q : Nat} {v0 : Value} {L : List UInt8} (h : RdAt w q v0 L false) (hL : L.length ≤ 1000000000) :
    Calls Tryz.prog 61 #[.pointer (some ⟨q, 0, none⟩)] w (RtextPost w q L) := by
  refine calls_hide fun R hR => ?_
  have hmf : ∀ (fn : Fn) (first cap : Array Value) (w : World), (Instr.makeFunc fn first cap).run Tryz.prog w = .ok (.func fn first cap) w := fun _ _ _ _ => rfl
  have hql := lt_of_heap h.obj
  obtain ⟨w1, hw1⟩ : ∃ w1, w1 = (w.alloc (.cells #[.pointer (some ⟨q, 0, none⟩)] 107)).alloc (.cells #[.string ⟨#[]⟩] 9) := ⟨_, rfl⟩
  have m1 : Mod No w w1 := by rw [hw1]; exact ((Mod.refl No w).alloc _).alloc _
  have hz1 : w1.heap.size = w.heap.size + 2 := by rw [hw1]; simp
  have hp : w1.heap[w.heap.size]? = some (.cells #[.pointer (some ⟨q, 0, none⟩)] 107 (0, 0)) := by
    rw [hw1]; exact heap_alloc_old _ (heap_alloc_new w _)
  have hk : w1.heap[w.heap.size + 1]? = some (.cells #[.string ⟨#[]⟩] 9 (0, 0)) := by
    rw [hw1]; exact heap_at_new _ _ (by simp)
  have HT := Lib.hid (rtry_text (c1 := .pointer (some ⟨w.heap.size, 0, none⟩)) (c2 := .pointer (some ⟨w.heap.size + 1, 0, none⟩)) (h.stay m1) (fun i => i = q ∨ i = w.heap.size + 1) (fun wy => ∃ (o : List UInt8) (L' : List UInt8) (v : Value), rdText L = some (o, L') ∧ RdAt wy q v L' false ∧ wy.heap[w.heap.size + 1]? = some (.cells #[.string ⟨o.toArray⟩] 9 (0, 0))) (rdText L = none) (fun i e => by omega)
    (fun w2 hm2 => ctext_any ((h.stay m1).stay hm2) hL (hm2.keep hp (fun f => f)) (hm2.keep hk (fun f => f)) ⟨[], rfl⟩))
  have pc := cell_of (i := 0) hp rfl
  have M1 := Lib.hid m1
  have HW1 := Lib.hid hw1
  have HZ := Lib.hid hz1
  have HL2 := Lib.hid h
  clear hw1 m1 hz1 hp hk h hL
  go_enter Tryz.func61, Tryz.ntmps61
  go_wp2_with fail
  rw [← HW1.out]
  with_reducible refine HT.out.mono ?_
  clear HT
  rintro e w2 ⟨wy, hmy, ⟨rfl, ⟨o, L', v, hn, hrd, hk⟩, hok, hm2⟩ | ⟨rfl, hn, ⟨v, L', hrd⟩, hm2⟩⟩
  · have hk2 := hm2.keep hk (by have := HZ.out; omega)
    have kc := cell_of (i := 0) hk2 rfl
    have HX := Lib.hid (show Mod (fun i => i = q) w w2 ∧ rdText L = some (o, L') ∧ RdAt w2 q v L' false from ⟨((M1.out.weaken fun _ _ f => f.elim : Mod (fun i => i = q) w w1).then hmy (fun i hi e => by omega)).then hm2 (fun i hi e => by have := HZ.out; omega), hn, hrd.keep hm2 (fun e => by have := HZ.out; omega) (fun i cur fz s e => by subst s; rw [hok] at e; cases e)⟩)
    clear hmy hm2 hn hrd hk hk2 hok HW1
    go_wp2_with fail
    exact fin hR ⟨HX.out.1, .inl ⟨_, _, _, HX.out.2.1, rfl, HX.out.2.2⟩⟩
  · have HX := Lib.hid (show Mod (fun i => i = q) w w2 ∧ rdText L = none ∧ RdAt w2 q v L' true from ⟨((M1.out.weaken fun _ _ f => f.elim : Mod (fun i => i = q) w w1).then hmy (fun i hi e => by omega)).then hm2 (fun i hi e => by have := HZ.out; omega), hn, hrd⟩)
    clear hmy hm2 hn hrd HW1
    go_wp2_with fail
    exact fin hR ⟨HX.out.1, .inr ⟨HX.out.2.1, rfl, _, _, HX.out.2.2⟩⟩

set_option maxRecDepth 100000 in
theorem rtext_failed {w : World} {q : Nat} {v0 : Value} {L : List UInt8} (h : RdAt w q v0 L true) :
    Calls Tryz.prog 61 #[.pointer (some ⟨q, 0, none⟩)] w fun e w' => e = .returned (.string ⟨#[]⟩) ∧ Mod No w w' := by
  refine calls_hide fun R hR => ?_
  have hmf : ∀ (fn : Fn) (first cap : Array Value) (w : World), (Instr.makeFunc fn first cap).run Tryz.prog w = .ok (.func fn first cap) w := fun _ _ _ _ => rfl
  have hql := lt_of_heap h.obj
  obtain ⟨w1, hw1⟩ : ∃ w1, w1 = (w.alloc (.cells #[.pointer (some ⟨q, 0, none⟩)] 107)).alloc (.cells #[.string ⟨#[]⟩] 9) := ⟨_, rfl⟩
  have m1 : Mod No w w1 := by rw [hw1]; exact ((Mod.refl No w).alloc _).alloc _
  have HT := Lib.hid (rtry_text_failed (c1 := .pointer (some ⟨w.heap.size, 0, none⟩)) (c2 := .pointer (some ⟨w.heap.size + 1, 0, none⟩)) (h.stay m1))
  have M1 := Lib.hid m1
  have HW1 := Lib.hid hw1
  clear hw1 m1 h
  go_enter Tryz.func61, Tryz.ntmps61
  go_wp2_with fail
  rw [← HW1.out]
  with_reducible refine HT.out.mono ?_
  clear HT
  rintro e w2 ⟨rfl, hm2⟩
  have M2 := Lib.hid (M1.out.trans hm2)
  clear hm2 HW1
  go_wp2_with fail
  exact fin hR ⟨rfl, M2.out⟩

/-- Done. -/
def doneI (L : List UInt8) (f : Bool) : Int := if f = true ∨ 0 < L.length then 20 else 0

theorem rdone_any {w : World} {q : Nat} {v0 : Value} {L : List UInt8} {f : Bool} (h : RdAt w q v0 L f) :
    Calls Tryz.prog 52 #[.pointer (some ⟨q, 0, none⟩)] w fun e w' => e = .returned (.int .i64 (doneI L f)) ∧ w' = w := by
  refine calls_hide fun R hR => ?_
  obtain ⟨a, c, rfl⟩ := h.row.len
  have c0 := cell_of (i := 0) h.obj rfl
  have c1 := cell_of (i := 1) h.obj rfl
  clear h
  cases f with
  | true =>
    have HE := Lib.hid (show doneI L true = 20 by unfold doneI; rw [if_pos (.inl rfl)])
    go_enter Tryz.func52, Tryz.ntmps52
    go_wp2_with fail
    exact fin hR ⟨by rw [HE.out]; rfl, rfl⟩
  | false =>
    by_cases hl : 0 < L.length
    · have HE := Lib.hid (show doneI L false = 20 by unfold doneI; rw [if_pos (.inr hl)])
      have hlI : (0 : Int) < (L.length : Int) := by omega
      generalize L.length = n at *
      go_enter Tryz.func52, Tryz.ntmps52
      go_wp2_with fail
      exact fin hR ⟨by rw [HE.out]; rfl, rfl⟩
    · have HE := Lib.hid (show doneI L false = 0 by unfold doneI; rw [if_neg (by rintro (h | h) <;> simp_all)])
      have hl0 : L.length = 0 := by omega
      rw [hl0] at c0
      clear hl hl0
      go_enter Tryz.func52, Tryz.ntmps52
      go_wp2_with fail
      exact fin hR ⟨by first | (rw [HE.out]; rfl) | rw [HE.out], rfl⟩

end Go.Proofs.YtkeopmfmlciadaaGreat
