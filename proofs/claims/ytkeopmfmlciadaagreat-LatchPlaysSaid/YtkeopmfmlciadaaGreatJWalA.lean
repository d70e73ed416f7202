/-
  Layer 4, the log: try. No statement is proved here; no condition.
-/
import Derived.Test.YtkeopmfmlciadaaGreatJBaseA
import Derived.Test.YtkeopmfmlciadaaGreatJBase
import Derived.Laws.Bits64b
import Derived.OwnWalk
import Derived.Defers
import Derived.Recover
namespace Go.Proofs.YtkeopmfmlciadaaGreat

/-- A number out of bytes, the greatest first. -/
def getN (l : List UInt8) : Nat := l.foldl (fun n x => (n * 256 + x.toNat) % 18446744073709551616) 0

/-- A number as m bytes, the greatest first. -/
def be (m n : Nat) : List UInt8 := (List.range m).map fun i => UInt8.ofNat (n / 2 ^ (8 * (m - 1 - i)))

theorem be_len (m n : Nat) : (be m n).length = m := by simp [be]

theorem be_part (m n : Nat) (hm : m ≤ 8) (hn : n < 2 ^ (8 * m)) : ∀ k, k ≤ m → ((List.range k).map fun i => UInt8.ofNat (n / 2 ^ (8 * (m - 1 - i)))).foldl (fun n x => (n * 256 + x.toNat) % 18446744073709551616) 0 = n / 2 ^ (8 * (m - k)) := by
  intro k
  induction k with
  | zero =>
    intro _
    rw [Nat.sub_zero, Nat.div_eq_of_lt hn]; rfl
  | succ k ih =>
    intro hk
    rw [List.range_succ, List.map_append, List.foldl_append, ih (by omega)]
    simp only [List.map_cons, List.map_nil, List.foldl_cons, List.foldl_nil]
    have e : m - k = (m - 1 - k) + 1 := by omega
    have e2 : m - (k + 1) = m - 1 - k := by omega
    rw [e2, e]
    generalize hD : 2 ^ (8 * (m - 1 - k)) = D
    have hD2 : 2 ^ (8 * (m - 1 - k + 1)) = D * 256 := by rw [← hD, show 8 * (m - 1 - k + 1) = 8 * (m - 1 - k) + 8 by omega, Nat.pow_add]
    rw [hD2, ← Nat.div_div_eq_div_mul]
    have h1 : (UInt8.ofNat (n / D)).toNat = n / D % 256 := by simp
    rw [h1]
    have h2 : n / D / 256 * 256 + n / D % 256 = n / D := by omega
    rw [h2]
    have h3 : n / D ≤ n := Nat.div_le_self _ _
    have h4 : (2 : Nat) ^ (8 * m) ≤ 2 ^ 64 := Nat.pow_le_pow_right (by omega) (by omega)
    exact Nat.mod_eq_of_lt (by omega)

theorem getN_be (m n : Nat) (hm : m ≤ 8) (hn : n < 2 ^ (8 * m)) : getN (be m n) = n := by
  have := be_part m n hm hn m (Nat.le_refl _)
  rw [Nat.sub_self] at this
  simpa [getN, be] using this

theorem getN_zeros (m : Nat) : getN (List.replicate m 0) = 0 := by
  unfold getN
  induction m with
  | zero => rfl
  | succ m ih => rw [List.replicate_succ, List.foldl_cons]; exact ih

def sign : List UInt8 := [72, 65, 86, 69, 82, 83, 65, 75]
/-- A record in a frame. -/
def recB (r : List UInt8) : List UInt8 := be 4 r.length ++ r
def bodyB (rs : List (List UInt8)) : List UInt8 := rs.flatMap recB
def frameB (turn next : Nat) (rs : List (List UInt8)) : List UInt8 := sign ++ (be 8 turn ++ (be 8 next ++ (be 8 (bodyB rs).length ++ bodyB rs)))

theorem frameB_len (turn next : Nat) (rs : List (List UInt8)) : (frameB turn next rs).length = 32 + (bodyB rs).length := by
  simp [frameB, be_len, sign]; omega

/-- How many sectors so many bytes take. -/
def secs (size n : Nat) : Nat := n / size + min (n % size) 1

theorem secs_up {size n : Nat} (hs : 0 < size) : n ≤ secs size n * size := by
  unfold secs
  have h := Nat.div_add_mod n size
  have h2 := Nat.mod_lt n hs
  rcases Nat.eq_zero_or_pos (n % size) with e | e
  · rw [e] at h ⊢; simp; rw [Nat.mul_comm]; omega
  · rw [show min (n % size) 1 = 1 by omega, Nat.add_mul, Nat.mul_comm]; omega

theorem secs_pos {size n : Nat} (hn : 0 < n) : 0 < secs size n := by
  unfold secs
  rcases Nat.eq_zero_or_pos (n % size) with e | e
  · have h := Nat.div_add_mod n size
    rw [e] at h
    have : 0 < n / size := by
      rcases Nat.eq_zero_or_pos (n / size) with e2 | e2
      · rw [e2] at h; simp at h; omega
      · exact e2
    exact Nat.lt_of_lt_of_le this (Nat.le_add_right _ _)
  · rw [show min (n % size) 1 = 1 by omega]
    exact Nat.succ_pos _

theorem secs_le {size n k : Nat} (hs : 0 < size) (h : n ≤ k * size) : secs size n ≤ k := by
  unfold secs
  have h1 := Nat.div_add_mod n size
  have h2 := Nat.mod_lt n hs
  rcases Nat.eq_zero_or_pos (n % size) with e | e
  · rw [e]
    have : n / size ≤ k := Nat.div_le_of_le_mul (by rw [Nat.mul_comm]; exact h)
    omega
  · have : n / size < k := Nat.div_lt_of_lt_mul (by
      rcases Nat.lt_or_ge n (k * size) with g | g
      · rw [Nat.mul_comm]; exact g
      · have : n = k * size := by omega
        rw [this, Nat.mul_mod_left] at e; omega)
    omega

/-- The records of a frame's bytes. -/
def parse : Nat → List UInt8 → Option (List (List UInt8))
  | _, [] => some []
  | 0, _ => none
  | f + 1, x :: l => if (x :: l).length < 4 then none else if getN ((x :: l).take 4) ≤ (x :: l).length - 4 then
      (parse f ((x :: l).drop (4 + getN ((x :: l).take 4)))).map ((((x :: l).drop 4).take (getN ((x :: l).take 4))) :: ·) else none

theorem parse_body : ∀ (rs : List (List UInt8)), (∀ r ∈ rs, r.length < 4294967296) → ∀ f, (bodyB rs).length ≤ f → parse f (bodyB rs) = some rs
  | [], _, f, _ => by cases f <;> rfl
  | r :: rs, h, f, hf => by
    have hb : bodyB (r :: rs) = be 4 r.length ++ (r ++ bodyB rs) := by simp [bodyB, recB]
    have hg : getN (be 4 r.length) = r.length := getN_be 4 _ (by omega) (by have := h r (by simp); omega)
    have hl : (be 4 r.length).length = 4 := be_len _ _
    rw [hb] at hf ⊢
    have hlen : (be 4 r.length ++ (r ++ bodyB rs)).length = 4 + (r.length + (bodyB rs).length) := by simp [hl]
    generalize hL : be 4 r.length ++ (r ++ bodyB rs) = L at *
    match L, f, hL, hlen with
    | [], _, _, hlen => simp at hlen; omega
    | x :: l, 0, _, hlen => rw [hlen] at hf; omega
    | x :: l, f + 1, hL, hlen =>
      have t4 : (x :: l).take 4 = be 4 r.length := by rw [← hL, List.take_append_of_le_length (by omega), List.take_of_length_le (by omega)]
      have d4 : (x :: l).drop 4 = r ++ bodyB rs := by rw [← hL, List.drop_append_of_le_length (by omega), List.drop_of_length_le (by omega), List.nil_append]
      have hd : (x :: l).drop (4 + r.length) = bodyB rs := by rw [← List.drop_drop, d4, List.drop_append_of_le_length (by omega), List.drop_of_length_le (by omega), List.nil_append]
      unfold parse
      rw [t4, hg, hd, if_neg (by omega), if_pos (by omega), parse_body rs (fun r' hr => h r' (by simp [hr])) f (by omega), d4, List.take_append_of_le_length (by omega), List.take_of_length_le (by omega)]
      rfl

/-- The bytes of k sectors from base on, without their ends. -/
def rdAll (S : Nat → List UInt8) (base size k : Nat) : List UInt8 := (List.range k).flatMap fun i => (S (base + i)).take size

/-- A frame of a side, at a sector: its turn, its records, the sector behind it; or it is none. -/
def rd (S : Nat → List UInt8) (h size side at_ next : Nat) : Option (Nat × List (List UInt8) × Nat) :=
  if at_ < h then
    if ((S (side * h + at_)).take size).take 8 = sign ∧ getN ((((S (side * h + at_)).take size).drop 16).take 8) = next ∧
        getN (((S (side * h + at_)).drop size).take 8) = getN ((((S (side * h + at_)).take size).drop 8).take 8) ∧ getN (((S (side * h + at_)).drop size).drop 8) = (next + 1) % 18446744073709551616 ∧
        getN ((((S (side * h + at_)).take size).drop 24).take 8) + 32 ≤ (h - at_) * size then
      (parse (getN ((((S (side * h + at_)).take size).drop 24).take 8)) (((rdAll S (side * h + at_) size (secs size (32 + getN ((((S (side * h + at_)).take size).drop 24).take 8)))).drop 32).take (getN ((((S (side * h + at_)).take size).drop 24).take 8)))).map
        fun rs => (getN ((((S (side * h + at_)).take size).drop 8).take 8), rs, at_ + secs size (32 + getN ((((S (side * h + at_)).take size).drop 24).take 8)))
    else none
  else none

/-- A sector of a frame, as it is written. -/
def laidAt (size turn next : Nat) (b : List UInt8) (i : Nat) : List UInt8 :=
  ((b.drop (i * size)).take size ++ List.replicate (size - ((b.drop (i * size)).take size).length) 0) ++ if i = 0 then be 8 turn ++ be 8 (next + 1) else List.replicate 16 0

theorem laidAt_take (size turn next : Nat) (b : List UInt8) (i : Nat) : (laidAt size turn next b i).take size = (b.drop (i * size)).take size ++ List.replicate (size - ((b.drop (i * size)).take size).length) 0 := by
  unfold laidAt
  have hl : ((b.drop (i * size)).take size ++ List.replicate (size - ((b.drop (i * size)).take size).length) (0 : UInt8)).length = size := by
    have := List.length_take_le size (b.drop (i * size))
    simp only [List.length_append, List.length_replicate]; omega
  rw [List.take_append_of_le_length (by omega), List.take_of_length_le (by omega)]

theorem laidAt_drop (size turn next : Nat) (b : List UInt8) (i : Nat) : (laidAt size turn next b i).drop size = if i = 0 then be 8 turn ++ be 8 (next + 1) else List.replicate 16 0 := by
  unfold laidAt
  have hl : ((b.drop (i * size)).take size ++ List.replicate (size - ((b.drop (i * size)).take size).length) (0 : UInt8)).length = size := by
    have := List.length_take_le size (b.drop (i * size))
    simp only [List.length_append, List.length_replicate]; omega
  rw [List.drop_append_of_le_length (by omega), List.drop_of_length_le (by omega), List.nil_append]

theorem laidAt_len (size turn next : Nat) (b : List UInt8) (i : Nat) : (laidAt size turn next b i).length = size + 16 := by
  have h1 := List.length_take_le size (b.drop (i * size))
  unfold laidAt
  simp only [List.length_append, List.length_replicate]
  split
  · simp only [List.length_append, be_len]; omega
  · simp only [List.length_replicate]; omega

theorem rdAll_laid {S : Nat → List UInt8} {base size turn next : Nat} {b : List UInt8} : ∀ k, (∀ i, i < k → S (base + i) = laidAt size turn next b i) → rdAll S base size k = b.take (k * size) ++ List.replicate (k * size - b.length) 0
  | 0, _ => by simp [rdAll]
  | k + 1, h => by
    have ih := rdAll_laid k fun i hi => h i (by omega)
    unfold rdAll at ih ⊢
    rw [List.range_succ, List.flatMap_append, ih]
    simp only [List.flatMap_cons, List.flatMap_nil, List.append_nil]
    rw [h k (by omega), laidAt_take]
    have e : (k + 1) * size = k * size + size := Nat.succ_mul _ _
    rw [e]
    generalize k * size = m
    have hl : ((b.drop m).take size).length = min size (b.length - m) := by simp
    rw [hl]
    rcases Nat.le_total b.length m with g | g
    · have e1 : b.drop m = [] := List.drop_of_length_le g
      rw [e1, List.take_nil, List.nil_append, List.take_of_length_le g, List.take_of_length_le (show b.length ≤ m + size by omega), List.append_assoc, List.replicate_append_replicate]
      congr 2; omega
    · rw [show m - b.length = 0 by omega, List.replicate_zero, List.append_nil, List.take_add, List.append_assoc]
      congr 3; omega

theorem rd_laid {S : Nat → List UInt8} {h size side at_ turn next : Nat} {rs : List (List UInt8)} (hsz : 32 ≤ size) (ht : turn < 18446744073709551616) (hn : next + 1 < 18446744073709551616)
    (hr : ∀ r ∈ rs, r.length < 4294967296) (hb : (bodyB rs).length < 18446744073709551616) (hk : at_ + secs size (32 + (bodyB rs).length) ≤ h)
    (hS : ∀ i, i < secs size (32 + (bodyB rs).length) → S (side * h + at_ + i) = laidAt size turn next (frameB turn next rs) i) :
    rd S h size side at_ next = some (turn, rs, at_ + secs size (32 + (bodyB rs).length)) := by
  have hpos : 0 < secs size (32 + (bodyB rs).length) := secs_pos (by omega)
  have hup := secs_up (size := size) (n := 32 + (bodyB rs).length) (by omega)
  have h0 := hS 0 hpos
  rw [Nat.add_zero] at h0
  have hfl := frameB_len turn next rs
  have hall := rdAll_laid (base := side * h + at_) _ hS
  rw [List.take_of_length_le (by rw [hfl]; exact hup)] at hall
  have hx : (S (side * h + at_)).take size = (frameB turn next rs).take size ++ List.replicate (size - ((frameB turn next rs).take size).length) 0 := by
    rw [h0, laidAt_take]; simp
  have hd : (S (side * h + at_)).drop size = be 8 turn ++ be 8 (next + 1) := by rw [h0, laidAt_drop]; rfl
  have hfs : ((frameB turn next rs).take size).length = min size (32 + (bodyB rs).length) := by rw [List.length_take, hfl]
  have field : ∀ o, o + 8 ≤ 32 → (((S (side * h + at_)).take size).drop o).take 8 = ((frameB turn next rs).drop o).take 8 := fun o ho => by
    rw [hx, List.drop_append_of_le_length (by omega), List.take_append_of_le_length (by rw [List.length_drop]; omega), List.drop_take, List.take_take]
    congr 1; omega
  have e8 : ∀ n, (be 8 n).length = 8 := fun n => be_len 8 n
  have d8 : (frameB turn next rs).drop 8 = be 8 turn ++ (be 8 next ++ (be 8 (bodyB rs).length ++ bodyB rs)) := List.drop_left' rfl
  have d16 : (frameB turn next rs).drop 16 = be 8 next ++ (be 8 (bodyB rs).length ++ bodyB rs) := by
    rw [show 16 = 8 + 8 from rfl, ← List.drop_drop, d8]; exact List.drop_left' (e8 _)
  have d24 : (frameB turn next rs).drop 24 = be 8 (bodyB rs).length ++ bodyB rs := by
    rw [show 24 = 16 + 8 from rfl, ← List.drop_drop, d16]; exact List.drop_left' (e8 _)
  have d32 : (frameB turn next rs).drop 32 = bodyB rs := by
    rw [show 32 = 24 + 8 from rfl, ← List.drop_drop, d24]; exact List.drop_left' (e8 _)
  have f0 : ((S (side * h + at_)).take size).take 8 = sign := by
    have := field 0 (by omega)
    rw [List.drop_zero, List.drop_zero] at this
    rw [this]
    exact List.take_left' rfl
  have f8 : (((S (side * h + at_)).take size).drop 8).take 8 = be 8 turn := by
    rw [field 8 (by omega), d8]; exact List.take_left' (e8 _)
  have f16 : (((S (side * h + at_)).take size).drop 16).take 8 = be 8 next := by
    rw [field 16 (by omega), d16]; exact List.take_left' (e8 _)
  have f24 : (((S (side * h + at_)).take size).drop 24).take 8 = be 8 (bodyB rs).length := by
    rw [field 24 (by omega), d24]; exact List.take_left' (e8 _)
  have gt : getN (be 8 turn) = turn := getN_be 8 _ (by omega) (by omega)
  have gn : getN (be 8 next) = next := getN_be 8 _ (by omega) (by omega)
  have gn1 : getN (be 8 (next + 1)) = next + 1 := getN_be 8 _ (by omega) (by omega)
  have gb : getN (be 8 (bodyB rs).length) = (bodyB rs).length := getN_be 8 _ (by omega) (by omega)
  have g0 : ((S (side * h + at_)).drop size).take 8 = be 8 turn := by rw [hd, List.take_append_of_le_length (by rw [e8]; omega), List.take_of_length_le (by rw [e8]; omega)]
  have g1 : ((S (side * h + at_)).drop size).drop 8 = be 8 (next + 1) := by rw [hd, List.drop_append_of_le_length (by rw [e8]; omega), List.drop_of_length_le (by rw [e8]; omega), List.nil_append]
  have hbd : ((rdAll S (side * h + at_) size (secs size (32 + (bodyB rs).length))).drop 32).take (bodyB rs).length = bodyB rs := by
    rw [hall, List.drop_append_of_le_length (by omega), d32, List.take_append_of_le_length (by omega), List.take_of_length_le (by omega)]
  have hroom : (bodyB rs).length + 32 ≤ (h - at_) * size := by
    have : secs size (32 + (bodyB rs).length) * size ≤ (h - at_) * size := Nat.mul_le_mul_right _ (by omega)
    omega
  unfold rd
  rw [if_pos (by omega), f0, f8, f16, f24, g0, g1, gt, gn, gn1, gb, hbd, parse_body rs hr _ (Nat.le_refl _), if_pos ⟨rfl, rfl, rfl, by rw [Nat.mod_eq_of_lt hn], hroom⟩]
  rfl

end Go.Proofs.YtkeopmfmlciadaaGreat
namespace Go.Proofs.YtkeopmfmlciadaaGreat

/-- The numbers at a sector's end. -/
def tlT (S : Nat → List UInt8) (size i : Nat) : Nat := getN (((S i).drop size).take 8)
def tlN (S : Nat → List UInt8) (size i : Nat) : Nat := getN (((S i).drop size).drop 8)

theorem rd_some {S : Nat → List UInt8} {h size side at_ next t beh : Nat} {rs : List (List UInt8)} (hs : 0 < size) (e : rd S h size side at_ next = some (t, rs, beh)) :
    at_ < h ∧ at_ < beh ∧ beh ≤ h ∧ tlT S size (side * h + at_) = t ∧ tlN S size (side * h + at_) = (next + 1) % 18446744073709551616 := by
  unfold rd at e
  split at e
  · rename_i h1
    split at e
    · rename_i h2
      obtain ⟨p, _, hq⟩ := Option.map_eq_some_iff.1 e
      simp only [Prod.mk.injEq] at hq
      obtain ⟨q1, _, q3⟩ := hq
      have hp := secs_pos (size := size) (n := 32 + getN ((((S (side * h + at_)).take size).drop 24).take 8)) (by omega)
      have hl := secs_le (size := size) (n := 32 + getN ((((S (side * h + at_)).take size).drop 24).take 8)) (k := h - at_) hs (by have := h2.2.2.2.2; omega)
      refine ⟨h1, by omega, by omega, ?_, ?_⟩
      · unfold tlT; rw [h2.2.2.1, q1]
      · unfold tlN; exact h2.2.2.2.1
    · cases e
  · cases e

theorem rd_congr {S S' : Nat → List UInt8} {h size side at_ next t beh : Nat} {rs : List (List UInt8)} (hs : 0 < size) (e : rd S h size side at_ next = some (t, rs, beh))
    (ag : ∀ j, at_ ≤ j → j < beh → S' (side * h + j) = S (side * h + j)) : rd S' h size side at_ next = some (t, rs, beh) := by
  obtain ⟨h1, h2, _⟩ := rd_some hs e
  have h0 := ag at_ (Nat.le_refl _) h2
  rw [← e]
  unfold rd at e ⊢
  rw [h0]
  rw [if_pos h1] at e
  split at e
  · rename_i h3
    obtain ⟨p, _, hq⟩ := Option.map_eq_some_iff.1 e
    simp only [Prod.mk.injEq] at hq
    obtain ⟨_, _, q3⟩ := hq
    have hall : rdAll S' (side * h + at_) size (secs size (32 + getN ((((S (side * h + at_)).take size).drop 24).take 8))) = rdAll S (side * h + at_) size (secs size (32 + getN ((((S (side * h + at_)).take size).drop 24).take 8))) := by
      unfold rdAll
      rw [List.flatMap_def, List.flatMap_def]
      congr 1
      refine List.map_congr_left fun i hi => ?_
      have := List.mem_range.1 hi
      rw [Nat.add_assoc, ag (at_ + i) (by omega) (by omega)]
    rw [hall]
  · cases e

/-- What is read from a side's beginning on, frame behind frame. -/
inductive Chain (S : Nat → List UInt8) (h size side turn : Nat) : Nat → Nat → List (List UInt8) → Prop
  | zero : Chain S h size side turn 0 0 []
  | step {at_ next beh : Nat} {all rs : List (List UInt8)} : Chain S h size side turn at_ next all → rd S h size side at_ next = some (turn, rs, beh) → Chain S h size side turn beh (next + 1) (all ++ rs)

theorem Chain.le {S : Nat → List UInt8} {h size side turn at_ next : Nat} {all : List (List UInt8)} (hs : 0 < size) (c : Chain S h size side turn at_ next all) : at_ ≤ h := by
  cases c with
  | zero => omega
  | step _ e => exact (rd_some hs e).2.2.1

theorem Chain.congr {S S' : Nat → List UInt8} {h size side turn at_ next : Nat} {all : List (List UInt8)} (hs : 0 < size) (c : Chain S h size side turn at_ next all) : (∀ j, j < at_ → S' (side * h + j) = S (side * h + j)) → Chain S' h size side turn at_ next all := by
  induction c with
  | zero => exact fun _ => .zero
  | step _ e ih =>
    intro ag
    have hb := rd_some hs e
    exact .step (ih fun j hj => ag j (by omega)) (rd_congr hs e fun j _ hj => ag j hj)

theorem Chain.same {S : Nat → List UInt8} {h size side turn : Nat} : ∀ {next a b : Nat} {xs ys : List (List UInt8)}, Chain S h size side turn a next xs → Chain S h size side turn b next ys → a = b ∧ xs = ys := by
  intro next
  induction next with
  | zero => intro a b xs ys c d; cases c; cases d; exact ⟨rfl, rfl⟩
  | succ n ih =>
    intro a b xs ys c d
    cases c with
    | step c1 e1 =>
      cases d with
      | step d1 e2 =>
        obtain ⟨rfl, rfl⟩ := ih c1 d1
        rw [e1] at e2
        simp only [Option.some.injEq, Prod.mk.injEq, true_and] at e2
        obtain ⟨rfl, rfl⟩ := e2
        exact ⟨rfl, rfl⟩

/-- There is no further frame. -/
def Stop (S : Nat → List UInt8) (h size side turn at_ next : Nat) : Prop := ∀ rs beh, rd S h size side at_ next ≠ some (turn, rs, beh)

theorem Chain.upto {S : Nat → List UInt8} {h size side turn : Nat} : ∀ {m b : Nat} {ys : List (List UInt8)}, Chain S h size side turn b m ys → ∀ n, n < m → ∃ a xs rs beh, Chain S h size side turn a n xs ∧ rd S h size side a n = some (turn, rs, beh) := by
  intro m
  induction m with
  | zero => intro b ys _ n hn; omega
  | succ m ih =>
    intro b ys c n hn
    cases c with
    | step c1 e1 =>
      by_cases e : n = m
      · subst e; exact ⟨_, _, _, _, c1, e1⟩
      · exact ih c1 n (by omega)

theorem Chain.unique {S : Nat → List UInt8} {h size side turn a b n m : Nat} {xs ys : List (List UInt8)} (c : Chain S h size side turn a n xs) (d : Chain S h size side turn b m ys) (sc : Stop S h size side turn a n) (sd : Stop S h size side turn b m) : a = b ∧ n = m ∧ xs = ys := by
  rcases Nat.lt_trichotomy n m with g | g | g
  · obtain ⟨a', xs', rs, beh, c', e⟩ := d.upto n g
    obtain ⟨rfl, _⟩ := c.same c'
    exact absurd e (sc rs beh)
  · subst g
    obtain ⟨h1, h2⟩ := c.same d
    exact ⟨h1, rfl, h2⟩
  · obtain ⟨a', xs', rs, beh, c', e⟩ := c.upto m g
    obtain ⟨rfl, _⟩ := d.same c'
    exact absurd e (sd rs beh)

/-- A log's state. -/
structure Lg where
  turn : Nat
  next : Nat
  at_ : Nat
  all : List (List UInt8)

structure LogOK (S : Nat → List UInt8) (h size : Nat) (L : Lg) : Prop where
  chain : Chain S h size (L.turn % 2) L.turn L.at_ L.next L.all
  free : ∀ j, L.at_ ≤ j → j < h → tlT S size (L.turn % 2 * h + j) = L.turn → tlN S size (L.turn % 2 * h + j) ≤ L.next
  top : ∀ i, i < 2 * h → tlT S size i ≤ L.turn
  first : L.turn = 0 ∨ 0 < L.next
  bT : L.turn < 4611686018427387904
  bN : L.next < 4611686018427387904

theorem LogOK.stop {S : Nat → List UInt8} {h size : Nat} {L : Lg} (hs : 0 < size) (o : LogOK S h size L) : Stop S h size (L.turn % 2) L.turn L.at_ L.next := by
  intro rs beh e
  obtain ⟨h1, _, _, h2, h3⟩ := rd_some hs e
  have := o.free L.at_ (Nat.le_refl _) h1 h2
  have := o.bN
  rw [h3, Nat.mod_eq_of_lt (by omega)] at *
  omega

theorem tl_laid {S' : Nat → List UInt8} {size turn next i j : Nat} {b : List UInt8} (ht : turn < 18446744073709551616) (hn : next + 1 < 18446744073709551616) (e : S' j = laidAt size turn next b i) :
    (i = 0 ∧ tlT S' size j = turn ∧ tlN S' size j = next + 1) ∨ (i ≠ 0 ∧ tlT S' size j = 0 ∧ tlN S' size j = 0) := by
  have e8 : ∀ n, (be 8 n).length = 8 := fun n => be_len 8 n
  by_cases h : i = 0
  · refine .inl ⟨h, ?_, ?_⟩
    · unfold tlT
      rw [e, laidAt_drop, if_pos h, List.take_append_of_le_length (by rw [e8]; omega), List.take_of_length_le (by rw [e8]; omega), getN_be 8 _ (by omega) (by omega)]
    · unfold tlN
      rw [e, laidAt_drop, if_pos h, List.drop_append_of_le_length (by rw [e8]; omega), List.drop_of_length_le (by rw [e8]; omega), List.nil_append, getN_be 8 _ (by omega) (by omega)]
  · refine .inr ⟨h, ?_, ?_⟩
    · unfold tlT
      rw [e, laidAt_drop, if_neg h, List.take_replicate, getN_zeros]
    · unfold tlN
      rw [e, laidAt_drop, if_neg h, List.drop_replicate, getN_zeros]

/-- What was laid: k sectors from base on, and nothing else. -/
structure Laid (S S' : Nat → List UInt8) (size turn next base k : Nat) (b : List UInt8) : Prop where
  here : ∀ i, i < k → S' (base + i) = laidAt size turn next b i
  else_ : ∀ j, j < base ∨ base + k ≤ j → S' j = S j

theorem Laid.tails {S S' : Nat → List UInt8} {size turn next base k : Nat} {b : List UInt8} (l : Laid S S' size turn next base k b) (ht : turn < 18446744073709551616) (hn : next + 1 < 18446744073709551616) (i : Nat) :
    (tlT S' size i = turn ∨ tlT S' size i = 0) ∨ tlT S' size i = tlT S size i := by
  by_cases h : i < base ∨ base + k ≤ i
  · right; unfold tlT; rw [l.else_ i h]
  · left
    have e := l.here (i - base) (by omega)
    rw [show base + (i - base) = i by omega] at e
    rcases tl_laid ht hn e with ⟨_, h1, _⟩ | ⟨_, h1, _⟩
    · exact .inl h1
    · exact .inr h1

theorem LogOK.commit {S S' : Nat → List UInt8} {h size : Nat} {L : Lg} {rs : List (List UInt8)} (hsz : 32 ≤ size) (o : LogOK S h size L) (hr : ∀ r ∈ rs, r.length < 4294967296) (hb : (bodyB rs).length < 18446744073709551616)
    (hk : L.at_ + secs size (32 + (bodyB rs).length) ≤ h) (hn : L.next + 1 < 4611686018427387904) (l : Laid S S' size L.turn L.next (L.turn % 2 * h + L.at_) (secs size (32 + (bodyB rs).length)) (frameB L.turn L.next rs)) :
    LogOK S' h size ⟨L.turn, L.next + 1, L.at_ + secs size (32 + (bodyB rs).length), L.all ++ rs⟩ := by
  have bT := o.bT
  have ht : L.turn < 18446744073709551616 := by omega
  have hn1 : L.next + 1 < 18446744073709551616 := by omega
  have hc : Chain S' h size (L.turn % 2) L.turn (L.at_ + secs size (32 + (bodyB rs).length)) (L.next + 1) (L.all ++ rs) :=
    .step (o.chain.congr (by omega) fun j hj => l.else_ _ (.inl (Nat.add_lt_add_left hj _))) (rd_laid hsz ht hn1 hr hb hk l.here)
  refine ⟨hc, fun j h1 h2 h3 => ?_, fun i hi => ?_, .inr (Nat.succ_pos _), bT, hn⟩
  · dsimp only at h1 h2 h3 ⊢
    have e := l.else_ (L.turn % 2 * h + j) (.inr (by rw [Nat.add_assoc]; exact Nat.add_le_add_left h1 _))
    unfold tlT at h3
    unfold tlN
    rw [e] at h3 ⊢
    have := o.free j (by omega) h2 h3
    unfold tlN at this
    omega
  · have := o.top i hi
    dsimp only
    rcases l.tails ht hn1 i with (e | e) | e <;> omega

theorem LogOK.reset {S S' : Nat → List UInt8} {h size : Nat} {L : Lg} {rs : List (List UInt8)} (hsz : 32 ≤ size) (o : LogOK S h size L) (hr : ∀ r ∈ rs, r.length < 4294967296) (hb : (bodyB rs).length < 18446744073709551616)
    (hk : secs size (32 + (bodyB rs).length) ≤ h) (ht : L.turn + 1 < 4611686018427387904) (l : Laid S S' size (L.turn + 1) 0 ((L.turn + 1) % 2 * h) (secs size (32 + (bodyB rs).length)) (frameB (L.turn + 1) 0 rs)) :
    LogOK S' h size ⟨L.turn + 1, 1, secs size (32 + (bodyB rs).length), rs⟩ := by
  have hrd := rd_laid (side := (L.turn + 1) % 2) (at_ := 0) (h := h) hsz (show L.turn + 1 < 18446744073709551616 by omega) (show 0 + 1 < 18446744073709551616 by omega) hr hb (by omega) (by simpa using l.here)
  rw [Nat.zero_add] at hrd
  have hc : Chain S' h size ((L.turn + 1) % 2) (L.turn + 1) (secs size (32 + (bodyB rs).length)) 1 rs := .step .zero hrd
  have ht1 : L.turn + 1 < 18446744073709551616 := by omega
  refine ⟨hc, fun j h1 h2 h3 => ?_, fun i hi => ?_, .inr Nat.one_pos, ht, (by decide : (1 : Nat) < 4611686018427387904)⟩
  · dsimp only at h1 h2 h3 ⊢
    have e := l.else_ ((L.turn + 1) % 2 * h + j) (.inr (Nat.add_le_add_left h1 _))
    have hj : (L.turn + 1) % 2 * h + j < 2 * h := by
      rcases Nat.mod_two_eq_zero_or_one (L.turn + 1) with g | g <;> rw [g] <;> omega
    have := o.top _ hj
    unfold tlT at h3 this
    rw [e] at h3
    omega
  · have := o.top i hi
    dsimp only
    rcases l.tails ht1 (show 0 + 1 < 18446744073709551616 by omega) i with (e | e) | e <;> omega

/-- A side's first turn. -/
def firstT (S : Nat → List UInt8) (h size side : Nat) : Option Nat := match rd S h size side 0 0 with
  | some (t, _, _) => if t % 2 = side then some t else none
  | none => none

/-- Is a turn behind another one? -/
def later (a b : Nat) : Bool := decide (0 < (a + 18446744073709551616 - b) % 18446744073709551616 ∧ (a + 18446744073709551616 - b) % 18446744073709551616 < 9223372036854775808)

def bgStep (S : Nat → List UInt8) (h size : Nat) (p : Bool × Nat) (side : Nat) : Bool × Nat := match firstT S h size side with
  | some t => if !p.1 || later t p.2 then (true, t) else p
  | none => p

/-- The turn that a log is opened at. -/
def turnOf (S : Nat → List UInt8) (h size : Nat) : Nat := (bgStep S h size (bgStep S h size (false, 0) 0) 1).2

theorem LogOK.firstTop {S : Nat → List UInt8} {h size side t : Nat} {L : Lg} (hs : 0 < size) (o : LogOK S h size L) (hside : side < 2) (e : firstT S h size side = some t) : t ≤ L.turn ∧ t % 2 = side := by
  unfold firstT at e
  split at e
  · rename_i t' rs beh hrd
    split at e
    · rename_i hp
      cases e
      obtain ⟨h1, _, _, h2, _⟩ := rd_some hs hrd
      have hi : side * h + 0 < 2 * h := by
        have : side = 0 ∨ side = 1 := by omega
        rcases this with g | g
        · subst g; omega
        · subst g; omega
      have := o.top (side * h + 0) hi
      exact ⟨by omega, hp⟩
    · cases e
  · cases e

theorem LogOK.turnOf {S : Nat → List UInt8} {h size : Nat} {L : Lg} (hs : 0 < size) (hh : 0 < h) (o : LogOK S h size L) : turnOf S h size = L.turn := by
  have bT := o.bT
  have l1 : ∀ t, t < L.turn → later L.turn t = true := fun t ht => by
    unfold later
    have : (L.turn + 18446744073709551616 - t) % 18446744073709551616 = L.turn - t := by
      rw [show L.turn + 18446744073709551616 - t = (L.turn - t) + 18446744073709551616 by omega, Nat.add_mod_right, Nat.mod_eq_of_lt (by omega)]
    rw [this]
    exact decide_eq_true (by omega)
  have l2 : ∀ t, t < L.turn → later t L.turn = false := fun t ht => by
    unfold later
    have : (t + 18446744073709551616 - L.turn) % 18446744073709551616 = t + 18446744073709551616 - L.turn := Nat.mod_eq_of_lt (by omega)
    rw [this]
    exact decide_eq_false (by omega)
  have f0 := fun t => o.firstTop (side := 0) (t := t) hs (by omega)
  have f1 := fun t => o.firstTop (side := 1) (t := t) hs (by omega)
  have hmy : L.next = 0 ∨ firstT S h size (L.turn % 2) = some L.turn := by
    rcases Nat.eq_zero_or_pos L.next with g | g
    · exact .inl g
    · right
      obtain ⟨a, xs, rs, beh, c, e⟩ := o.chain.upto 0 g
      cases c
      unfold firstT
      rw [e]
      exact if_pos rfl
  unfold Go.Proofs.YtkeopmfmlciadaaGreat.turnOf bgStep
  rcases hmy with g | g
  · have ht : L.turn = 0 := by have := o.first; omega
    have hat : L.at_ = 0 := by
      have hz : ∀ a n xs, Chain S h size (L.turn % 2) L.turn a n xs → n = 0 → a = 0 := fun a n xs c e => by
        cases c with
        | zero => rfl
        | step _ _ => cases e
      exact hz _ _ _ o.chain g
    have n0 : firstT S h size 0 = none := by
      cases e : firstT S h size 0 with
      | none => rfl
      | some t =>
        unfold firstT at e
        split at e
        · rename_i t' rs beh hrd
          obtain ⟨h1, _, _, h2, h3⟩ := rd_some hs hrd
          have h4 := o.top (0 * h + 0) (by omega)
          have h5 := o.free 0 (by omega) hh (by rw [ht] at h4 ⊢; simpa using h4)
          rw [ht, g] at h5
          simp at h5 h3
          omega
        · cases e
    have n1 : firstT S h size 1 = none := by
      cases e : firstT S h size 1 with
      | none => rfl
      | some t => have := f1 t e; omega
    rw [n0, n1]
    exact ht.symm
  · rcases Nat.mod_two_eq_zero_or_one L.turn with p | p
    · rw [p] at g
      rw [g]
      cases e : firstT S h size 1 with
      | none => rfl
      | some t =>
        have := f1 t e
        simp only [Bool.not_false, Bool.true_or, if_true, Bool.not_true, Bool.false_or]
        rw [l2 t (by omega)]
        rfl
    · rw [p] at g
      rw [g]
      cases e : firstT S h size 0 with
      | none => rfl
      | some t =>
        have := f0 t e
        simp only [Bool.not_false, Bool.true_or, if_true, Bool.not_true, Bool.false_or]
        rw [l1 t (by omega)]
        rfl

end Go.Proofs.YtkeopmfmlciadaaGreat
namespace Go.Proofs.YtkeopmfmlciadaaGreat
open Go.RowKit

/-- A log's struct. -/
def LgObj (b ub turn next : Nat) (at_ count : Nat) : Obj :=
  .cells #[.pointer (some ⟨b, 0, none⟩), .int .u64 (turn : Int), .int .u64 (next : Int), .int .i64 (at_ : Int), .int .i64 (count : Int), .map (some ub)] 112 (0, 0)

theorem half_any {X : Nat → Prop} {b sb mb p : Nat} {d : Dk} {w : World} (h : DkAt w X b sb mb d) (c0 : w.cell? ⟨p, 0, none⟩ = some (.pointer (some ⟨b, 0, none⟩))) :
    Calls Tryz.prog 99 #[.pointer (some ⟨p, 0, none⟩)] w fun e w' => e = .returned (.int .i64 ((d.n / 2 : Nat) : Int)) ∧ w' = w := by
  refine calls_hide fun R hR => ?_
  have HS := Lib.hid (sectors_ok h)
  have hn1 : 1 ≤ d.n := h.n1
  have hn2 : d.n ≤ 4096 := h.n2
  clear h
  go_enter Tryz.func99, Tryz.ntmps99
  go_wp2_with fail
  refine HS.out.mono ?_
  rintro e w' ⟨rfl, rfl⟩
  go_wp2_with fail
  exact fin hR ⟨by go_num, rfl⟩

theorem lsize_any {X : Nat → Prop} {b sb mb p : Nat} {d : Dk} {w : World} (h : DkAt w X b sb mb d) (c0 : w.cell? ⟨p, 0, none⟩ = some (.pointer (some ⟨b, 0, none⟩))) :
    Calls Tryz.prog 80 #[.pointer (some ⟨p, 0, none⟩)] w fun e w' => e = .returned (.int .i64 ((d.sz - 16 : Nat) : Int)) ∧ w' = w := by
  refine calls_hide fun R hR => ?_
  have HS := Lib.hid (size_ok h)
  have hz1 : 64 ≤ d.sz := h.s1
  have hz2 : d.sz ≤ 4096 := h.s2
  clear h
  go_enter Tryz.func80, Tryz.ntmps80
  go_wp2_with fail
  refine HS.out.mono ?_
  rintro e w' ⟨rfl, rfl⟩
  go_wp2_with fail
  exact fin hR ⟨by go_num, rfl⟩

set_option maxRecDepth 100000 in
set_option maxHeartbeats 800000 in
theorem lsecs_any {X : Nat → Prop} {b sb mb p : Nat} {d : Dk} {w : World} (n : Nat) (hn : n ≤ 140737488355328) (h : DkAt w X b sb mb d) (c0 : w.cell? ⟨p, 0, none⟩ = some (.pointer (some ⟨b, 0, none⟩))) :
    Calls Tryz.prog 83 #[.pointer (some ⟨p, 0, none⟩), .int .i64 (n : Int)] w fun e w' => e = .returned (.int .i64 ((secs (d.sz - 16) n : Nat) : Int)) ∧ Mod No w w' := by
  refine calls_hide fun R hR => ?_
  have hs : ∀ nq, Calls Tryz.prog 80 #[.pointer (some ⟨p, 0, none⟩)] (w.drewN nq) fun e w' => e = .returned (.int .i64 ((d.sz - 16 : Nat) : Int)) ∧ w' = w.drewN nq := fun nq =>
    lsize_any (h.stay ((Mod.refl No w).drewN nq)) c0
  have HS := Lib.hid hs
  have hz1 : 64 ≤ d.sz := h.s1
  have hz2 : d.sz ≤ 4096 := h.s2
  clear h hs c0
  generalize hm : d.sz - 16 = m at *
  have hm1 : 48 ≤ m := by omega
  have hm2 : m ≤ 4080 := by omega
  clear hm hz1 hz2
  have hmz : ((m : Int) == 0) = false := by simp; omega
  have hq0 : (0 : Int) ≤ (n : Int) / (m : Int) := Int.ediv_nonneg (Int.natCast_nonneg _) (Int.natCast_nonneg _)
  have hq1 : (n : Int) / (m : Int) ≤ 140737488355328 := by
    have h1 : (n : Int) / (m : Int) = ((n / m : Nat) : Int) := (Int.natCast_ediv n m).symm
    have h2 := Nat.div_le_self n m
    omega
  have hr0 : (0 : Int) ≤ (n : Int) % (m : Int) := Int.emod_nonneg _ (by omega)
  have HE := Lib.hid (show (n : Int) / (m : Int) + min ((n : Int) % (m : Int)) 1 = ((secs m n : Nat) : Int) by
    unfold secs
    have h1 : (n : Int) / (m : Int) = ((n / m : Nat) : Int) := (Int.natCast_ediv n m).symm
    have h2 : (n : Int) % (m : Int) = ((n % m : Nat) : Int) := (Int.natCast_emod n m).symm
    omega)
  go_enter Tryz.func83, Tryz.ntmps83
  go_wp2_with fail
  go_quiet (first | (go_at_call 80; refine Calls.quiet_of_same (HS.out _)))
  go_wp2_with fail
  exact fin hR ⟨by rw [HE.out]; rfl, (Mod.refl No w).drewN _⟩

theorem most_any {X : Nat → Prop} {b sb mb p : Nat} {d : Dk} {w : World} (at_ : Nat) (ha : at_ ≤ d.n / 2) (h : DkAt w X b sb mb d) (c0 : w.cell? ⟨p, 0, none⟩ = some (.pointer (some ⟨b, 0, none⟩))) :
    Calls Tryz.prog 82 #[.pointer (some ⟨p, 0, none⟩), .int .i64 (at_ : Int)] w fun e w' => e = .returned (.int .i64 (((d.n / 2 - at_) * (d.sz - 16) : Nat) : Int)) ∧ w' = w := by
  refine calls_hide fun R hR => ?_
  have H1 := Lib.hid (half_any h c0)
  have H2 := Lib.hid (lsize_any h c0)
  have hz1 : 64 ≤ d.sz := h.s1
  have hz2 : d.sz ≤ 4096 := h.s2
  have hn2 : d.n ≤ 4096 := h.n2
  clear h c0
  generalize hm : d.sz - 16 = m at *
  generalize hk : d.n / 2 = k at *
  have hm2 : m ≤ 4080 := by omega
  have hk2 : k ≤ 2048 := by omega
  clear hm hk hz1 hz2 hn2
  have hc : ((k : Int) - (at_ : Int)) * (m : Int) = (((k - at_) * m : Nat) : Int) := by
    rw [Int.natCast_mul, Int.ofNat_sub ha]
  have hb : (k - at_) * m ≤ 2048 * 4080 := Nat.mul_le_mul (by omega) hm2
  have HC := Lib.hid hc
  have b1 : (-9223372036854775808 : Int) ≤ ((k : Int) - (at_ : Int)) * (m : Int) := by rw [hc]; omega
  have b2 : ((k : Int) - (at_ : Int)) * (m : Int) ≤ 9223372036854775807 := by rw [hc]; omega
  clear hc hb
  go_enter Tryz.func82, Tryz.ntmps82
  go_wp2_with fail
  refine H1.out.mono ?_
  rintro e w' ⟨rfl, rfl⟩
  go_wp2_with fail
  refine H2.out.mono ?_
  rintro e w' ⟨rfl, rfl⟩
  go_wp2_with fail
  exact fin hR ⟨by rw [HC.out]; rfl, rfl⟩

theorem long_any {a : Option Addr} {n c : Nat} {w : World} :
    Calls Tryz.prog 89 #[.slice a n c] w fun e w' => e = .returned (.bool (decide ((1048576 : Int) < (n : Int)))) ∧ w' = w := by
  refine calls_hide fun R hR => ?_
  go_enter Tryz.func89, Tryz.ntmps89
  go_wp2_with fail
  exact fin hR ⟨rfl, rfl⟩

end Go.Proofs.YtkeopmfmlciadaaGreat
namespace Go.Proofs.YtkeopmfmlciadaaGreat
open Go.RowKit

/-- A number's bytes, k of them laid over L from o on. -/
def beIn (L : List UInt8) (o m n k : Nat) : List UInt8 := (List.range L.length).map fun i => if o ≤ i ∧ i < o + k then UInt8.ofNat (n / 2 ^ (8 * (m - 1 - (i - o)))) else L.getD i 0

theorem beIn_len (L : List UInt8) (o m n k : Nat) : (beIn L o m n k).length = L.length := by simp [beIn]
theorem beIn_zero (L : List UInt8) (o m n : Nat) : beIn L o m n 0 = L := by
  apply List.ext_getElem
  · simp [beIn]
  · intro i h1 h2
    simp only [beIn, List.getElem_map, List.getElem_range]
    rw [if_neg (by omega)]
    simp [List.getD, h2]
theorem beIn_all (L : List UInt8) (o m n : Nat) (h : o + m ≤ L.length) : beIn L o m n m = L.take o ++ (be m n ++ L.drop (o + m)) := by
  apply List.ext_getElem
  · simp only [beIn_len, List.length_append, List.length_take, be_len, List.length_drop]; omega
  · intro i h1 h2
    have hi : i < L.length := by simpa [beIn] using h1
    simp only [beIn, List.getElem_map, List.getElem_range]
    by_cases g1 : i < o
    · rw [if_neg (by omega), List.getElem_append_left (by simp; omega)]
      simp [List.getD, hi]
    · rw [List.getElem_append_right (by simp; omega)]
      by_cases g2 : i < o + m
      · rw [if_pos ⟨by omega, g2⟩, List.getElem_append_left (by simp [be_len]; omega)]
        simp only [be, List.getElem_map, List.getElem_range, List.length_take]
        rw [show min o L.length = o by omega]
      · rw [if_neg (by omega), List.getElem_append_right (by simp [be_len]; omega)]
        simp only [List.length_take, be_len, List.getElem_drop]
        simp only [List.getD, List.getElem?_eq_getElem hi, Option.getD_some]
        congr 1; omega
theorem beIn_succ (L : List UInt8) (o m n k : Nat) (_ : o + k < L.length) : (bv (beIn L o m n k)).toArray.setIfInBounds (o + k) (.int .u8 (((UInt8.ofNat (n / 2 ^ (8 * (m - 1 - k)))).toNat : Nat) : Int)) = (bv (beIn L o m n (k + 1))).toArray := by
  apply Array.ext
  · simp [bv, beIn]
  · intro i h1 h2
    have hi : i < L.length := by simpa [bv, beIn] using h2
    rw [Array.getElem_setIfInBounds (by simpa [bv, beIn] using hi)]
    by_cases e : o + k = i
    · subst e
      simp only [if_true, bv, beIn, List.getElem_toArray, List.getElem_map, List.getElem_range]
      rw [if_pos ⟨by omega, by omega⟩, show o + k - o = k by omega]
    · rw [if_neg e]
      simp only [bv, beIn, List.getElem_toArray, List.getElem_map, List.getElem_range]
      by_cases e2 : o ≤ i ∧ i < o + k
      · rw [if_pos e2, if_pos (by omega)]
      · rw [if_neg e2, if_neg (by omega)]

set_option maxRecDepth 100000 in
set_option maxHeartbeats 800000 in
theorem put_any (g o m c n : Nat) (L : List UInt8) (ty : TypeId) (w : World) (hg : w.heap[g]? = some (.cells (bv L).toArray ty (0, 0))) (hm : m ≤ 8) (ho : o + m ≤ L.length) :
    Calls Tryz.prog 104 #[.slice (some ⟨g, o, none⟩) m c, .int .u64 (n : Int)] w fun e w' => e = .returned (.tuple #[]) ∧ w'.heap[g]? = some (.cells (bv (L.take o ++ (be m n ++ L.drop (o + m)))).toArray ty (0, 0)) ∧ Mod (· = g) w w' := by
  refine calls_hide fun R hR => ?_
  have HG := Lib.hid hg
  have HO := Lib.hid ho
  clear hg ho
  go_enter Tryz.func104, Tryz.ntmps104
  go_wp2_with fail
  go_loopw [7] (fun i wr => ∃ k : Nat, k ≤ m ∧ i = .int .i64 k ∧ wr.heap[g]? = some (.cells (bv (beIn L o m n k)).toArray ty (0, 0)) ∧ Mod (· = g) w wr) (fun i _ => m - (intOf i).toNat)
  case atStart => exact ⟨0, by omega, rfl, by rw [beIn_zero]; exact HG.out, Mod.refl _ _⟩
  case round =>
    obtain ⟨k, hk, rfl, hg, hmm⟩ := hrel
    have hk0 : (0 : Int) ≤ (k : Int) := Int.natCast_nonneg _
    have HM := Lib.hid hmm
    have HGK := Lib.hid hg
    by_cases hlt : k < m
    · have hk1 : (k : Int) < (m : Int) := by omega
      have hol : o + k < L.length := by have := HO.out; omega
      have hki : ∃ v, (bv (beIn L o m n k)).toArray[o + k]? = some v := ⟨_, Array.getElem?_eq_getElem (by simp [bv, beIn_len, hol])⟩
      obtain ⟨v, hv⟩ := hki
      have cg := cell_ofA hg hv
      have fg := frozen_of (o + k) hg
      have HOL := Lib.hid hol
      have hm8 : (m : Int) ≤ 8 := by omega
      clear hv hg hmm hol
      have HVL := Lib.hid (show (((UInt8.ofNat (n / 2 ^ (8 * (m - 1 - k)))).toNat : Nat) : Int) = (n : Int) / 2 ^ (8 * (m - 1 - k)) % 256 by simp)
      go_wp2_with fail
      rw [← HVL.out]
      exact ⟨⟨k + 1, by omega, by go_num, by rw [heap_setCell HGK.out, beIn_succ L o m n k HOL.out], HM.out.setCell (fun _ => rfl) _⟩, by go_light; simp only [intOf]; omega⟩
    · have hkn : k = m := by omega
      subst hkn
      clear hg hmm
      go_wp2_with fail
      go_end0
      exact fin hR ⟨rfl, by rw [← beIn_all L o k n HO.out]; exact HGK.out, HM.out⟩

theorem shl_or (N x : Nat) (hx : x < 256) : bits BinOp.or IntKind.u64 (IntKind.u64.wrap ((N : Int) * 256)) (x : Int) = (((N * 256 + x) % 18446744073709551616 : Nat) : Int) := by
  have h1 : IntKind.u64.wrap ((N : Int) * 256) = ((N * 256 % 18446744073709551616 : Nat) : Int) := by
    rw [IntKind.wrap_u64]; omega
  have h2 : N * 256 % 18446744073709551616 = 2 ^ 8 * (N % 72057594037927936) := by omega
  have h3 : 2 ^ 8 * (N % 72057594037927936) + x = 2 ^ 8 * (N % 72057594037927936) ||| x := Nat.two_pow_add_eq_or_of_lt (by omega) _
  rw [h1, bits_or_u64_nat _ _ (by omega) (by omega), h2, ← h3]
  omega

set_option maxRecDepth 100000 in
set_option maxHeartbeats 800000 in
theorem get_any {X : Nat → Prop} (e : TypeId) (v : Value) (l : List UInt8) (w : World) (hv : Sl w X e v l.length (bv l)) (hl : l.length ≤ 9223372036854775807) :
    Calls Tryz.prog 81 #[v] w fun e w' => e = .returned (.int .u64 ((getN l : Nat) : Int)) ∧ w' = w := by
  refine calls_hide fun R hR => ?_
  obtain ⟨a, c, rfl⟩ := hv.len
  have HV := Lib.hid hv
  clear hv
  go_enter Tryz.func81, Tryz.ntmps81
  go_wp2_with fail
  go_loopw [3, 8] (fun x i wr => wr = w ∧ ∃ k : Nat, k ≤ l.length ∧ i = .int .i64 k ∧ x = .int .u64 ((getN (l.take k) : Nat) : Int)) (fun _ i _ => l.length - (intOf i).toNat)
  case atStart => exact ⟨rfl, 0, by omega, rfl, rfl⟩
  case round =>
    obtain ⟨rfl, k, hk, rfl, rfl⟩ := hrel
    have hk0 : (0 : Int) ≤ (k : Int) := Int.natCast_nonneg _
    by_cases hlt : k < l.length
    · have hk1 : (k : Int) < (l.length : Int) := by omega
      obtain ⟨g, o, c', hsl, _⟩ := HV.out.shape (by omega)
      cases hsl
      have hck := HV.out.cell (i := k) (by simp [bv, hlt])
      have hge : (bv l)[k]? = some (.int .u8 ((l[k].toNat : Nat) : Int)) := by simp [bv, hlt]
      rw [hge] at hck
      dsimp only at hck
      have HT := Lib.hid (show getN (l.take (k + 1)) = (getN (l.take k) * 256 + l[k].toNat) % 18446744073709551616 by
        rw [List.take_succ_eq_append_getElem hlt]; unfold getN; rw [List.foldl_append]; rfl)
      have hb : l[k].toNat < 256 := UInt8.toNat_lt _
      generalize l[k].toNat = x at *
      generalize getN (l.take k) = N at *
      clear hge HV
      go_wp2_with fail
      rw [shl_or N x hb]
      exact ⟨⟨trivial, k + 1, by omega, by go_num, by rw [HT.out]⟩, by go_light; simp only [intOf]; omega⟩
    · have hkn : k = l.length := by omega
      subst hkn
      go_wp2_with fail
      exact fin hR ⟨by rw [List.take_length]; rfl, rfl⟩

end Go.Proofs.YtkeopmfmlciadaaGreat
namespace Go.Proofs.YtkeopmfmlciadaaGreat
open Go.RowKit

/-- What reading panics with where a frame isn't whole. -/
abbrev stopV : Value := .iface 138 (.agg #[.int .i64 0])
abbrev Stopped : Ending := .panicked [{ v := stopV, recovered := false }]

theorem must_yes (x : Int) (w : World) : Calls Tryz.prog 59 #[.bool true, .int .i64 x] w fun e w' => e = .returned (.tuple #[]) ∧ w' = w := by
  refine calls_hide fun R hR => ?_
  go_enter Tryz.func59, Tryz.ntmps59
  go_wp2_with fail
  go_end0
  exact fin hR ⟨rfl, rfl⟩

theorem must_no (w : World) : Calls Tryz.prog 59 #[.bool false, .int .i64 0] w fun e w' => e = Stopped ∧ w' = w := by
  refine calls_hide fun R hR => ?_
  go_enter Tryz.func59, Tryz.ntmps59
  go_wp2_with fail
  exact ⟨rfl, fin hR ⟨rfl, rfl⟩⟩

/-- A disk whose power is there, and nobody cuts it. -/
def Well (d : Dk) : Prop := d.dead = false ∧ d.cut = -1

set_option maxRecDepth 100000 in
set_option maxHeartbeats 800000 in
theorem sector_yes {X : Nat → Prop} {b sb mb p : Nat} {d : Dk} {w : World} (side at_ : Nat) (hs : side < 2) (ha : at_ < d.n / 2) (hw : Well d) (h : DkAt w X b sb mb d) (c0 : w.cell? ⟨p, 0, none⟩ = some (.pointer (some ⟨b, 0, none⟩))) :
    Calls Tryz.prog 79 #[.pointer (some ⟨p, 0, none⟩), .int .i64 (side : Int), .int .i64 (at_ : Int)] w fun e w' => ∃ v, e = .returned v ∧ Mod No w w' ∧ w'.ownsRow w.heap.size 5 1 v d.sz (bv (d.last (side * (d.n / 2) + at_))) := by
  refine calls_hide fun R hR => ?_
  have HH0 := Lib.hid (half_any h c0)
  have HH := Lib.hid (half_any (h.stay (Mod.refl No w).drew) ((Mod.refl No w).drew.cell c0 (fun f => f)))
  have hn2 : d.n ≤ 4096 := h.n2
  have hE : atE d.dead (((side * (d.n / 2) + at_ : Nat)) : Int) d.n = 0 := by
    rw [hw.1]
    have : side * (d.n / 2) + at_ < d.n := by
      have h1 : side = 0 ∨ side = 1 := by omega
      rcases h1 with g | g
      · subst g; omega
      · subst g; omega
    unfold atE
    rw [if_neg Bool.false_ne_true, if_neg (by omega)]
  have HR := read_any X b sb mb d (((side * (d.n / 2) + at_ : Nat)) : Int) w.drew (h.stay (Mod.refl No w).drew)
  rw [hE] at HR
  have HR := Lib.hid HR
  have hS0 : w.drew.cell? ⟨p, 0, none⟩ = some (.pointer (some ⟨b, 0, none⟩)) := c0
  have hb : side * (d.n / 2) ≤ 2 * 2048 := Nat.mul_le_mul (by omega) (by omega)
  have hb1 : (0 : Int) ≤ (side : Int) * ((d.n / 2 : Nat) : Int) := by rw [← Int.natCast_mul]; omega
  have hb2 : (side : Int) * ((d.n / 2 : Nat) : Int) ≤ 4096 := by rw [← Int.natCast_mul]; omega
  have HI := Lib.hid (show IntKind.i64.wrap (IntKind.i64.wrap ((side : Int) * ((d.n / 2 : Nat) : Int)) + (at_ : Int)) = (((side * (d.n / 2) + at_ : Nat)) : Int) by
    rw [IntKind.wrap_i64, IntKind.wrap_i64, Int.natCast_add, Int.natCast_mul]
    generalize (side : Int) * ((d.n / 2 : Nat) : Int) = q at *
    omega)
  clear h hw hE hb hb1 hb2
  generalize hk : d.n / 2 = k at *
  have hk2 : k ≤ 2048 := by omega
  have ha' : (at_ : Int) < (k : Int) := by omega
  clear hk hn2
  go_enter Tryz.func79, Tryz.ntmps79
  go_wp2_with fail
  refine HH0.out.mono ?_
  clear HH0
  rintro e w' ⟨rfl, rfl⟩
  go_wp2_with fail
  refine (must_yes 0 w').mono ?_
  rintro e w2 ⟨rfl, rfl⟩
  go_upto_region 2 with fail
  refine wp_region_T (fun w' => w'.cell? ⟨p, 0, none⟩ = some (.pointer (some ⟨b, 0, none⟩))) 15 (by kernel_rfl) ?_
  refine wpAnyT_take 0 (some 15) ?_ rfl rfl (by kernel_rfl) (fun _ _ _ h => h) hS0 (Or.inl ⟨by rfl, ?_⟩) ?_
  rotate_left
  · (intro w' hSw; (try dsimp only at hSw); go_simp; try with_reducible rfl)
  simp only [Act.put, List.setIfInBounds_toArray, List.set_cons_zero, List.set_cons_succ]
  refine wpAnyT_take 1 (some 16) ?_ rfl rfl (by kernel_rfl) (fun _ _ _ h => h) hS0 (Or.inl ⟨by rfl, ?_⟩) ?_
  rotate_left
  · (intro w' hSw; (try dsimp only at hSw); go_simp; try with_reducible rfl)
  simp only [Act.put, List.setIfInBounds_toArray, List.set_cons_zero, List.set_cons_succ]
  refine wpAnyT_take 2 (some 17) ?_ rfl rfl (by kernel_rfl) (fun _ _ _ h => h) hS0 (Or.inl ⟨by rfl, ?_⟩) ?_
  rotate_left
  · (intro w' hSw; (try dsimp only at hSw); go_simp; try with_reducible rfl)
  simp only [Act.put, List.setIfInBounds_toArray, List.set_cons_zero, List.set_cons_succ]
  refine wpAnyT_take 3 (some 18) ?_ rfl rfl (by kernel_rfl) (fun _ _ _ h => h) hS0 (Or.inl ⟨by rfl, ?_⟩) ?_
  rotate_left
  · (intro w' hSw; (try dsimp only at hSw); go_simp; try with_reducible rfl)
  simp only [Act.put, List.setIfInBounds_toArray, List.set_cons_zero, List.set_cons_succ]
  refine wpAnyT_take 4 (some 19) ?_ rfl rfl (by kernel_rfl) (fun _ _ _ h => h) hS0 (Or.inl ⟨by rfl, ?_⟩) ?_
  rotate_left
  · (intro w' hSw; (try dsimp only at hSw); go_simp; try with_reducible rfl)
  simp only [Act.put, List.setIfInBounds_toArray, List.set_cons_zero, List.set_cons_succ]
  refine wpAnyT_take 5 (some 20) ?_ rfl rfl (by kernel_rfl) (fun _ _ _ h => h) hS0 (Or.inl ⟨by rfl, ?_⟩) ?_
  rotate_left
  · (intro w' hSw; (try dsimp only at hSw); go_simp; try with_reducible rfl)
  simp only [Act.put, List.setIfInBounds_toArray, List.set_cons_zero, List.set_cons_succ]
  refine wpAnyT_take 8 (some 23) ?_ rfl rfl (by kernel_rfl) (fun _ _ _ h => h) hS0 (Or.inl ⟨by rfl, ?_⟩) ?_
  rotate_left
  · (intro w' hSw; (try dsimp only at hSw); go_simp; try with_reducible rfl)
  simp only [Act.put, List.setIfInBounds_toArray, List.set_cons_zero, List.set_cons_succ]
  refine wpAnyT_one 6 rfl (by kernel_rfl) rfl ?_
  intro K hK
  go_simp
  (go_at_call 99; refine HH.out.mono ?_; rintro e w' ⟨rfl, rfl⟩)
  show K _ _
  refine hK.out _ _ (fun _ => hS0) ?_
  clear hK K
  refine wpAnyT_take 7 (some 22) ?_ rfl rfl (by kernel_rfl) (fun _ _ _ h => h) hS0 (Or.inl ⟨by rfl, ?_⟩) ?_
  rotate_left
  · (intro w' hSw; (try dsimp only at hSw); go_simp; try with_reducible rfl)
  simp only [Act.put, List.setIfInBounds_toArray, List.set_cons_zero, List.set_cons_succ]
  refine wpAnyT_take 9 (some 24) ?_ rfl rfl (by kernel_rfl) (fun _ _ _ h => h) hS0 (Or.inl ⟨by rfl, ?_⟩) ?_
  rotate_left
  · (intro w' hSw; (try dsimp only at hSw); go_simp; try with_reducible rfl)
  simp only [Act.put, List.setIfInBounds_toArray, List.set_cons_zero, List.set_cons_succ]
  refine wpAnyT_one 10 rfl (by kernel_rfl) rfl ?_
  intro K hK
  go_simp
  (go_at_call 100; rw [HI.out]; refine HR.out.mono ?_; rintro e w1 ⟨v, rfl, hm1, _, hr1⟩)
  have hS1 := hm1.cell hS0 (fun f => f)
  show K _ _
  refine hK.out _ _ (fun _ => hS1) ?_
  clear hK K
  refine wpAnyT_take 11 (some 14) ?_ rfl rfl (by kernel_rfl) (fun _ _ _ h => h) hS1 (Or.inl ⟨by rfl, ?_⟩) ?_
  rotate_left
  · (intro w' hSw; (try dsimp only at hSw); go_simp; try with_reducible rfl)
  simp only [Act.put, List.setIfInBounds_toArray, List.set_cons_zero, List.set_cons_succ]
  refine wpAnyT_take 12 (some 26) ?_ rfl rfl (by kernel_rfl) (fun _ _ _ h => h) hS1 (Or.inl ⟨by rfl, ?_⟩) ?_
  rotate_left
  · (intro w' hSw; (try dsimp only at hSw); go_simp; try with_reducible rfl)
  simp only [Act.put, List.setIfInBounds_toArray, List.set_cons_zero, List.set_cons_succ]
  refine wpAnyT_take 13 (some 27) ?_ rfl rfl (by kernel_rfl) (fun _ _ _ h => h) hS1 (Or.inl ⟨by rfl, ?_⟩) ?_
  rotate_left
  · (intro w' hSw; (try dsimp only at hSw); go_simp; try with_reducible rfl)
  simp only [Act.put, List.setIfInBounds_toArray, List.set_cons_zero, List.set_cons_succ]
  refine wpAnyT_take 14 (some 7) ?_ rfl rfl (by kernel_rfl) (fun _ _ _ h => h) hS1 (Or.inl ⟨by rfl, ?_⟩) ?_
  rotate_left
  · (intro w' hSw; (try dsimp only at hSw); go_simp; try with_reducible rfl)
  simp only [Act.put, List.setIfInBounds_toArray, List.set_cons_zero, List.set_cons_succ]
  refine wpAnyT_one 15 rfl (by kernel_rfl) rfl ?_
  intro K hK
  go_simp
  show K _ _
  refine hK.out _ _ (fun h => absurd rfl h) ?_
  clear hK K
  refine wpAnyT_done (by kernel_rfl) ?_ _

  go_wp2_with fail
  refine (must_yes 0 w1).mono ?_
  rintro e w2 ⟨rfl, rfl⟩
  go_wp2_with fail
  exact fin hR ⟨v, rfl, (Mod.refl No _).drew.trans hm1, hr1 trivial⟩

set_option maxRecDepth 100000 in
theorem sector_no {X : Nat → Prop} {b sb mb p : Nat} {d : Dk} {w : World} (side at_ : Nat) (ha : d.n / 2 ≤ at_) (h : DkAt w X b sb mb d) (c0 : w.cell? ⟨p, 0, none⟩ = some (.pointer (some ⟨b, 0, none⟩))) :
    Calls Tryz.prog 79 #[.pointer (some ⟨p, 0, none⟩), .int .i64 (side : Int), .int .i64 (at_ : Int)] w fun e w' => e = Stopped ∧ w' = w := by
  refine calls_hide fun R hR => ?_
  have HH0 := Lib.hid (half_any h c0)
  clear h c0
  generalize d.n / 2 = k at *
  have ha' : (k : Int) ≤ (at_ : Int) := by omega
  have hdk : decide (at_ < k) = false := decide_eq_false (by omega)
  go_enter Tryz.func79, Tryz.ntmps79
  go_wp2_with fail
  refine HH0.out.mono ?_
  clear HH0
  rintro e w' ⟨rfl, rfl⟩
  go_wp2_with fail
  refine (must_no w').mono ?_
  rintro e w2 ⟨rfl, rfl⟩
  go_wp2_with fail
  exact ⟨rfl, fin hR ⟨rfl, rfl⟩⟩

end Go.Proofs.YtkeopmfmlciadaaGreat
namespace Go.Proofs.YtkeopmfmlciadaaGreat
open Go.RowKit

theorem rdAll_succ (S : Nat → List UInt8) (base size k : Nat) : rdAll S base size (k + 1) = rdAll S base size k ++ (S (base + k)).take size := by
  unfold rdAll
  rw [List.range_succ, List.flatMap_append]
  simp

theorem rdAll_le {S : Nat → List UInt8} {base size : Nat} : ∀ k, (rdAll S base size k).length ≤ k * size
  | 0 => by simp [rdAll]
  | k + 1 => by
    have := rdAll_le (S := S) (base := base) (size := size) k
    rw [rdAll_succ, List.length_append, Nat.succ_mul]
    have := List.length_take_le size (S (base + k))
    omega

set_option maxRecDepth 100000 in
theorem lit135 (t : Array Value) (h : t.size = 135) : ∃ c : Nat → Value, t = #[c 0, c 1, c 2, c 3, c 4, c 5, c 6, c 7, c 8, c 9, c 10, c 11, c 12, c 13, c 14, c 15, c 16, c 17, c 18, c 19, c 20, c 21, c 22, c 23, c 24, c 25, c 26, c 27, c 28, c 29, c 30, c 31, c 32, c 33, c 34, c 35, c 36, c 37, c 38, c 39, c 40, c 41, c 42, c 43, c 44, c 45, c 46, c 47, c 48, c 49, c 50, c 51, c 52, c 53, c 54, c 55, c 56, c 57, c 58, c 59, c 60, c 61, c 62, c 63, c 64, c 65, c 66, c 67, c 68, c 69, c 70, c 71, c 72, c 73, c 74, c 75, c 76, c 77, c 78, c 79, c 80, c 81, c 82, c 83, c 84, c 85, c 86, c 87, c 88, c 89, c 90, c 91, c 92, c 93, c 94, c 95, c 96, c 97, c 98, c 99, c 100, c 101, c 102, c 103, c 104, c 105, c 106, c 107, c 108, c 109, c 110, c 111, c 112, c 113, c 114, c 115, c 116, c 117, c 118, c 119, c 120, c 121, c 122, c 123, c 124, c 125, c 126, c 127, c 128, c 129, c 130, c 131, c 132, c 133, c 134] ∧ ∀ i, t.getD i undef = c i := by
  refine ⟨fun i => t.getD i undef, ?_, fun _ => rfl⟩
  have h1 := arr_lits t
  rw [h] at h1
  exact h1.trans (by kernel_rfl)

theorem DkAt.lenL {w : World} {X : Nat → Prop} {b sb mb : Nat} {d : Dk} (h : DkAt w X b sb mb d) {i : Nat} (hi : i < d.n) : (d.last i).length = d.sz := by
  have h1 := h.lenS i hi
  have h2 := h.lenD i
  unfold Dk.last
  cases e : d.dirty i with
  | none => exact h1
  | some l => exact h2 l hi e

noncomputable def open49 : Code := Tryz.f58.body.getD .skip
noncomputable def secs49 : Code := (blockAt 0 open49).getD .skip

set_option maxRecDepth 100000 in
set_option maxHeartbeats 1600000 in
theorem secs_any {b sb mb p : Nat} {d : Dk} {w : World} (side at_ beh : Nat) (v va vn vt vx : Value) (f : Act) (base : Nat) (hs : side < 2) (ha : at_ < beh) (hbh : beh ≤ d.n / 2) (hw : Well d) (h : DkAt w (fun k => base ≤ k) b sb mb d) (h3 : ∀ k, Own3 b sb mb k → k < base) (hp : p < base) (c0 : w.cell? ⟨p, 0, none⟩ = some (.pointer (some ⟨b, 0, none⟩)))
    (hbase : base ≤ w.heap.size) (hown : w.ownsRow base 5 1 v (rdAll d.last (side * (d.n / 2) + at_) (d.sz - 16) 1).length (bv (rdAll d.last (side * (d.n / 2) + at_) (d.sz - 16) 1)))
    (hF : Fr 135 [(0, .pointer (some ⟨p, 0, none⟩)), (1, .int .i64 (side : Int)), (2, va), (3, vx), (12, v), (14, vt), (15, vn), (16, .int .i64 (beh : Int)), (17, .int .i64 ((at_ : Int) + 1))] f) :
    Code.wp Tryz.prog secs49 (Exit.then (fun a' w' => (∃ v', w'.ownsRow base 5 1 v' (rdAll d.last (side * (d.n / 2) + at_) (d.sz - 16) (beh - at_)).length (bv (rdAll d.last (side * (d.n / 2) + at_) (d.sz - 16) (beh - at_))) ∧
      Fr 135 [(0, .pointer (some ⟨p, 0, none⟩)), (1, .int .i64 (side : Int)), (2, va), (3, vx), (12, v'), (14, vt), (15, vn), (16, .int .i64 (beh : Int))] a') ∧ Mod (fun k => base ≤ k) w w') Nope) f w := by
  obtain ⟨i0, hi, hz0, hz1, hz2⟩ := info_parts info_u8
  refine wp_part fun J K' hJ hK => ?_
  obtain ⟨ts, ds⟩ := f
  obtain ⟨hsz, hds, hs0, hs1, hs2, hs3, hs12, hs14, hs15, hs16, hs17, -⟩ := hF
  dsimp only at hsz hds hs0 hs1 hs2 hs3 hs12 hs14 hs15 hs16 hs17
  subst hds
  obtain ⟨c, rfl, hc⟩ := lit135 ts hsz
  rw [hc] at hs0
  rw [hc] at hs1
  rw [hc] at hs2
  rw [hc] at hs3
  rw [hc] at hs12
  rw [hc] at hs14
  rw [hc] at hs15
  rw [hc] at hs16
  rw [hc] at hs17
  simp only [hs0, hs1, hs2, hs3, hs12, hs14, hs15, hs16, hs17]
  clear hc hsz hs0 hs1 hs2 hs3 hs12 hs14 hs15 hs16 hs17

  have HJ := Lib.hid hJ
  have HO := Lib.hid hown
  have HD := Lib.hid h
  have HW := Lib.hid hw
  have hn2 : d.n ≤ 4096 := h.n2
  have hz1' : 64 ≤ d.sz := h.s1
  have hz2' : d.sz ≤ 4096 := h.s2
  have hlenX := fun k => Lib.hid (rdAll_le (S := d.last) (base := side * (d.n / 2) + at_) (size := d.sz - 16) k)
  have HL := Lib.hid hlenX
  have HC := Lib.hid c0
  clear hJ hown h hw hlenX c0
  generalize hm : d.sz - 16 = m at *
  generalize hk : d.n / 2 = H at *
  have hm1 : 48 ≤ m := by omega
  have hm2 : m ≤ 4080 := by omega
  have hH : H ≤ 2048 := by omega
  have HM := Lib.hid hm
  have HK := Lib.hid hk
  clear hm hk hn2
  conv => arg 2; whnf
  go_wp2_with fail
  go_loopw [12, 17] (fun u i wr => ∃ k : Nat, at_ + k ≤ beh ∧ 1 ≤ k ∧ i = .int .i64 ((at_ : Int) + (k : Int)) ∧ wr.ownsRow base 5 1 u (rdAll d.last (side * H + at_) m k).length (bv (rdAll d.last (side * H + at_) m k)) ∧ Mod (fun k => base ≤ k) w wr) (fun _ i _ => beh - (intOf i).toNat)
  case atStart => exact ⟨1, by omega, by omega, rfl, HO.out, Mod.refl _ _⟩
  case round =>
    clear HO
    obtain ⟨k, hk1, hk2, rfl, hown, hmod⟩ := hrel
    have HM1 := Lib.hid hmod
    have hd1 := HD.out.keep hmod (fun e => by have := h3 b (.inl rfl); omega) (fun e => by have := h3 sb (.inr (.inl rfl)); omega) (fun e => by have := h3 mb (.inr (.inr rfl)); omega) (fun k hk => .inl hk)
    have hc1 := hmod.cell HC.out (fun e => by dsimp only at e; omega)
    by_cases hlt : at_ + k < beh
    · have hi1 : (at_ : Int) + (k : Int) < (beh : Int) := by omega
      have HSEC := sector_yes (p := p) side (at_ + k) hs (by rw [HK.out]; omega) HW.out hd1 hc1
      rw [HK.out] at HSEC
      have HSEC := Lib.hid HSEC
      have HO := Lib.hid hown
      have HD1 := Lib.hid hd1
      have HC1 := Lib.hid hc1
      have hL := (HL.out k).out
      have hL2 : (rdAll d.last (side * H + at_) m k).length ≤ 2048 * 4080 := Nat.le_trans hL (Nat.mul_le_mul (by omega) hm2)
      have HLEN := Lib.hid (hd1.lenL (i := side * H + (at_ + k)) (by
        have h1 : side = 0 ∨ side = 1 := by omega
        have := HK.out
        rcases h1 with g | g
        · subst g; omega
        · subst g; omega))
      clear hown hmod hd1 hc1 hL
      rw [Int.natCast_add] at HSEC
      go_wp2_with fail
      refine HSEC.out.mono ?_
      clear HSEC
      rintro e w1 ⟨v1, rfl, hm1, ho1⟩
      obtain ⟨g, cap, rfl, hgb⟩ := own_shape ho1 (by omega)
      have hsl := Sl.of_own (X := No) ho1 (fun _ _ f => f)
      have hmsz : m ≤ d.sz := by have := HM.out; omega
      obtain ⟨g', o', c', hsh, hcap1, hcap2, _⟩ := hsl.shape (by omega)
      cases hsh
      have hsl2 := hsl.takeN (m := m) (by rw [bv_length, HLEN.out]) (by omega)
      rw [← bv_take] at hsl2
      have hmc : (m : Int) ≤ (cap : Int) := by omega
      have HS2 := Lib.hid hsl2
      have HSZ := lsize_any (HD1.out.stay hm1) (hm1.cell HC1.out (fun f => f))
      rw [HM.out] at HSZ
      have HSZ := Lib.hid HSZ
      have HO1 := Lib.hid (own_keepM HO.out hm1 (fun _ _ f => f))
      have HM2 := Lib.hid (HM1.out.trans (hm1.weaken fun _ _ f => f.elim))
      have htl : ((d.last (side * H + (at_ + k))).take m).length = m := by rw [List.length_take, HLEN.out]; omega
      have HTL := Lib.hid htl
      have hbw : base ≤ w1.heap.size := by have := HM2.out.size; omega
      clear hsl hsl2 ho1 HD1 HC1 HO htl
      go_wp2_with fail
      refine HSZ.out.mono ?_
      clear HSZ
      rintro e w2 ⟨rfl, h2⟩
      subst h2
      go_wp2_with (at_builtin; refine app_sl _ rfl _ _ 45 rfl base 5 i0 (.int .u8 0) 1 1 Tryz.underlying45 hi hz0 hz1 hz2 rfl (by decide) _ _ _ rfl HO1.out No 5 _ _ _ rfl HS2.out ?_ (bv_one _) ?_ ?_ hbw ?_)
      · rw [bv_length, HTL.out, Nat.mul_one]
      · unfold maxLen; omega
      · omega
      intro v' w2 hown2 hg2 _
      have hnew := rdAll_succ d.last (side * H + at_) m k
      rw [Nat.add_assoc] at hnew
      have HO2 := Lib.hid (show w2.ownsRow base 5 1 v' (rdAll d.last (side * H + at_) m (k + 1)).length (bv (rdAll d.last (side * H + at_) m (k + 1))) by
        rw [hnew, List.length_append, HTL.out, bv_append]; exact hown2)
      have HM3 := Lib.hid (HM2.out.trans (Mod.of_grown (S := fun q => base ≤ q) hg2 (fun q e _ => (HO1.out.lt _ e).1)))
      clear hown2 hg2 hnew
      go_wp2_with fail
      exact ⟨⟨k + 1, by omega, by omega, by go_num, HO2.out, HM3.out⟩, by go_light; simp only [intOf]; omega⟩
    · have hkn : beh - at_ = k := by omega
      have hnlt : ¬ (at_ : Int) + (k : Int) < (beh : Int) := by omega
      rw [hkn] at HJ
      clear hd1 hc1
      have HO := Lib.hid hown
      clear hown hmod
      go_wp2_with fail
      exact Met.intro (HJ.out _ _ ⟨⟨_, HO.out, rfl, rfl, rfl, rfl, rfl, rfl, rfl, rfl, rfl, rfl, trivial⟩, HM1.out⟩)

end Go.Proofs.YtkeopmfmlciadaaGreat
namespace Go.Proofs.YtkeopmfmlciadaaGreat
open Go.RowKit

/-- A stop, and what is known there. -/
def StopQ (M : World → Prop) : Exit → Act → World → Prop := fun e a w => match e with
  | .panic ch => ch = [{ v := stopV, recovered := false }] ∧ a.defers = [] ∧ M w
  | _ => False

/-- Records in memory of one's own. -/
structure OwnRecs (w : World) (base : Nat) (v : Value) (rs : List (List UInt8)) : Prop where
  row : ∃ vs : List Value, vs.length = rs.length ∧ w.ownsRow base 45 1 v rs.length vs ∧ ∀ (j : Nat) (u : Value) (r : List UInt8), vs[j]? = some u → rs[j]? = some r → Sl w (fun k => k < base) 5 u r.length (bv r)

theorem OwnRecs.nil (w : World) (base : Nat) : OwnRecs w base (.slice none 0 0) [] := ⟨[], rfl, World.ownsRow_nil _ _ _ _, fun j u r h => by cases h⟩

theorem OwnRecs.stay {w w' : World} {base : Nat} {v : Value} {rs : List (List UInt8)} (h : OwnRecs w base v rs) (hm : Mod No w w') : OwnRecs w' base v rs := by
  obtain ⟨vs, h1, h2, h3⟩ := h.row
  exact ⟨vs, h1, own_keepM h2 hm (fun _ _ f => f), fun j u r hu hr => (h3 j u r hu hr).keep hm (fun _ _ _ f => f.elim)⟩

/-- One more record is appended. -/
theorem OwnRecs.push {w w' : World} {base : Nat} {v v' u : Value} {rs : List (List UInt8)} {vs : List Value} {r : List UInt8} (h1 : vs.length = rs.length) (h2 : w.ownsRow base 45 1 v rs.length vs)
    (h3 : ∀ (j : Nat) (u : Value) (r : List UInt8), vs[j]? = some u → rs[j]? = some r → Sl w (fun k => k < base) 5 u r.length (bv r)) (hu : Sl w (fun k => k < base) 5 u r.length (bv r))
    (hg : w.grownBy w' v.ownBlock) (hown : w'.ownsRow base 45 1 v' (rs.length + 1) (vs ++ [u])) : OwnRecs w' base v' (rs ++ [r]) := by
  have hm := Mod.of_grown (S := fun q => v.ownBlock = some q) hg (fun q e _ => e)
  have hk : ∀ {n : Nat} {xs : List Value} {x : Value}, Sl w (fun k => k < base) 5 x n xs → Sl w' (fun k => k < base) 5 x n xs := fun hs => hs.keep hm fun k cur fz hk _ e => by
    obtain ⟨cur', hc⟩ := own_heapM h2 hk
    rw [hc] at e
    cases e
  refine ⟨vs ++ [u], by simp [h1], by simpa using hown, fun j x y hx hy => ?_⟩
  rcases Nat.lt_or_ge j vs.length with g | g
  · rw [List.getElem?_append_left g] at hx
    rw [List.getElem?_append_left (by omega)] at hy
    exact hk (h3 j x y hx hy)
  · rw [List.getElem?_append_right g] at hx
    rw [List.getElem?_append_right (by omega)] at hy
    have e1 : j - vs.length = 0 := by
      rcases Nat.eq_zero_or_pos (j - vs.length) with e | e
      · exact e
      · rw [List.getElem?_eq_none (by simp; omega)] at hx; cases hx
    rw [e1] at hx
    rw [show j - rs.length = 0 by omega] at hy
    simp at hx hy
    subst hx hy
    exact hk hu

theorem parse_fuel : ∀ (n : Nat) (l : List UInt8), l.length ≤ n → ∀ f, l.length ≤ f → parse f l = parse l.length l
  | _, [], _, f, _ => by cases f <;> rfl
  | n + 1, x :: l, hn, f + 1, hf => by
    simp only [List.length_cons] at hn hf
    show parse (f + 1) (x :: l) = parse (l.length + 1) (x :: l)
    unfold parse
    split
    · rfl
    · split
      · have hd : ((x :: l).drop (4 + getN ((x :: l).take 4))).length ≤ l.length - 3 := by rw [List.length_drop, List.length_cons]; omega
        rw [parse_fuel n _ (by omega) f (by omega), parse_fuel n _ (by omega) l.length (by omega)]
      · rfl

theorem parse_short {R : List UInt8} (h0 : 0 < R.length) (h4 : R.length < 4) : parse R.length R = none := by
  match R, h0 with
  | x :: l, _ => show parse (l.length + 1) (x :: l) = none; unfold parse; rw [if_pos h4]
theorem parse_long {R : List UInt8} (h4 : 4 ≤ R.length) (hk : ¬ getN (R.take 4) ≤ R.length - 4) : parse R.length R = none := by
  match R, h4 with
  | x :: l, h4 => show parse (l.length + 1) (x :: l) = none; unfold parse; rw [if_neg (by omega), if_neg hk]
theorem parse_more {R : List UInt8} (h4 : 4 ≤ R.length) (hk : getN (R.take 4) ≤ R.length - 4) :
    parse R.length R = (parse (R.drop (4 + getN (R.take 4))).length (R.drop (4 + getN (R.take 4)))).map ((R.drop 4).take (getN (R.take 4)) :: ·) := by
  match R, h4 with
  | x :: l, h4 =>
    show parse (l.length + 1) (x :: l) = _
    unfold parse
    rw [if_neg (by omega), if_pos hk]
    rw [parse_fuel _ _ (Nat.le_refl _) l.length (by rw [List.length_drop, List.length_cons]; simp only [List.length_cons] at h4; omega)]
    cases hd : (x :: l).drop (4 + getN ((x :: l).take 4)) with
    | nil => rfl
    | cons y m => rfl

theorem getN_lt4 {l : List UInt8} (h : l.length = 4) : getN l < 4294967296 := by
  match l, h with
  | [a, b, c, d], _ =>
    have h1 := UInt8.toNat_lt a
    have h2 := UInt8.toNat_lt b
    have h3 := UInt8.toNat_lt c
    have h4 := UInt8.toNat_lt d
    simp only [getN, List.foldl_cons, List.foldl_nil]
    omega

noncomputable def recs49 : Code := (blockAt 2 open49).getD .skip

set_option maxRecDepth 100000 in
set_option maxHeartbeats 1600000 in
theorem recs_any (w : World) (base : Nat) (v vt vb : Value) (L : List UInt8) (f : Act) (hbase : base ≤ w.heap.size) (hL : L.length ≤ 8355840) (hv : Sl w No 5 v L.length (bv L))
    (hF : Fr 135 [(14, vt), (16, vb), (18, .slice none 0 0), (19, v)] f) :
    Code.wp Tryz.prog recs49 (Exit.then (fun a' w' => (∃ rs v', parse L.length L = some rs ∧ OwnRecs w' base v' rs ∧ Fr 135 [(14, vt), (16, vb), (18, v')] a') ∧ Mod (fun k => base ≤ k) w w') (StopQ fun w' => parse L.length L = none ∧ Mod (fun k => base ≤ k) w w')) f w := by
  obtain ⟨i0, hi, hz0, hz1, hz2⟩ := info_parts info_bs
  refine wp_part fun J K' hJ hK => ?_
  obtain ⟨ts, ds⟩ := f
  obtain ⟨hsz, hds, hs14, hs16, hs18, hs19, -⟩ := hF
  dsimp only at hsz hds hs14 hs16 hs18 hs19
  subst hds
  obtain ⟨c, rfl, hc⟩ := lit135 ts hsz
  rw [hc] at hs14
  rw [hc] at hs16
  rw [hc] at hs18
  rw [hc] at hs19
  simp only [hs14, hs16, hs18, hs19]
  clear hc hsz hs14 hs16 hs18 hs19

  have HJ := Lib.hid hJ
  have HV := Lib.hid hv
  clear hJ hv
  conv => arg 2; whnf
  go_wp2_with fail
  go_loopw [18, 19] (fun o r wr => ∃ R done, parse L.length L = (parse R.length R).map (done ++ ·) ∧ done.length + R.length ≤ L.length ∧ OwnRecs wr base o done ∧ Sl wr No 5 r R.length (bv R) ∧ Mod (fun k => base ≤ k) w wr) (fun _ r _ => match r with | .slice _ n _ => n | _ => 0)
  case atStart => exact ⟨L, [], by simp, by simp, OwnRecs.nil _ _, HV.out, Mod.refl _ _⟩
  case round =>
    clear HV
    obtain ⟨R, done, hpar, hlen, hown, hsl, hmod⟩ := hrel
    obtain ⟨vs0, -, e20, -⟩ := hown.row
    obtain ⟨oa, oc, rfl⟩ := own_len e20
    have HM := Lib.hid hmod
    have HPA := Lib.hid hpar
    have HOW := Lib.hid hown
    clear e20 vs0
    clear hmod hpar hown
    by_cases h0 : 0 < R.length
    · obtain ⟨g, o, c', rfl, hc1, hc2, _⟩ := hsl.shape h0
      have HSL := Lib.hid hsl
      clear hsl
      have h0' : (0 : Int) < (R.length : Int) := by omega
      by_cases h4 : R.length < 4
      · have h4' : (R.length : Int) < 4 := by omega
        have hd4 : decide ((4 : Int) ≤ (R.length : Int)) = false := decide_eq_false (by omega)
        go_wp2_with fail
        refine (must_no wr).mono ?_
        rintro e w2 ⟨rfl, h2⟩
        subst h2
        go_wp2_with fail
        exact ⟨rfl, rfl, by rw [HPA.out, parse_short h0 h4]; rfl, HM.out⟩
      · have h4' : (4 : Int) ≤ (R.length : Int) := by omega
        have hd4 : decide ((4 : Int) ≤ (R.length : Int)) = true := decide_eq_true (by omega)
        have hs4 := HSL.out.takeN (m := 4) (by rw [bv_length]) (by omega)
        rw [← bv_take] at hs4
        have e4 : (R.take 4).length = 4 := by rw [List.length_take]; omega
        have HG := get_any 5 (.slice (some ⟨g, o, none⟩) 4 c') (R.take 4) wr (by rw [e4]; exact hs4) (by omega)
        have hgk : getN (R.take 4) < 4294967296 := getN_lt4 e4
        have HG := Lib.hid HG
        have h4c : (4 : Int) ≤ (c' : Int) := by omega
        clear hs4
        generalize hk : getN (R.take 4) = k at *
        by_cases hkl : k ≤ R.length - 4
        · go_wp2_with fail
          refine (must_yes 0 wr).mono ?_
          rintro e w2 ⟨rfl, h2⟩
          subst h2
          go_wp2_with fail
          refine HG.out.mono ?_
          rintro e w2 ⟨rfl, h2⟩
          subst h2
          have hkl' : decide ((k : Int) ≤ (R.length : Int) - 4) = true := decide_eq_true (by omega)
          go_wp2_with fail
          refine (must_yes 0 w2).mono ?_
          rintro e w3 ⟨rfl, h2⟩
          subst h2
          have hk1 : (4 : Int) + (k : Int) ≤ (R.length : Int) := by omega
          have hk2 : (4 : Int) + (k : Int) ≤ (c' : Int) := by omega
          have HPM := Lib.hid (parse_more (R := R) (by omega) (by rw [hk]; exact hkl))
          rw [hk] at HPM
          have hl1 : ((R.drop 4).take k).length = k := by rw [List.length_take, List.length_drop]; omega
          have hl2 : (R.drop (4 + k)).length = R.length - (4 + k) := List.length_drop
          have HL1 := Lib.hid hl1
          have HL2 := Lib.hid hl2
          have hk4 : k < 4294967296 := hgk
          clear hl1 hl2 hgk
          by_cases hc4 : c' = 4
          · have hk0 : k = 0 := by omega
            subst hc4 hk0
            have HS1 := Lib.hid (show Sl w3 No 5 (.slice (some ⟨g, o, none⟩) 0 0) ((R.drop 4).take 0).length (bv ((R.drop 4).take 0)) from HSL.out.zero)
            have HS2 := Lib.hid (show Sl w3 No 5 (.slice (some ⟨g, o, none⟩) 0 0) (R.drop (4 + 0)).length (bv (R.drop (4 + 0))) by
              rw [List.drop_of_length_le (show R.length ≤ 4 + 0 by omega)]; exact HSL.out.zero)
            have HCL := Lib.hid (clone_bytes No _ (bv ((R.drop 4).take 0)) w3 (by rw [bv_length]; exact HS1.out) (bv_one _) (by rw [bv_length, HL1.out]; omega))
            clear HS1
            go_wp2_with fail
            refine HCL.out.mono ?_
            clear HCL
            rintro e w4 ⟨u, rfl, hou, _, hm4⟩
            rw [bv_length, HL1.out] at hou
            obtain ⟨ua, uc, rfl⟩ := own_len hou
            have hsu := Sl.of_own (X := fun k => k < base) hou (fun q h1 h2 => by have := HM.out.size; omega)
            have hsu2 : Sl w4 (fun k => k < base) 5 (.slice ua 0 uc) ((R.drop 4).take 0).length (bv ((R.drop 4).take 0)) := by rw [HL1.out]; exact hsu
            obtain ⟨vs, e1, e2, e3⟩ := (HOW.out.stay hm4).row
            have hm5 : Mod No w4 (w4.alloc (.cells #[.slice ua 0 uc] 45)) := (Mod.refl No w4).alloc _
            have HU := Lib.hid (hsu2.keep hm5 (fun _ _ _ f => f.elim))
            have HO5 := Lib.hid (own_keepM e2 hm5 (fun _ _ f => f))
            have HE1 := Lib.hid e1
            have HE3 := Lib.hid (show ∀ (j : Nat) (u' : Value) (r : List UInt8), vs[j]? = some u' → done[j]? = some r → Sl (w4.alloc (.cells #[.slice ua 0 uc] 45)) (fun k => k < base) 5 u' r.length (bv r) from fun j u' r h1 h2 => (e3 j u' r h1 h2).keep hm5 (fun _ _ _ f => f.elim))
            have HBX := Lib.hid (show Sl (w4.alloc (.cells #[.slice ua 0 uc] 45)) No 45 (.slice (some ⟨w4.heap.size, 0, none⟩) 1 1) 1 [.slice ua 0 uc] from
              .inr ⟨w4.heap.size, 0, 1, #[.slice ua 0 uc], (0, 0), rfl, Nat.le_refl _, by unfold maxLen; omega, fun f => f, heap_alloc_new w4 _, Nat.le_refl _, fun i hi => by simp⟩)
            have HM5 := Lib.hid ((HM.out.trans (hm4.weaken fun _ _ f => f.elim)).alloc (.cells #[.slice ua 0 uc] 45))
            have HS5 := Lib.hid ((HS2.out.keep hm4 (fun _ _ _ f => f.elim)).keep hm5 (fun _ _ _ f => f.elim))
            have hb5 : base ≤ (w4.alloc (.cells #[.slice ua 0 uc] 45)).heap.size := by have := HM5.out.size; omega
            have h1c : ∀ y ∈ [Value.slice ua 0 uc], y.oneCell' = true := by
              intro y hy
              simp at hy
              subst hy
              rfl
            have H1C := Lib.hid h1c
            have hdl : done.length ≤ 8355840 := by omega
            clear hou hsu hsu2 e1 e2 e3 hm4 hm5 HS2 h1c
            go_wp2_with (at_builtin; refine app_sl _ rfl _ _ 72 rfl base 45 i0 (.slice none 0 0) 1 24 Tryz.underlying72 hi hz0 hz1 hz2 rfl (by decide) _ _ _ rfl HO5.out No 45 _ _ _ rfl HBX.out rfl H1C.out ?_ ?_ hb5 ?_)
            · unfold maxLen; omega
            · omega
            intro v' w6 hown6 hg6 _
            have HR6 := Lib.hid (OwnRecs.push HE1.out HO5.out HE3.out HU.out hg6 hown6)
            have HM6 := Lib.hid (HM5.out.trans (Mod.of_grown (S := fun q => base ≤ q) hg6 (fun q e _ => (HO5.out.lt _ e).1)))
            have HS6 := Lib.hid (HS5.out.keep (Mod.of_grown (S := fun q => Value.ownBlock _ = some q) hg6 (fun q e _ => e)) (fun q cur fz e _ h => by
              obtain ⟨cur', hc⟩ := own_heapM HO5.out e
              rw [hc] at h
              cases h))
            clear hown6 hg6 HO5 HE1 HE3 HU HBX HM5 HS5 H1C
            go_wp2_with fail
            exact ⟨⟨R.drop (4 + 0), done ++ [(R.drop 4).take 0], by rw [HPA.out, HPM.out, Option.map_map]; congr 1; funext x; simp [Function.comp], by have := HL2.out; simp only [List.length_append, List.length_cons, List.length_nil]; omega, HR6.out, HS6.out, HM6.out⟩, by show 0 < R.length; omega⟩
          · by_cases hc5 : c' = 4 + k
            · subst hc5
              have HS1 := Lib.hid (show Sl w3 No 5 (.slice (some ⟨g, o + 4, none⟩) k k) ((R.drop 4).take k).length (bv ((R.drop 4).take k)) by
                rw [HL1.out, bv_take, bv_drop]; exact HSL.out.part (by rw [bv_length]) 4 k _ (by omega) (by omega) (by omega))
              have HS2 := Lib.hid (show Sl w3 No 5 (.slice (some ⟨g, o, none⟩) (R.length - (4 + k)) (4 + k - (4 + k))) (R.drop (4 + k)).length (bv (R.drop (4 + k))) by
                rw [HL2.out, show R.length - (4 + k) = 0 by omega, show 4 + k - (4 + k) = 0 by omega, List.drop_of_length_le (by omega)]; exact HSL.out.zero)
              have HCL := Lib.hid (clone_bytes No _ (bv ((R.drop 4).take k)) w3 (by rw [bv_length]; exact HS1.out) (bv_one _) (by rw [bv_length, HL1.out]; omega))
              clear HS1
              go_wp2_with fail
              refine HCL.out.mono ?_
              clear HCL
              rintro e w4 ⟨u, rfl, hou, _, hm4⟩
              rw [bv_length, HL1.out] at hou
              obtain ⟨ua, uc, rfl⟩ := own_len hou
              have hsu := Sl.of_own (X := fun k => k < base) hou (fun q h1 h2 => by have := HM.out.size; omega)
              have hsu2 : Sl w4 (fun k => k < base) 5 (.slice ua k uc) ((R.drop 4).take k).length (bv ((R.drop 4).take k)) := by rw [HL1.out]; exact hsu
              obtain ⟨vs, e1, e2, e3⟩ := (HOW.out.stay hm4).row
              have hm5 : Mod No w4 (w4.alloc (.cells #[.slice ua k uc] 45)) := (Mod.refl No w4).alloc _
              have HU := Lib.hid (hsu2.keep hm5 (fun _ _ _ f => f.elim))
              have HO5 := Lib.hid (own_keepM e2 hm5 (fun _ _ f => f))
              have HE1 := Lib.hid e1
              have HE3 := Lib.hid (show ∀ (j : Nat) (u' : Value) (r : List UInt8), vs[j]? = some u' → done[j]? = some r → Sl (w4.alloc (.cells #[.slice ua k uc] 45)) (fun k => k < base) 5 u' r.length (bv r) from fun j u' r h1 h2 => (e3 j u' r h1 h2).keep hm5 (fun _ _ _ f => f.elim))
              have HBX := Lib.hid (show Sl (w4.alloc (.cells #[.slice ua k uc] 45)) No 45 (.slice (some ⟨w4.heap.size, 0, none⟩) 1 1) 1 [.slice ua k uc] from
                .inr ⟨w4.heap.size, 0, 1, #[.slice ua k uc], (0, 0), rfl, Nat.le_refl _, by unfold maxLen; omega, fun f => f, heap_alloc_new w4 _, Nat.le_refl _, fun i hi => by simp⟩)
              have HM5 := Lib.hid ((HM.out.trans (hm4.weaken fun _ _ f => f.elim)).alloc (.cells #[.slice ua k uc] 45))
              have HS5 := Lib.hid ((HS2.out.keep hm4 (fun _ _ _ f => f.elim)).keep hm5 (fun _ _ _ f => f.elim))
              have hb5 : base ≤ (w4.alloc (.cells #[.slice ua k uc] 45)).heap.size := by have := HM5.out.size; omega
              have h1c : ∀ y ∈ [Value.slice ua k uc], y.oneCell' = true := by
                intro y hy
                simp at hy
                subst hy
                rfl
              have H1C := Lib.hid h1c
              have hdl : done.length ≤ 8355840 := by omega
              clear hou hsu hsu2 e1 e2 e3 hm4 hm5 HS2 h1c
              go_wp2_with (at_builtin; refine app_sl _ rfl _ _ 72 rfl base 45 i0 (.slice none 0 0) 1 24 Tryz.underlying72 hi hz0 hz1 hz2 rfl (by decide) _ _ _ rfl HO5.out No 45 _ _ _ rfl HBX.out rfl H1C.out ?_ ?_ hb5 ?_)
              · unfold maxLen; omega
              · omega
              intro v' w6 hown6 hg6 _
              have HR6 := Lib.hid (OwnRecs.push HE1.out HO5.out HE3.out HU.out hg6 hown6)
              have HM6 := Lib.hid (HM5.out.trans (Mod.of_grown (S := fun q => base ≤ q) hg6 (fun q e _ => (HO5.out.lt _ e).1)))
              have HS6 := Lib.hid (HS5.out.keep (Mod.of_grown (S := fun q => Value.ownBlock _ = some q) hg6 (fun q e _ => e)) (fun q cur fz e _ h => by
                obtain ⟨cur', hc⟩ := own_heapM HO5.out e
                rw [hc] at h
                cases h))
              clear hown6 hg6 HO5 HE1 HE3 HU HBX HM5 HS5 H1C
              go_wp2_with fail
              exact ⟨⟨R.drop (4 + k), done ++ [(R.drop 4).take k], by rw [HPA.out, HPM.out, Option.map_map]; congr 1; funext x; simp [Function.comp], by have := HL2.out; simp only [List.length_append, List.length_cons, List.length_nil]; omega, HR6.out, HS6.out, HM6.out⟩, by show R.length - (4 + k) < R.length; omega⟩
            · have HS1 := Lib.hid (show Sl w3 No 5 (.slice (some ⟨g, o + 4, none⟩) k (c' - 4)) ((R.drop 4).take k).length (bv ((R.drop 4).take k)) by
                rw [HL1.out, bv_take, bv_drop]; exact HSL.out.part (by rw [bv_length]) 4 k _ (by omega) (by omega) (by omega))
              have HS2 := Lib.hid (show Sl w3 No 5 (.slice (some ⟨g, o + (4 + k), none⟩) (R.length - (4 + k)) (c' - (4 + k))) (R.drop (4 + k)).length (bv (R.drop (4 + k))) by
                have := HSL.out.part (by rw [bv_length]) (4 + k) (R.length - (4 + k)) (c' - (4 + k)) (by omega) (by omega) (by omega)
                rw [HL2.out, bv_drop]
                rwa [List.take_of_length_le (by rw [List.length_drop, bv_length]; omega)] at this)
              have HCL := Lib.hid (clone_bytes No _ (bv ((R.drop 4).take k)) w3 (by rw [bv_length]; exact HS1.out) (bv_one _) (by rw [bv_length, HL1.out]; omega))
              clear HS1
              go_wp2_with fail
              refine HCL.out.mono ?_
              clear HCL
              rintro e w4 ⟨u, rfl, hou, _, hm4⟩
              rw [bv_length, HL1.out] at hou
              obtain ⟨ua, uc, rfl⟩ := own_len hou
              have hsu := Sl.of_own (X := fun k => k < base) hou (fun q h1 h2 => by have := HM.out.size; omega)
              have hsu2 : Sl w4 (fun k => k < base) 5 (.slice ua k uc) ((R.drop 4).take k).length (bv ((R.drop 4).take k)) := by rw [HL1.out]; exact hsu
              obtain ⟨vs, e1, e2, e3⟩ := (HOW.out.stay hm4).row
              have hm5 : Mod No w4 (w4.alloc (.cells #[.slice ua k uc] 45)) := (Mod.refl No w4).alloc _
              have HU := Lib.hid (hsu2.keep hm5 (fun _ _ _ f => f.elim))
              have HO5 := Lib.hid (own_keepM e2 hm5 (fun _ _ f => f))
              have HE1 := Lib.hid e1
              have HE3 := Lib.hid (show ∀ (j : Nat) (u' : Value) (r : List UInt8), vs[j]? = some u' → done[j]? = some r → Sl (w4.alloc (.cells #[.slice ua k uc] 45)) (fun k => k < base) 5 u' r.length (bv r) from fun j u' r h1 h2 => (e3 j u' r h1 h2).keep hm5 (fun _ _ _ f => f.elim))
              have HBX := Lib.hid (show Sl (w4.alloc (.cells #[.slice ua k uc] 45)) No 45 (.slice (some ⟨w4.heap.size, 0, none⟩) 1 1) 1 [.slice ua k uc] from
                .inr ⟨w4.heap.size, 0, 1, #[.slice ua k uc], (0, 0), rfl, Nat.le_refl _, by unfold maxLen; omega, fun f => f, heap_alloc_new w4 _, Nat.le_refl _, fun i hi => by simp⟩)
              have HM5 := Lib.hid ((HM.out.trans (hm4.weaken fun _ _ f => f.elim)).alloc (.cells #[.slice ua k uc] 45))
              have HS5 := Lib.hid ((HS2.out.keep hm4 (fun _ _ _ f => f.elim)).keep hm5 (fun _ _ _ f => f.elim))
              have hb5 : base ≤ (w4.alloc (.cells #[.slice ua k uc] 45)).heap.size := by have := HM5.out.size; omega
              have h1c : ∀ y ∈ [Value.slice ua k uc], y.oneCell' = true := by
                intro y hy
                simp at hy
                subst hy
                rfl
              have H1C := Lib.hid h1c
              have hdl : done.length ≤ 8355840 := by omega
              clear hou hsu hsu2 e1 e2 e3 hm4 hm5 HS2 h1c
              go_wp2_with (at_builtin; refine app_sl _ rfl _ _ 72 rfl base 45 i0 (.slice none 0 0) 1 24 Tryz.underlying72 hi hz0 hz1 hz2 rfl (by decide) _ _ _ rfl HO5.out No 45 _ _ _ rfl HBX.out rfl H1C.out ?_ ?_ hb5 ?_)
              · unfold maxLen; omega
              · omega
              intro v' w6 hown6 hg6 _
              have HR6 := Lib.hid (OwnRecs.push HE1.out HO5.out HE3.out HU.out hg6 hown6)
              have HM6 := Lib.hid (HM5.out.trans (Mod.of_grown (S := fun q => base ≤ q) hg6 (fun q e _ => (HO5.out.lt _ e).1)))
              have HS6 := Lib.hid (HS5.out.keep (Mod.of_grown (S := fun q => Value.ownBlock _ = some q) hg6 (fun q e _ => e)) (fun q cur fz e _ h => by
                obtain ⟨cur', hc⟩ := own_heapM HO5.out e
                rw [hc] at h
                cases h))
              clear hown6 hg6 HO5 HE1 HE3 HU HBX HM5 HS5 H1C
              go_wp2_with fail
              exact ⟨⟨R.drop (4 + k), done ++ [(R.drop 4).take k], by rw [HPA.out, HPM.out, Option.map_map]; congr 1; funext x; simp [Function.comp], by have := HL2.out; simp only [List.length_append, List.length_cons, List.length_nil]; omega, HR6.out, HS6.out, HM6.out⟩, by show R.length - (4 + k) < R.length; omega⟩
        · have hkl' : decide ((k : Int) ≤ (R.length : Int) - 4) = false := decide_eq_false (by omega)
          go_wp2_with fail
          refine (must_yes 0 wr).mono ?_
          rintro e w2 ⟨rfl, h2⟩
          subst h2
          go_wp2_with fail
          refine HG.out.mono ?_
          rintro e w2 ⟨rfl, h2⟩
          subst h2
          go_wp2_with fail
          refine (must_no w2).mono ?_
          rintro e w3 ⟨rfl, h2⟩
          subst h2
          go_wp2_with fail
          exact ⟨rfl, rfl, by rw [HPA.out, parse_long (by omega) (by rw [hk]; exact hkl)]; rfl, HM.out⟩
    · have hR : R = [] := List.eq_nil_of_length_eq_zero (by omega)
      subst hR
      obtain ⟨a', cc, rfl⟩ := hsl.len
      clear hsl
      go_wp2_with fail
      exact Met.intro (HJ.out _ _ ⟨⟨done, _, by rw [HPA.out]; simp [parse], HOW.out, rfl, rfl, rfl, rfl, rfl, trivial⟩, HM.out⟩)

end Go.Proofs.YtkeopmfmlciadaaGreat
namespace Go.Proofs.YtkeopmfmlciadaaGreat
open Go.RowKit

theorem rd_cases {S : Nat → List UInt8} {h size side at_ next : Nat} (ha : at_ < h) :
    (¬ (((S (side * h + at_)).take size).take 8 = sign ∧ getN ((((S (side * h + at_)).take size).drop 16).take 8) = next ∧ getN (((S (side * h + at_)).drop size).take 8) = getN ((((S (side * h + at_)).take size).drop 8).take 8) ∧
        getN (((S (side * h + at_)).drop size).drop 8) = (next + 1) % 18446744073709551616 ∧ getN ((((S (side * h + at_)).take size).drop 24).take 8) + 32 ≤ (h - at_) * size) → rd S h size side at_ next = none) ∧
    ((((S (side * h + at_)).take size).take 8 = sign ∧ getN ((((S (side * h + at_)).take size).drop 16).take 8) = next ∧ getN (((S (side * h + at_)).drop size).take 8) = getN ((((S (side * h + at_)).take size).drop 8).take 8) ∧
        getN (((S (side * h + at_)).drop size).drop 8) = (next + 1) % 18446744073709551616 ∧ getN ((((S (side * h + at_)).take size).drop 24).take 8) + 32 ≤ (h - at_) * size) → rd S h size side at_ next =
      (parse (getN ((((S (side * h + at_)).take size).drop 24).take 8)) (((rdAll S (side * h + at_) size (secs size (32 + getN ((((S (side * h + at_)).take size).drop 24).take 8)))).drop 32).take (getN ((((S (side * h + at_)).take size).drop 24).take 8)))).map
        fun rs => (getN ((((S (side * h + at_)).take size).drop 8).take 8), rs, at_ + secs size (32 + getN ((((S (side * h + at_)).take size).drop 24).take 8)))) := by
  unfold rd
  rw [if_pos ha]
  exact ⟨fun h => if_neg h, fun h => if_pos h⟩

theorem rdAll_len {S : Nat → List UInt8} {base size : Nat} : ∀ k, (∀ i, i < k → size ≤ (S (base + i)).length) → (rdAll S base size k).length = k * size
  | 0, _ => by simp [rdAll]
  | k + 1, h => by
    rw [rdAll_succ, List.length_append, rdAll_len k fun i hi => h i (by omega), List.length_take, Nat.min_eq_left (h k (by omega)), Nat.succ_mul]

theorem wp_thenQ {P : Program} {s : Code} {R K : Act → World → Prop} {Q1 Q : Exit → Act → World → Prop} {a : Act} {w : World} (h : s.wp P (Exit.then R Q1) a w) (hR : ∀ a' w', R a' w' → K a' w') (hQ : ∀ e a' w', Q1 e a' w' → Q e a' w') : s.wp P (Exit.then K Q) a w := by
  refine wp_mono h ?_
  intro e a' w' hq
  cases e with
  | normal => exact hR _ _ hq
  | exit id => exact hQ _ _ _ hq
  | goto l => exact hQ _ _ _ hq
  | ret => exact hQ _ _ _ hq
  | panic ch => exact hQ _ _ _ hq
  | outgrown => exact hQ _ _ _ hq

set_option maxRecDepth 100000 in
set_option maxHeartbeats 4000000 in
theorem open_ok {b sb mb p : Nat} {d : Dk} {w : World} (side at_ next : Nat) (hs : side < 2) (ha : at_ < d.n / 2) (hnx : next + 1 < 18446744073709551616) (hz : 128 ≤ d.sz) (hw : Well d) (h : DkAt w No b sb mb d) (c0 : w.cell? ⟨p, 0, none⟩ = some (.pointer (some ⟨b, 0, none⟩))) :
    Calls Tryz.prog 58 #[.pointer (some ⟨p, 0, none⟩), .int .i64 (side : Int), .int .i64 (at_ : Int), .int .u64 (next : Int)] w fun e w' =>
      (match rd d.last (d.n / 2) (d.sz - 16) side at_ next with
        | some (t, rs, beh) => ∃ v, e = .returned (.tuple #[.int .u64 (t : Int), v, .int .i64 (beh : Int)]) ∧ OwnRecs w' w.heap.size v rs
        | none => e = Stopped) ∧ Mod No w w' := by
  refine calls_hide fun R hR => ?_
  obtain ⟨m, hm⟩ : ∃ m, d.sz = m + 16 := ⟨d.sz - 16, by have := h.s1; omega⟩
  have hm1 : 112 ≤ m := by omega
  have hm2 : m ≤ 4080 := by have := h.s2; omega
  have hn2 : d.n ≤ 4096 := h.n2
  have hsm : d.sz - 16 = m := by omega
  have HSEC := sector_yes (p := p) side at_ hs ha hw h c0
  obtain ⟨x, hx⟩ : ∃ x, x = d.last (side * (d.n / 2) + at_) := ⟨_, rfl⟩
  have hxl : x.length = m + 16 := by
    rw [hx, ← hm]
    refine h.lenL ?_
    have h1 : side = 0 ∨ side = 1 := by omega
    rcases h1 with g | g
    · subst g; omega
    · subst g; omega
  rw [← hx, hm] at HSEC
  have HSEC := Lib.hid HSEC
  have HD := Lib.hid h
  have HC := Lib.hid c0
  have HWELL := Lib.hid hw
  have HXL := Lib.hid hxl
  have HX := Lib.hid hx
  have HM := Lib.hid hm
  have HSM := Lib.hid hsm
  have hH : d.n / 2 ≤ 2048 := by omega
  have HN2 := Lib.hid hn2
  have HRD := (rd_cases (S := d.last) (h := d.n / 2) (size := d.sz - 16) (side := side) (at_ := at_) (next := next) ha)
  rw [hsm, ← hx] at HRD
  have HRD := Lib.hid HRD
  have h3 : ∀ k, Own3 b sb mb k → k < w.heap.size := fun k e => h.lt e
  have hpw : p < w.heap.size := lt_of_cell c0
  have H3 := Lib.hid (And.intro h3 hpw)
  have hlen : ∀ i, i < d.n / 2 → (d.last (side * (d.n / 2) + i)).length = m + 16 := fun i hi => by
    rw [← hm]
    refine h.lenL ?_
    have h1 : side = 0 ∨ side = 1 := by omega
    rcases h1 with g | g
    · subst g; omega
    · subst g; omega
  have HLEN := Lib.hid hlen
  clear h c0 hw hx hm hsm hn2 hxl h3 hpw hlen
  go_enter Tryz.func58, Tryz.ntmps58
  go_wp2_with fail
  refine HSEC.out.mono ?_
  clear HSEC
  rintro e w1 ⟨v, rfl, hm1', ho1⟩
  obtain ⟨g, cap, rfl, hgb⟩ := own_shape ho1 (by omega)
  have hsl := Sl.of_own (X := fun k => k < w.heap.size) ho1 (fun _ h1 h2 => by omega)
  obtain ⟨_, _, _, hsh, hcap1, hcap2, _⟩ := hsl.shape (by omega)
  cases hsh
  have hB := hsl.takeN (m := m) (by rw [bv_length, HXL.out]) (by omega)
  rw [← bv_take] at hB
  have hE := hsl.part (by rw [bv_length, HXL.out]) m 16 (cap - m) (by omega) (by omega) (by omega)
  rw [← bv_drop, ← bv_take, List.take_of_length_le (by rw [List.length_drop, HXL.out]; omega), Nat.zero_add] at hE
  have hbl : (x.take m).length = m := by rw [List.length_take, HXL.out]; omega
  have hel : (x.drop m).length = 16 := by rw [List.length_drop, HXL.out]; omega
  have M1 := Lib.hid hm1'
  have HSL := Lib.hid hsl
  have HB := Lib.hid hB
  have field : ∀ o, o + 8 ≤ 32 → ∀ wq, Mod No w1 wq → Calls Tryz.prog 81 #[.slice (some ⟨g, o, none⟩) 8 (cap - o)] wq fun e w' => e = .returned (.int .u64 ((getN (((x.take m).drop o).take 8) : Nat) : Int)) ∧ w' = wq := fun o ho wq hq => by
    have h1 := hB.part (by rw [bv_length, hbl]) o 8 (cap - o) (by omega) (by omega) (by omega)
    rw [← bv_drop, ← bv_take, Nat.zero_add] at h1
    have h2 : (((x.take m).drop o).take 8).length = 8 := by rw [List.length_take, List.length_drop, hbl]; omega
    exact get_any (X := fun k => k < w.heap.size) 5 _ _ _ (by rw [h2]; exact h1.keep hq (fun _ _ _ f => f.elim)) (by omega)
  have tailf : ∀ o, o + 8 ≤ 16 → ∀ wq, Mod No w1 wq → Calls Tryz.prog 81 #[.slice (some ⟨g, m + o, none⟩) 8 (cap - m - o)] wq fun e w' => e = .returned (.int .u64 ((getN (((x.drop m).drop o).take 8) : Nat) : Int)) ∧ w' = wq := fun o ho wq hq => by
    have h1 := hE.part (by rw [bv_length, hel]) o 8 (cap - m - o) (by omega) (by omega) (by omega)
    rw [← bv_drop, ← bv_take] at h1
    have h2 : (((x.drop m).drop o).take 8).length = 8 := by rw [List.length_take, List.length_drop, hel]; omega
    exact get_any (X := fun k => k < w.heap.size) 5 _ _ _ (by rw [h2]; exact h1.keep hq (fun _ _ _ f => f.elim)) (by omega)
  have G8 := Lib.hid (field 8 (by omega))
  have G16 := Lib.hid (field 16 (by omega))
  have G24 := Lib.hid (field 24 (by omega))
  have E0 := tailf 0 (by omega)
  simp only [Nat.add_zero, Nat.sub_zero, List.drop_zero] at E0
  have E0 := Lib.hid E0
  have E8 := Lib.hid (tailf 8 (by omega))
  have e16 : ((x.drop m).drop 8).take 8 = (x.drop m).drop 8 := List.take_of_length_le (by rw [List.length_drop, hel]; omega)
  rw [e16] at E8
  have HSZ := Lib.hid (show ∀ wq, Mod No w1 wq → Calls Tryz.prog 80 #[.pointer (some ⟨p, 0, none⟩)] wq fun e w' => e = .returned (.int .i64 (m : Int)) ∧ w' = wq from fun wq hq => by
    have := lsize_any (p := p) (HD.out.stay (hm1'.trans hq)) ((hm1'.trans hq).cell HC.out (fun f => f))
    rw [HSM.out] at this
    exact this)
  obtain ⟨Z, hZ⟩ : ∃ Z : ByteArray, Z = ⟨((x.take m).take 8).toArray⟩ := ⟨_, rfl⟩
  have hcv : ∀ wq, Mod No w1 wq → (convert 45 9 (.slice (some ⟨g, 0, none⟩) 8 cap)).run Tryz.prog wq = .ok (.string Z) wq := fun wq hq => by
    rw [hZ]
    have h1 := hB.takeN (m := 8) (by rw [bv_length, hbl]) (by omega)
    rw [← bv_take] at h1
    have h2 : ((x.take m).take 8).length = 8 := by rw [List.length_take, hbl]; omega
    have h3 := string_of (P := Tryz.prog) (src := 45) (dst := 9) (e := 5) (l := (x.take m).take 8) (v := .slice (some ⟨g, 0, none⟩) 8 cap) (w := wq) (X := fun k => k < w.heap.size) (e' := 5) (by rw [h2]; exact h1.keep hq (fun _ _ _ f => f.elim)) Tryz.underlying45 Tryz.underlying5 Tryz.underlying9
    exact h3
  have HZ := Lib.hid hZ
  have HCV := Lib.hid hcv
  have hc16 : ((m : Int) + 16) ≤ (cap : Int) := by omega
  have hm0 : (112 : Int) ≤ (m : Int) := by omega
  have k8 : (8 : Int) ≤ (cap : Int) := by omega
  have k16 : (16 : Int) ≤ (cap : Int) := by omega
  have k24 : (24 : Int) ≤ (cap : Int) := by omega
  have k32 : (32 : Int) ≤ (cap : Int) := by omega
  have n8 : ¬ cap = 8 := by omega
  have n16 : ¬ cap = 16 := by omega
  have n24 : ¬ cap = 24 := by omega
  clear hcv hm1' ho1 hsl hB hE field tailf hZ e16 hbl hel
  generalize getN (((x.take m).drop 8).take 8) = T at *
  generalize getN (((x.take m).drop 16).take 8) = NX at *
  generalize getN (((x.take m).drop 24).take 8) = N at *
  generalize getN ((x.drop m).take 8) = T2 at *
  generalize getN ((x.drop m).drop 8) = N2 at *
  go_upto_region 2 with fail
  go_quiet (first | (go_at_call 80; refine Calls.quiet_of_same (HSZ.out _ ((Mod.refl No w1).drewN _))))
  generalize hw2 : World.drewN w1 _ = w2
  have HM2 := Lib.hid (show Mod No w1 w2 by rw [← hw2]; exact (Mod.refl No w1).drewN _)
  clear hw2
  go_upto_region 3 with fail
  go_quiet (first | (go_at_call 81; with_reducible refine Calls.quiet_of_same (G8.out _ (HM2.out.drewN _))) | (go_at_call 81; with_reducible refine Calls.quiet_of_same (G24.out _ (HM2.out.drewN _))))
  generalize hwq : World.drewN w2 _ = wq
  have hMq : Mod No w1 wq := by rw [← hwq]; exact HM2.out.drewN _
  have HMQ := Lib.hid hMq
  have hcv := HCV.out wq hMq
  clear hwq hMq
  go_upto_region 4 with fail
  have hZL : Z.toList = (x.take m).take 8 := by rw [HZ.out, ByteArray.toList_eq]
  by_cases hsg : (x.take m).take 8 = sign
  · have hZ2 : Z.toList = [72, 65, 86, 69, 82, 83, 65, 75] := by rw [hZL, hsg]; rfl
    clear hZL HZ HCV
    by_cases hnx2 : NX = next
    · have HSG := Lib.hid hsg
      subst hnx2
      go_wp2_with fail
      with_reducible refine (G16.out _ HMQ.out).mono ?_
      rintro e w3 ⟨rfl, h2⟩
      subst h2
      go_wp2_with fail
      refine (must_yes 0 _).mono ?_
      rintro e w3 ⟨rfl, h2⟩
      subst h2
      by_cases ht : T2 = T
      · subst ht
        have hnx' : (NX : Int) + 1 ≤ 18446744073709551615 := by omega
        by_cases hn2 : N2 = NX + 1
        · subst hn2
          go_wp2_with fail
          with_reducible refine (E0.out _ HMQ.out).mono ?_
          rintro e w3 ⟨rfl, h2⟩
          subst h2
          go_wp2_with fail
          with_reducible refine (E8.out _ HMQ.out).mono ?_
          rintro e w3 ⟨rfl, h2⟩
          subst h2
          go_wp2_with fail
          refine (must_yes 0 _).mono ?_
          rintro e w3 ⟨rfl, h2⟩
          subst h2
          obtain ⟨P, hP⟩ : ∃ P, P = (d.n / 2 - at_) * m := ⟨_, rfl⟩
          have hP1 : m ≤ P := by rw [hP]; exact Nat.le_mul_of_pos_left m (by omega)
          have hP2 : P ≤ 2048 * 4080 := by rw [hP]; exact Nat.mul_le_mul (by omega) hm2
          have HMO := most_any (p := p) (w := w3) at_ (by omega) (HD.out.stay (M1.out.trans HMQ.out)) ((M1.out.trans HMQ.out).cell HC.out (fun f => f))
          rw [HSM.out, ← hP] at HMO
          have HMO := Lib.hid HMO
          have HPP := Lib.hid hP
          clear hP
          go_wp2_with fail
          refine HMO.out.mono ?_
          clear HMO
          rintro e w4 ⟨rfl, h2⟩
          subst h2
          by_cases hN : N + 32 ≤ P
          · have hN1 : decide ((N : Int) ≤ (P : Int) - 32) = true := decide_eq_true (by omega)
            go_wp2_with fail
            refine (must_yes 0 _).mono ?_
            rintro e w5 ⟨rfl, h2⟩
            subst h2
            obtain ⟨K, hK⟩ : ∃ K, K = secs m (32 + N) := ⟨_, rfl⟩
            have hK1 : 1 ≤ K := by rw [hK]; exact secs_pos (by omega)
            have hK2 : at_ + K ≤ d.n / 2 := by
              have : K ≤ d.n / 2 - at_ := by rw [hK]; exact secs_le (by omega) (by rw [← HPP.out]; omega)
              omega
            have hK3 : 32 + N ≤ K * m := by rw [hK]; exact secs_up (by omega)
            have hK4 : K * m ≤ 2048 * 4080 := Nat.mul_le_mul (by omega) hm2
            have MQ := Lib.hid (M1.out.trans HMQ.out)
            have HLS := lsecs_any (p := p) (w := w5) (32 + N) (by omega) (HD.out.stay MQ.out) (MQ.out.cell HC.out (fun f => f))
            rw [HSM.out, ← hK, show (((32 + N : Nat)) : Int) = 32 + (N : Int) by omega] at HLS
            have HLS := Lib.hid HLS
            have HKK := Lib.hid hK
            have HBQ := Lib.hid (HB.out.keep HMQ.out (fun _ _ _ f => f.elim))
            clear hK
            have hN0 : (N : Int) ≤ 8355840 := by omega
            go_wp2_with fail
            refine HLS.out.mono ?_
            clear HLS
            rintro e w6 ⟨rfl, hm6⟩
            have M6 := Lib.hid (MQ.out.trans hm6)
            have hbl : (x.take m).length = m := by rw [List.length_take, HXL.out]; omega
            have HCL := clone_bytes (fun k => k < w.heap.size) (.slice (some ⟨g, 0, none⟩) m cap) (bv (x.take m)) w6 (by rw [bv_length, hbl]; exact HBQ.out.keep hm6 (fun _ _ _ f => f.elim)) (bv_one _) (by rw [bv_length, hbl]; omega)
            have HCL := Lib.hid HCL
            clear hm6 hbl HBQ HB HSL HSZ E0 E8 G16 G8 G24 hcv
            go_wp2_with fail
            refine HCL.out.mono ?_
            clear HCL
            rintro e w7 ⟨v8, rfl, hown8, _, hm7⟩
            have hx1 : rdAll d.last (side * (d.n / 2) + at_) m 1 = x.take m := by rw [rdAll_succ, HX.out]; simp [rdAll]
            have HO8 := Lib.hid (show w7.ownsRow w6.heap.size 5 1 v8 (rdAll d.last (side * (d.n / 2) + at_) (d.sz - 16) 1).length (bv (rdAll d.last (side * (d.n / 2) + at_) (d.sz - 16) 1)) by
              rw [HSM.out, hx1]; rw [bv_length] at hown8; exact hown8)
            have HD7 := Lib.hid (((HD.out.stay M6.out).avoid.stay hm7).shrink (Y := fun k => w6.heap.size ≤ k) fun q _ e => .inr e)
            have HC7 := Lib.hid ((M6.out.trans hm7).cell HC.out (fun f => f))
            have HS7 := Lib.hid hm7.size
            have M7 := Lib.hid (M6.out.trans hm7)
            have hws := M6.out.size
            clear hown8 hm7 hx1 HC HD
            go_upto_block 0 with fail
            refine wp_only (secs_any (p := p) side at_ (at_ + K) v8 _ _ _ _ _ w6.heap.size hs (by omega) hK2 HWELL.out HD7.out (fun k e => by have := H3.out.1 k e; omega) (by have := H3.out.2; omega) HC7.out HS7.out HO8.out ⟨rfl, rfl, rfl, rfl, rfl, rfl, rfl, rfl, rfl, by go_num, rfl, trivial⟩) ?_
            clear HO8 HD7 HC7
            rintro a' w8 ⟨⟨v9, hown9, hF9⟩, hm8⟩
            rw [HSM.out, show at_ + K - at_ = K by omega] at hown9
            have hal : (rdAll d.last (side * (d.n / 2) + at_) m K).length = K * m := rdAll_len K fun i hi => by
              rw [Nat.add_assoc, HLEN.out _ (by omega)]; omega
            obtain ⟨A, hA⟩ : ∃ A, A = rdAll d.last (side * (d.n / 2) + at_) m K := ⟨_, rfl⟩
            rw [← hA] at hown9 hal
            have HA := Lib.hid hA
            have M8 := Lib.hid (M7.out.then hm8 fun i hi e => by omega)
            rw [hal] at hown9
            have hKm : 112 ≤ K * m := Nat.le_trans hm1 (Nat.le_mul_of_pos_left m hK1)
            obtain ⟨g9, cap9, rfl, _⟩ := own_shape hown9 (by omega)
            have hsl9 := Sl.of_own (X := No) hown9 (fun _ _ f => f)
            obtain ⟨_, _, _, hsh9, hcap91, hcap92, _⟩ := hsl9.shape (by omega)
            cases hsh9
            have hLl : ((A.drop 32).take N).length = N := by rw [List.length_take, List.length_drop, hal]; omega
            have hrest := hsl9.part (by rw [bv_length, hal]) 32 N (cap9 - 32) (by omega) (by omega) (by omega)
            rw [← bv_drop, ← bv_take, Nat.zero_add] at hrest
            have HRE := Lib.hid (show Sl w8 No 5 (.slice (some ⟨g9, 32, none⟩) N (cap9 - 32)) ((A.drop 32).take N).length (bv ((A.drop 32).take N)) by rw [hLl]; exact hrest)
            have HLL := Lib.hid hLl
            have HAL := Lib.hid hal
            have hw8 := M8.out.size
            have c32 : (32 : Int) ≤ (cap9 : Int) := by omega
            have c33 : (32 : Int) + (N : Int) ≤ (cap9 : Int) := by omega
            have c34 : ¬ cap9 = 32 := by omega
            clear hown9 hsl9 hrest hA hal hLl hm8
            generalize K * m = KM at *
            obtain ⟨ts, ds⟩ := a'
            obtain ⟨hsz, hds, hs0, hs1, hs2, hs3, hs12, hs14, hs15, hs16, -⟩ := hF9
            dsimp only at hsz hds hs0 hs1 hs2 hs3 hs12 hs14 hs15 hs16
            subst hds
            obtain ⟨c, rfl, hc⟩ := lit135 ts hsz
            rw [hc] at hs0
            rw [hc] at hs1
            rw [hc] at hs2
            rw [hc] at hs3
            rw [hc] at hs12
            rw [hc] at hs14
            rw [hc] at hs15
            rw [hc] at hs16
            simp only [hs0, hs1, hs2, hs3, hs12, hs14, hs15, hs16]
            clear hc hsz hs0 hs1 hs2 hs3 hs12 hs14 hs15 hs16

            go_upto_block 2 with fail
            refine wp_thenQ (recs_any w8 w.heap.size _ _ _ ((A.drop 32).take N) _ hw8 (by rw [HLL.out]; omega) HRE.out ⟨rfl, rfl, rfl, rfl, rfl, by rw [show 32 + N - 32 = N by omega]; rfl, trivial⟩) ?_ ?_
            · rintro a2 w9 ⟨⟨rs, v10, hpar, hrecs, hF10⟩, hm9⟩
              obtain ⟨ts, ds⟩ := a2
              obtain ⟨hsz, hds, hs14, hs16, hs18, -⟩ := hF10
              dsimp only at hsz hds hs14 hs16 hs18
              subst hds
              obtain ⟨c, rfl, hc⟩ := lit135 ts hsz
              rw [hc] at hs14
              rw [hc] at hs16
              rw [hc] at hs18
              simp only [hs14, hs16, hs18]
              clear hc hsz hs14 hs16 hs18

              have HR9 := Lib.hid hrecs
              have HPA := Lib.hid hpar
              have M9 := Lib.hid (M8.out.then hm9 fun i hi e => by omega)
              clear hrecs hpar hm9
              go_wp2_with fail
              go_ret3
              refine fin hR ⟨?_, M9.out⟩
              have hp := HPA.out
              rw [HLL.out, HA.out, HKK.out] at hp
              rw [HSM.out, HRD.out.2 ⟨HSG.out, by trivial, by trivial, by rw [Nat.mod_eq_of_lt hnx], by rw [← HPP.out]; exact hN⟩, hp, ← HKK.out]
              exact ⟨v10, rfl, HR9.out⟩
            · rintro e a2 w9 hq
              cases e with
              | panic ch =>
                obtain ⟨rfl, hd, hpn, hm9⟩ := hq
                refine ⟨hd, fin hR ⟨?_, M8.out.then hm9 fun i hi e => by omega⟩⟩
                rw [HLL.out, HA.out, HKK.out] at hpn
                rw [HSM.out, HRD.out.2 ⟨HSG.out, by trivial, by trivial, by rw [Nat.mod_eq_of_lt hnx], by rw [← HPP.out]; exact hN⟩, hpn]
                rfl
              | normal => exact hq.elim
              | exit id => exact hq.elim
              | goto l => exact hq.elim
              | ret => exact hq.elim
              | outgrown => exact hq.elim
          · have hN1 : decide ((N : Int) ≤ (P : Int) - 32) = false := decide_eq_false (by omega)
            go_wp2_with fail
            refine (must_no _).mono ?_
            rintro e w5 ⟨rfl, h2⟩
            subst h2
            go_wp2_with fail
            refine ⟨rfl, fin hR ⟨?_, M1.out.trans HMQ.out⟩⟩
            rw [HSM.out, HRD.out.1 (fun h => hN (by rw [HPP.out]; exact h.2.2.2.2))]
        · have hn3 : ((N2 : Int) == (NX : Int) + 1) = false := by simp; omega
          go_wp2_with fail
          with_reducible refine (E0.out _ HMQ.out).mono ?_
          rintro e w3 ⟨rfl, h2⟩
          subst h2
          go_wp2_with fail
          with_reducible refine (E8.out _ HMQ.out).mono ?_
          rintro e w3 ⟨rfl, h2⟩
          subst h2
          go_wp2_with fail
          refine (must_no _).mono ?_
          rintro e w3 ⟨rfl, h2⟩
          subst h2
          go_wp2_with fail
          refine ⟨rfl, fin hR ⟨?_, M1.out.trans HMQ.out⟩⟩
          rw [HSM.out, HRD.out.1 (fun h => hn2 (by rw [h.2.2.2.1, Nat.mod_eq_of_lt hnx]))]
      · have ht2 : ((T2 : Int) == (T : Int)) = false := by simp; omega
        go_wp2_with fail
        with_reducible refine (E0.out _ HMQ.out).mono ?_
        rintro e w3 ⟨rfl, h2⟩
        subst h2
        go_wp2_with fail
        refine (must_no _).mono ?_
        rintro e w3 ⟨rfl, h2⟩
        subst h2
        go_wp2_with fail
        refine ⟨rfl, fin hR ⟨?_, M1.out.trans HMQ.out⟩⟩
        rw [HSM.out, HRD.out.1 (fun h => ht h.2.2.1)]
    · have hnx3 : ((NX : Int) == (next : Int)) = false := by simp; omega
      go_wp2_with fail
      with_reducible refine (G16.out _ HMQ.out).mono ?_
      rintro e w3 ⟨rfl, h2⟩
      subst h2
      go_wp2_with fail
      refine (must_no _).mono ?_
      rintro e w3 ⟨rfl, h2⟩
      subst h2
      go_wp2_with fail
      refine ⟨rfl, fin hR ⟨?_, M1.out.trans HMQ.out⟩⟩
      rw [HSM.out, HRD.out.1 (fun h => hnx2 h.2.1)]
  · have hZ2 : ¬ Z.toList = [72, 65, 86, 69, 82, 83, 65, 75] := by rw [hZL]; exact hsg
    have hZ3 : (Z.toList == [72, 65, 86, 69, 82, 83, 65, 75]) = false := by simpa using hZ2
    clear hZL HZ HCV
    go_wp2_with fail
    refine (must_no _).mono ?_
    rintro e w3 ⟨rfl, h2⟩
    subst h2
    go_wp2_with fail
    refine ⟨rfl, fin hR ⟨?_, M1.out.trans HMQ.out⟩⟩
    rw [HSM.out, HRD.out.1 (fun h => hsg h.1)]

end Go.Proofs.YtkeopmfmlciadaaGreat
namespace Go.Proofs.YtkeopmfmlciadaaGreat
open Go.RowKit

set_option maxRecDepth 100000 in
theorem open_no {b sb mb p : Nat} {d : Dk} {w : World} (side at_ next : Nat) (ha : d.n / 2 ≤ at_) (h : DkAt w No b sb mb d) (c0 : w.cell? ⟨p, 0, none⟩ = some (.pointer (some ⟨b, 0, none⟩))) :
    Calls Tryz.prog 58 #[.pointer (some ⟨p, 0, none⟩), .int .i64 (side : Int), .int .i64 (at_ : Int), .int .u64 (next : Int)] w fun e w' => e = Stopped ∧ w' = w := by
  refine calls_hide fun R hR => ?_
  have HS := Lib.hid (sector_no (p := p) side at_ ha h c0)
  clear h c0
  go_enter Tryz.func58, Tryz.ntmps58
  go_wp2_with fail
  refine HS.out.mono ?_
  rintro e w1 ⟨rfl, h2⟩
  subst h2
  go_wp2_with fail
  exact ⟨rfl, fin hR ⟨rfl, rfl⟩⟩

theorem rd_no {S : Nat → List UInt8} {h size side at_ next : Nat} (ha : h ≤ at_) : rd S h size side at_ next = none := by
  unfold rd; rw [if_neg (by omega)]

/-- open, whatever there is. -/
theorem open_any {b sb mb p : Nat} {d : Dk} {w : World} (side at_ next : Nat) (hs : side < 2) (hnx : next + 1 < 18446744073709551616) (hz : 128 ≤ d.sz) (hw : Well d) (h : DkAt w No b sb mb d) (c0 : w.cell? ⟨p, 0, none⟩ = some (.pointer (some ⟨b, 0, none⟩))) :
    Calls Tryz.prog 58 #[.pointer (some ⟨p, 0, none⟩), .int .i64 (side : Int), .int .i64 (at_ : Int), .int .u64 (next : Int)] w fun e w' =>
      (match rd d.last (d.n / 2) (d.sz - 16) side at_ next with
        | some (t, rs, beh) => ∃ v, e = .returned (.tuple #[.int .u64 (t : Int), v, .int .i64 (beh : Int)]) ∧ OwnRecs w' w.heap.size v rs
        | none => e = Stopped) ∧ Mod No w w' := by
  rcases Nat.lt_or_ge at_ (d.n / 2) with ha | ha
  · exact open_ok side at_ next hs ha hnx hz hw h c0
  · refine (open_no side at_ next ha h c0).mono ?_
    rintro e w' ⟨rfl, rfl⟩
    rw [rd_no ha]
    exact ⟨rfl, Mod.refl _ _⟩

set_option maxRecDepth 100000 in
set_option maxHeartbeats 1000000 in
theorem stop_idle (p q : Nat) (w : World) :
    CallsD Tryz.prog 78 #[.pointer (some ⟨p, 0, none⟩), .pointer (some ⟨q, 0, none⟩)] .returning w fun e u' w' => e = .returned (.tuple #[]) ∧ u' = .returning ∧ w' = w := by
  refine callsD_of_wpS Tryz.func78 rfl fun c₀ cs hu => ?_
  apply wpS_seq
  apply wpS_region
  simp [wpOpsS, go_sem, recoverD, hu, Tryz.ntmps78, Exit.thenS]
  refine wpS_of_wp ?_
  refine wp_mono (Q := Exit.then (fun a' w' => a'.defers = [] ∧ w' = w) Nope) ?_ ?_
  · refine wp_part fun J K' hJ hK => ?_
    go_wp2_with fail
    exact Met.intro (hJ _ _ ⟨rfl, rfl⟩)
  · rintro e a' w' hq
    cases e with
    | normal =>
      obtain ⟨hd, rfl⟩ := hq
      cases c₀
      simp_all [bodyPostS, results, Tryz.results78]
    | exit id => exact hq.elim
    | goto l => exact hq.elim
    | ret => exact hq.elim
    | panic ch => exact hq.elim
    | outgrown => exact hq.elim

theorem assert_stop (w : World) (v : Value) : (Instr.typeAssert (.iface 138 v) 20 138 true).run Tryz.prog w = .ok (.tuple #[v, .bool true]) w := by kernel_rfl

set_option maxRecDepth 100000 in
set_option maxHeartbeats 1000000 in
theorem stop_caught (p q : Nat) (x : Bool) (y : Int) (w : World) (hp : w.heap[p]? = some (.cells #[.bool x] 4 (0, 0))) (hq : w.heap[q]? = some (.cells #[.int .i64 y] 25 (0, 0))) :
    CallsD Tryz.prog 78 #[.pointer (some ⟨p, 0, none⟩), .pointer (some ⟨q, 0, none⟩)] (.panicking [{ v := stopV, recovered := false }]) w fun e u' w' =>
      e = .returned (.tuple #[]) ∧ u' = .panicking [{ v := stopV, recovered := true }] ∧ w'.heap[p]? = some (.cells #[.bool false] 4 (0, 0)) ∧ w'.heap[q]? = some (.cells #[.int .i64 0] 25 (0, 0)) ∧ Mod (fun k => k = p ∨ k = q) w w' := by
  refine callsD_of_wpS Tryz.func78 rfl fun c₀ cs hu => ?_
  apply wpS_seq
  apply wpS_region
  simp [wpOpsS, go_sem, recoverD, hu, Tryz.ntmps78, Exit.thenS]
  refine wpS_of_wp ?_
  have p0 := cell_of (i := 0) hp rfl
  have q0 := cell_of (i := 0) hq rfl
  refine wp_mono (Q := Exit.then (fun a' w' => a'.defers = [] ∧ w'.heap[p]? = some (.cells #[.bool false] 4 (0, 0)) ∧ w'.heap[q]? = some (.cells #[.int .i64 0] 25 (0, 0)) ∧ Mod (fun k => k = p ∨ k = q) w w') Nope) ?_ ?_
  · refine wp_part fun J K' hJ hK => ?_
    have hta := assert_stop
    simp only [Array.replicate_succ, Array.replicate_zero]
    go_upto_region 5 with fail
    have hpl := lt_of_heap hp
    have hql := lt_of_heap hq
    have hpq : p ≠ q := fun e => by subst e; rw [hp] at hq; cases hq
    obtain ⟨wd, hwd⟩ : ∃ wd, wd = (w.alloc (.cells #[.int .i64 0] 138)).drew := ⟨_, rfl⟩
    have hmd : Mod No w wd := by rw [hwd]; exact ((Mod.refl No w).alloc _).drew
    have hs0 : wd.heap[w.heap.size]? = some (.cells #[.int .i64 0] 138 (0, 0)) := by rw [hwd]; exact heap_alloc_new w _
    have hp1 := hmd.keep hp (fun f => f)
    have hq1 := hmd.keep hq (fun f => f)
    have hS0 := cell_of (i := 0) hs0 rfl
    have pc := cell_of (i := 0) hp1 rfl
    have pf := frozen_of 0 hp1
    have m2 : Mod (fun k => k = p) wd (wd.setCell ⟨p, 0, none⟩ (.bool false)) := (Mod.refl (fun k => k = p) wd).setCell (fun _ => rfl) _
    have hS2 := cell_of (i := 0) (m2.keep hs0 (by omega)) rfl
    have hq2 := m2.keep hq1 (Ne.symm hpq)
    have qc := cell_of (i := 0) hq2 rfl
    have qf := frozen_of 0 hq2
    have hp2 := heap_setCell hp1 (i := 0) (.bool false)
    have m3 : Mod (fun k => k = q) (wd.setCell ⟨p, 0, none⟩ (.bool false)) ((wd.setCell ⟨p, 0, none⟩ (.bool false)).setCell ⟨q, 0, none⟩ (.int .i64 0)) := (Mod.refl (fun k => k = q) _).setCell (fun _ => rfl) _
    have R1 := Lib.hid (m3.keep hp2 hpq)
    have R2 := Lib.hid (heap_setCell hq2 (i := 0) (.int .i64 0))
    have R3 := Lib.hid (show Mod (fun k => k = p ∨ k = q) w ((wd.setCell ⟨p, 0, none⟩ (.bool false)).setCell ⟨q, 0, none⟩ (.int .i64 0)) from
      ((hmd.weaken fun _ _ f => f.elim).setCell (fun _ => .inl rfl) _).setCell (fun _ => .inr rfl) _)
    have HS2 := Lib.hid hS2
    have HWD := Lib.hid hwd
    clear hwd hp hq hs0 hmd hp1 hq1 m2 hS2 hq2 hp2 m3 hpq hpl hql p0 q0
    refine wp_region_T (fun w' => w'.cell? ⟨w.heap.size, 0, none⟩ = some (.int .i64 0)) 3 (by kernel_rfl) ?_
    rw [← HWD.out]
    refine wpAnyT_take 0 (some 16) ?_ rfl rfl (by kernel_rfl) (fun _ _ _ h => h) hS0 (Or.inl ⟨by rfl, ?_⟩) ?_
    rotate_left
    · (intro w' hSw; (try dsimp only at hSw); go_simp; try with_reducible rfl)
    simp only [Act.put, List.setIfInBounds_toArray, List.set_cons_zero, List.set_cons_succ]
    refine wpAnyT_take 1 (some 17) ?_ rfl rfl (by kernel_rfl) (fun _ _ _ h => h) hS0 (Or.inl ⟨by rfl, ?_⟩) ?_
    rotate_left
    · (intro w' hSw; (try dsimp only at hSw); go_simp; try with_reducible rfl)
    simp only [Act.put, List.setIfInBounds_toArray, List.set_cons_zero, List.set_cons_succ]
    refine wpAnyT_one 2 rfl (by kernel_rfl) rfl ?_
    intro K hK
    go_simp
    show K _ _
    refine hK.out _ _ (fun _ => HS2.out) ?_
    clear hK K
    refine wpAnyT_one 3 rfl (by kernel_rfl) rfl ?_
    intro K hK
    go_simp
    show K _ _
    refine hK.out _ _ (fun h => absurd rfl h) ?_
    clear hK K
    refine wpAnyT_done (by kernel_rfl) ?_ _
    go_wp2_with fail
    exact Met.intro (hJ _ _ ⟨rfl, R1.out, R2.out, R3.out⟩)
  · rintro e a' w' hq
    cases e with
    | normal =>
      obtain ⟨hd, h1, h2, h3⟩ := hq
      cases c₀
      simp_all [bodyPostS, results, Tryz.results78]
    | exit id => exact hq.elim
    | goto l => exact hq.elim
    | ret => exact hq.elim
    | panic ch => exact hq.elim
    | outgrown => exact hq.elim

end Go.Proofs.YtkeopmfmlciadaaGreat
