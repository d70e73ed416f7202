/-
  Layer 4, the log: what its bytes mean, in plain Lean. No statement is proved here; no condition.
-/
import Derived.Test.YtnchclleiccofaaMem
namespace Go.Proofs.Ytnchclleiccofaa

/-- A number out of bytes, the greatest first. -/
def getN (l : List UInt8) : Nat := l.foldl (fun n x => (n * 256 + x.toNat) % 18446744073709551616) 0

/-- A number as m bytes, the greatest first. -/
def be (m n : Nat) : List UInt8 := (List.range m).map fun i => UInt8.ofNat (n / 2 ^ (8 * (m - 1 - i)))

theorem be_len (m n : Nat) : (be m n).length = m := by simp [be]

theorem be_part (m n : Nat) (hm : m ≤ 8) (hn : n < 2 ^ (8 * m)) : ∀ k, k ≤ m → ((List.range k).map fun i => UInt8.ofNat (n / 2 ^ (8 * (m - 1 - i)))).foldl (fun n x => (n * 256 + x.toNat) % 18446744073709551616) 0 = n / 2 ^ (8 * (m - k)) := by
  intro k
  induction k with
  | zero =>
    intro _
    rw [Nat.sub_zero, Nat.div_eq_of_lt hn]; rfl
  | succ k ih =>
    intro hk
    rw [List.range_succ, List.map_append, List.foldl_append, ih (by omega)]
    simp only [List.map_cons, List.map_nil, List.foldl_cons, List.foldl_nil]
    have e : m - k = (m - 1 - k) + 1 := by omega
    have e2 : m - (k + 1) = m - 1 - k := by omega
    rw [e2, e]
    generalize hD : 2 ^ (8 * (m - 1 - k)) = D
    have hD2 : 2 ^ (8 * (m - 1 - k + 1)) = D * 256 := by rw [← hD, show 8 * (m - 1 - k + 1) = 8 * (m - 1 - k) + 8 by omega, Nat.pow_add]
    rw [hD2, ← Nat.div_div_eq_div_mul]
    have h1 : (UInt8.ofNat (n / D)).toNat = n / D % 256 := by simp
    rw [h1]
    have h2 : n / D / 256 * 256 + n / D % 256 = n / D := by omega
    rw [h2]
    have h3 : n / D ≤ n := Nat.div_le_self _ _
    have h4 : (2 : Nat) ^ (8 * m) ≤ 2 ^ 64 := Nat.pow_le_pow_right (by omega) (by omega)
    exact Nat.mod_eq_of_lt (by omega)

theorem getN_be (m n : Nat) (hm : m ≤ 8) (hn : n < 2 ^ (8 * m)) : getN (be m n) = n := by
  have := be_part m n hm hn m (Nat.le_refl _)
  rw [Nat.sub_self] at this
  simpa [getN, be] using this

theorem getN_zeros (m : Nat) : getN (List.replicate m 0) = 0 := by
  unfold getN
  induction m with
  | zero => rfl
  | succ m ih => rw [List.replicate_succ, List.foldl_cons]; exact ih

def sign : List UInt8 := [72, 65, 86, 69, 82, 83, 65, 75]
/-- A record in a frame. -/
def recB (r : List UInt8) : List UInt8 := be 4 r.length ++ r
def bodyB (rs : List (List UInt8)) : List UInt8 := rs.flatMap recB
def frameB (turn next : Nat) (rs : List (List UInt8)) : List UInt8 := sign ++ (be 8 turn ++ (be 8 next ++ (be 8 (bodyB rs).length ++ bodyB rs)))

theorem frameB_len (turn next : Nat) (rs : List (List UInt8)) : (frameB turn next rs).length = 32 + (bodyB rs).length := by
  simp [frameB, be_len, sign]; omega

/-- How many sectors so many bytes take. -/
def secs (size n : Nat) : Nat := n / size + min (n % size) 1

theorem secs_up {size n : Nat} (hs : 0 < size) : n ≤ secs size n * size := by
  unfold secs
  have h := Nat.div_add_mod n size
  have h2 := Nat.mod_lt n hs
  rcases Nat.eq_zero_or_pos (n % size) with e | e
  · rw [e] at h ⊢; simp; rw [Nat.mul_comm]; omega
  · rw [show min (n % size) 1 = 1 by omega, Nat.add_mul, Nat.mul_comm]; omega

theorem secs_pos {size n : Nat} (hn : 0 < n) : 0 < secs size n := by
  unfold secs
  rcases Nat.eq_zero_or_pos (n % size) with e | e
  · have h := Nat.div_add_mod n size
    rw [e] at h
    have : 0 < n / size := by
      rcases Nat.eq_zero_or_pos (n / size) with e2 | e2
      · rw [e2] at h; simp at h; omega
      · exact e2
    exact Nat.lt_of_lt_of_le this (Nat.le_add_right _ _)
  · rw [show min (n % size) 1 = 1 by omega]
    exact Nat.succ_pos _

theorem secs_le {size n k : Nat} (hs : 0 < size) (h : n ≤ k * size) : secs size n ≤ k := by
  unfold secs
  have h1 := Nat.div_add_mod n size
  have h2 := Nat.mod_lt n hs
  rcases Nat.eq_zero_or_pos (n % size) with e | e
  · rw [e]
    have : n / size ≤ k := Nat.div_le_of_le_mul (by rw [Nat.mul_comm]; exact h)
    omega
  · have : n / size < k := Nat.div_lt_of_lt_mul (by
      rcases Nat.lt_or_ge n (k * size) with g | g
      · rw [Nat.mul_comm]; exact g
      · have : n = k * size := by omega
        rw [this, Nat.mul_mod_left] at e; omega)
    omega

/-- The records of a frame's bytes. -/
def parse : Nat → List UInt8 → Option (List (List UInt8))
  | _, [] => some []
  | 0, _ => none
  | f + 1, x :: l => if (x :: l).length < 4 then none else if getN ((x :: l).take 4) ≤ (x :: l).length - 4 then
      (parse f ((x :: l).drop (4 + getN ((x :: l).take 4)))).map ((((x :: l).drop 4).take (getN ((x :: l).take 4))) :: ·) else none

theorem parse_body : ∀ (rs : List (List UInt8)), (∀ r ∈ rs, r.length < 4294967296) → ∀ f, (bodyB rs).length ≤ f → parse f (bodyB rs) = some rs
  | [], _, f, _ => by cases f <;> rfl
  | r :: rs, h, f, hf => by
    have hb : bodyB (r :: rs) = be 4 r.length ++ (r ++ bodyB rs) := by simp [bodyB, recB]
    have hg : getN (be 4 r.length) = r.length := getN_be 4 _ (by omega) (by have := h r (by simp); omega)
    have hl : (be 4 r.length).length = 4 := be_len _ _
    rw [hb] at hf ⊢
    have hlen : (be 4 r.length ++ (r ++ bodyB rs)).length = 4 + (r.length + (bodyB rs).length) := by simp [hl]
    generalize hL : be 4 r.length ++ (r ++ bodyB rs) = L at *
    match L, f, hL, hlen with
    | [], _, _, hlen => simp at hlen; omega
    | x :: l, 0, _, hlen => rw [hlen] at hf; omega
    | x :: l, f + 1, hL, hlen =>
      have t4 : (x :: l).take 4 = be 4 r.length := by rw [← hL, List.take_append_of_le_length (by omega), List.take_of_length_le (by omega)]
      have d4 : (x :: l).drop 4 = r ++ bodyB rs := by rw [← hL, List.drop_append_of_le_length (by omega), List.drop_of_length_le (by omega), List.nil_append]
      have hd : (x :: l).drop (4 + r.length) = bodyB rs := by rw [← List.drop_drop, d4, List.drop_append_of_le_length (by omega), List.drop_of_length_le (by omega), List.nil_append]
      unfold parse
      rw [t4, hg, hd, if_neg (by omega), if_pos (by omega), parse_body rs (fun r' hr => h r' (by simp [hr])) f (by omega), d4, List.take_append_of_le_length (by omega), List.take_of_length_le (by omega)]
      rfl

/-- The bytes of k sectors from base on, without their ends. -/
def rdAll (S : Nat → List UInt8) (base size k : Nat) : List UInt8 := (List.range k).flatMap fun i => (S (base + i)).take size

/-- A frame of a side, at a sector: its turn, its records, the sector behind it; or it is none. -/
def rd (S : Nat → List UInt8) (h size side at_ next : Nat) : Option (Nat × List (List UInt8) × Nat) :=
  if at_ < h then
    if ((S (side * h + at_)).take size).take 8 = sign ∧ getN ((((S (side * h + at_)).take size).drop 16).take 8) = next ∧
        getN (((S (side * h + at_)).drop size).take 8) = getN ((((S (side * h + at_)).take size).drop 8).take 8) ∧ getN (((S (side * h + at_)).drop size).drop 8) = (next + 1) % 18446744073709551616 ∧
        getN ((((S (side * h + at_)).take size).drop 24).take 8) + 32 ≤ (h - at_) * size then
      (parse (getN ((((S (side * h + at_)).take size).drop 24).take 8)) (((rdAll S (side * h + at_) size (secs size (32 + getN ((((S (side * h + at_)).take size).drop 24).take 8)))).drop 32).take (getN ((((S (side * h + at_)).take size).drop 24).take 8)))).map
        fun rs => (getN ((((S (side * h + at_)).take size).drop 8).take 8), rs, at_ + secs size (32 + getN ((((S (side * h + at_)).take size).drop 24).take 8)))
    else none
  else none

/-- A sector of a frame, as it is written. -/
def laidAt (size turn next : Nat) (b : List UInt8) (i : Nat) : List UInt8 :=
  ((b.drop (i * size)).take size ++ List.replicate (size - ((b.drop (i * size)).take size).length) 0) ++ if i = 0 then be 8 turn ++ be 8 (next + 1) else List.replicate 16 0

theorem laidAt_take (size turn next : Nat) (b : List UInt8) (i : Nat) : (laidAt size turn next b i).take size = (b.drop (i * size)).take size ++ List.replicate (size - ((b.drop (i * size)).take size).length) 0 := by
  unfold laidAt
  have hl : ((b.drop (i * size)).take size ++ List.replicate (size - ((b.drop (i * size)).take size).length) (0 : UInt8)).length = size := by
    have := List.length_take_le size (b.drop (i * size))
    simp only [List.length_append, List.length_replicate]; omega
  rw [List.take_append_of_le_length (by omega), List.take_of_length_le (by omega)]

theorem laidAt_drop (size turn next : Nat) (b : List UInt8) (i : Nat) : (laidAt size turn next b i).drop size = if i = 0 then be 8 turn ++ be 8 (next + 1) else List.replicate 16 0 := by
  unfold laidAt
  have hl : ((b.drop (i * size)).take size ++ List.replicate (size - ((b.drop (i * size)).take size).length) (0 : UInt8)).length = size := by
    have := List.length_take_le size (b.drop (i * size))
    simp only [List.length_append, List.length_replicate]; omega
  rw [List.drop_append_of_le_length (by omega), List.drop_of_length_le (by omega), List.nil_append]

theorem laidAt_len (size turn next : Nat) (b : List UInt8) (i : Nat) : (laidAt size turn next b i).length = size + 16 := by
  have h1 := List.length_take_le size (b.drop (i * size))
  unfold laidAt
  simp only [List.length_append, List.length_replicate]
  split
  · simp only [List.length_append, be_len]; omega
  · simp only [List.length_replicate]; omega

theorem rdAll_laid {S : Nat → List UInt8} {base size turn next : Nat} {b : List UInt8} : ∀ k, (∀ i, i < k → S (base + i) = laidAt size turn next b i) → rdAll S base size k = b.take (k * size) ++ List.replicate (k * size - b.length) 0
  | 0, _ => by simp [rdAll]
  | k + 1, h => by
    have ih := rdAll_laid k fun i hi => h i (by omega)
    unfold rdAll at ih ⊢
    rw [List.range_succ, List.flatMap_append, ih]
    simp only [List.flatMap_cons, List.flatMap_nil, List.append_nil]
    rw [h k (by omega), laidAt_take]
    have e : (k + 1) * size = k * size + size := Nat.succ_mul _ _
    rw [e]
    generalize k * size = m
    have hl : ((b.drop m).take size).length = min size (b.length - m) := by simp
    rw [hl]
    rcases Nat.le_total b.length m with g | g
    · have e1 : b.drop m = [] := List.drop_of_length_le g
      rw [e1, List.take_nil, List.nil_append, List.take_of_length_le g, List.take_of_length_le (show b.length ≤ m + size by omega), List.append_assoc, List.replicate_append_replicate]
      congr 2; omega
    · rw [show m - b.length = 0 by omega, List.replicate_zero, List.append_nil, List.take_add, List.append_assoc]
      congr 3; omega

theorem rd_laid {S : Nat → List UInt8} {h size side at_ turn next : Nat} {rs : List (List UInt8)} (hsz : 32 ≤ size) (ht : turn < 18446744073709551616) (hn : next + 1 < 18446744073709551616)
    (hr : ∀ r ∈ rs, r.length < 4294967296) (hb : (bodyB rs).length < 18446744073709551616) (hk : at_ + secs size (32 + (bodyB rs).length) ≤ h)
    (hS : ∀ i, i < secs size (32 + (bodyB rs).length) → S (side * h + at_ + i) = laidAt size turn next (frameB turn next rs) i) :
    rd S h size side at_ next = some (turn, rs, at_ + secs size (32 + (bodyB rs).length)) := by
  have hpos : 0 < secs size (32 + (bodyB rs).length) := secs_pos (by omega)
  have hup := secs_up (size := size) (n := 32 + (bodyB rs).length) (by omega)
  have h0 := hS 0 hpos
  rw [Nat.add_zero] at h0
  have hfl := frameB_len turn next rs
  have hall := rdAll_laid (base := side * h + at_) _ hS
  rw [List.take_of_length_le (by rw [hfl]; exact hup)] at hall
  have hx : (S (side * h + at_)).take size = (frameB turn next rs).take size ++ List.replicate (size - ((frameB turn next rs).take size).length) 0 := by
    rw [h0, laidAt_take]; simp
  have hd : (S (side * h + at_)).drop size = be 8 turn ++ be 8 (next + 1) := by rw [h0, laidAt_drop]; rfl
  have hfs : ((frameB turn next rs).take size).length = min size (32 + (bodyB rs).length) := by rw [List.length_take, hfl]
  have field : ∀ o, o + 8 ≤ 32 → (((S (side * h + at_)).take size).drop o).take 8 = ((frameB turn next rs).drop o).take 8 := fun o ho => by
    rw [hx, List.drop_append_of_le_length (by omega), List.take_append_of_le_length (by rw [List.length_drop]; omega), List.drop_take, List.take_take]
    congr 1; omega
  have e8 : ∀ n, (be 8 n).length = 8 := fun n => be_len 8 n
  have d8 : (frameB turn next rs).drop 8 = be 8 turn ++ (be 8 next ++ (be 8 (bodyB rs).length ++ bodyB rs)) := List.drop_left' rfl
  have d16 : (frameB turn next rs).drop 16 = be 8 next ++ (be 8 (bodyB rs).length ++ bodyB rs) := by
    rw [show 16 = 8 + 8 from rfl, ← List.drop_drop, d8]; exact List.drop_left' (e8 _)
  have d24 : (frameB turn next rs).drop 24 = be 8 (bodyB rs).length ++ bodyB rs := by
    rw [show 24 = 16 + 8 from rfl, ← List.drop_drop, d16]; exact List.drop_left' (e8 _)
  have d32 : (frameB turn next rs).drop 32 = bodyB rs := by
    rw [show 32 = 24 + 8 from rfl, ← List.drop_drop, d24]; exact List.drop_left' (e8 _)
  have f0 : ((S (side * h + at_)).take size).take 8 = sign := by
    have := field 0 (by omega)
    rw [List.drop_zero, List.drop_zero] at this
    rw [this]
    exact List.take_left' rfl
  have f8 : (((S (side * h + at_)).take size).drop 8).take 8 = be 8 turn := by
    rw [field 8 (by omega), d8]; exact List.take_left' (e8 _)
  have f16 : (((S (side * h + at_)).take size).drop 16).take 8 = be 8 next := by
    rw [field 16 (by omega), d16]; exact List.take_left' (e8 _)
  have f24 : (((S (side * h + at_)).take size).drop 24).take 8 = be 8 (bodyB rs).length := by
    rw [field 24 (by omega), d24]; exact List.take_left' (e8 _)
  have gt : getN (be 8 turn) = turn := getN_be 8 _ (by omega) (by omega)
  have gn : getN (be 8 next) = next := getN_be 8 _ (by omega) (by omega)
  have gn1 : getN (be 8 (next + 1)) = next + 1 := getN_be 8 _ (by omega) (by omega)
  have gb : getN (be 8 (bodyB rs).length) = (bodyB rs).length := getN_be 8 _ (by omega) (by omega)
  have g0 : ((S (side * h + at_)).drop size).take 8 = be 8 turn := by rw [hd, List.take_append_of_le_length (by rw [e8]; omega), List.take_of_length_le (by rw [e8]; omega)]
  have g1 : ((S (side * h + at_)).drop size).drop 8 = be 8 (next + 1) := by rw [hd, List.drop_append_of_le_length (by rw [e8]; omega), List.drop_of_length_le (by rw [e8]; omega), List.nil_append]
  have hbd : ((rdAll S (side * h + at_) size (secs size (32 + (bodyB rs).length))).drop 32).take (bodyB rs).length = bodyB rs := by
    rw [hall, List.drop_append_of_le_length (by omega), d32, List.take_append_of_le_length (by omega), List.take_of_length_le (by omega)]
  have hroom : (bodyB rs).length + 32 ≤ (h - at_) * size := by
    have : secs size (32 + (bodyB rs).length) * size ≤ (h - at_) * size := Nat.mul_le_mul_right _ (by omega)
    omega
  unfold rd
  rw [if_pos (by omega), f0, f8, f16, f24, g0, g1, gt, gn, gn1, gb, hbd, parse_body rs hr _ (Nat.le_refl _), if_pos ⟨rfl, rfl, rfl, by rw [Nat.mod_eq_of_lt hn], hroom⟩]
  rfl

end Go.Proofs.Ytnchclleiccofaa
