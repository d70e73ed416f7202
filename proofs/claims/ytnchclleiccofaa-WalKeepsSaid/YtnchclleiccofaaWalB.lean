/-
  Layer 4, the log: numbers as bytes. No statement is proved here; no condition.
-/
import Derived.Test.YtnchclleiccofaaWalA
import Derived.Laws.Bits64b
namespace Go.Proofs.Ytnchclleiccofaa
open Go.RowKit

/-- A number's bytes, k of them laid over L from o on. -/
def beIn (L : List UInt8) (o m n k : Nat) : List UInt8 := (List.range L.length).map fun i => if o ≤ i ∧ i < o + k then UInt8.ofNat (n / 2 ^ (8 * (m - 1 - (i - o)))) else L.getD i 0

theorem beIn_len (L : List UInt8) (o m n k : Nat) : (beIn L o m n k).length = L.length := by simp [beIn]
theorem beIn_zero (L : List UInt8) (o m n : Nat) : beIn L o m n 0 = L := by
  apply List.ext_getElem
  · simp [beIn]
  · intro i h1 h2
    simp only [beIn, List.getElem_map, List.getElem_range]
    rw [if_neg (by omega)]
    simp [List.getD, h2]
theorem beIn_all (L : List UInt8) (o m n : Nat) (h : o + m ≤ L.length) : beIn L o m n m = L.take o ++ (be m n ++ L.drop (o + m)) := by
  apply List.ext_getElem
  · simp only [beIn_len, List.length_append, List.length_take, be_len, List.length_drop]; omega
  · intro i h1 h2
    have hi : i < L.length := by simpa [beIn] using h1
    simp only [beIn, List.getElem_map, List.getElem_range]
    by_cases g1 : i < o
    · rw [if_neg (by omega), List.getElem_append_left (by simp; omega)]
      simp [List.getD, hi]
    · rw [List.getElem_append_right (by simp; omega)]
      by_cases g2 : i < o + m
      · rw [if_pos ⟨by omega, g2⟩, List.getElem_append_left (by simp [be_len]; omega)]
        simp only [be, List.getElem_map, List.getElem_range, List.length_take]
        rw [show min o L.length = o by omega]
      · rw [if_neg (by omega), List.getElem_append_right (by simp [be_len]; omega)]
        simp only [List.length_take, be_len, List.getElem_drop]
        simp only [List.getD, List.getElem?_eq_getElem hi, Option.getD_some]
        congr 1; omega
theorem beIn_succ (L : List UInt8) (o m n k : Nat) (_ : o + k < L.length) : (bv (beIn L o m n k)).toArray.setIfInBounds (o + k) (.int .u8 (((UInt8.ofNat (n / 2 ^ (8 * (m - 1 - k)))).toNat : Nat) : Int)) = (bv (beIn L o m n (k + 1))).toArray := by
  apply Array.ext
  · simp [bv, beIn]
  · intro i h1 h2
    have hi : i < L.length := by simpa [bv, beIn] using h2
    rw [Array.getElem_setIfInBounds (by simpa [bv, beIn] using hi)]
    by_cases e : o + k = i
    · subst e
      simp only [if_true, bv, beIn, List.getElem_toArray, List.getElem_map, List.getElem_range]
      rw [if_pos ⟨by omega, by omega⟩, show o + k - o = k by omega]
    · rw [if_neg e]
      simp only [bv, beIn, List.getElem_toArray, List.getElem_map, List.getElem_range]
      by_cases e2 : o ≤ i ∧ i < o + k
      · rw [if_pos e2, if_pos (by omega)]
      · rw [if_neg e2, if_neg (by omega)]

set_option maxRecDepth 100000 in
set_option maxHeartbeats 800000 in
theorem put_any (g o m c n : Nat) (L : List UInt8) (ty : TypeId) (w : World) (hg : w.heap[g]? = some (.cells (bv L).toArray ty (0, 0))) (hm : m ≤ 8) (ho : o + m ≤ L.length) :
    Calls Try.prog 73 #[.slice (some ⟨g, o, none⟩) m c, .int .u64 (n : Int)] w fun e w' => e = .returned (.tuple #[]) ∧ w'.heap[g]? = some (.cells (bv (L.take o ++ (be m n ++ L.drop (o + m)))).toArray ty (0, 0)) ∧ Mod (· = g) w w' := by
  refine calls_hide fun R hR => ?_
  have HG := Lib.hid hg
  have HO := Lib.hid ho
  clear hg ho
  go_enter Try.func73, Try.ntmps73
  go_wp2_with fail
  go_loopw [7] (fun i wr => ∃ k : Nat, k ≤ m ∧ i = .int .i64 k ∧ wr.heap[g]? = some (.cells (bv (beIn L o m n k)).toArray ty (0, 0)) ∧ Mod (· = g) w wr) (fun i _ => m - (intOf i).toNat)
  case atStart => exact ⟨0, by omega, rfl, by rw [beIn_zero]; exact HG.out, Mod.refl _ _⟩
  case round =>
    obtain ⟨k, hk, rfl, hg, hmm⟩ := hrel
    have hk0 : (0 : Int) ≤ (k : Int) := Int.natCast_nonneg _
    have HM := Lib.hid hmm
    have HGK := Lib.hid hg
    by_cases hlt : k < m
    · have hk1 : (k : Int) < (m : Int) := by omega
      have hol : o + k < L.length := by have := HO.out; omega
      have hki : ∃ v, (bv (beIn L o m n k)).toArray[o + k]? = some v := ⟨_, Array.getElem?_eq_getElem (by simp [bv, beIn_len, hol])⟩
      obtain ⟨v, hv⟩ := hki
      have cg := cell_ofA hg hv
      have fg := frozen_of (o + k) hg
      have HOL := Lib.hid hol
      have hm8 : (m : Int) ≤ 8 := by omega
      clear hv hg hmm hol
      have HVL := Lib.hid (show (((UInt8.ofNat (n / 2 ^ (8 * (m - 1 - k)))).toNat : Nat) : Int) = (n : Int) / 2 ^ (8 * (m - 1 - k)) % 256 by simp)
      go_wp2_with fail
      rw [← HVL.out]
      exact ⟨⟨k + 1, by omega, by go_num, by rw [heap_setCell HGK.out, beIn_succ L o m n k HOL.out], HM.out.setCell (fun _ => rfl) _⟩, by go_light; simp only [intOf]; omega⟩
    · have hkn : k = m := by omega
      subst hkn
      clear hg hmm
      go_wp2_with fail
      go_end0
      exact fin hR ⟨rfl, by rw [← beIn_all L o k n HO.out]; exact HGK.out, HM.out⟩

theorem shl_or (N x : Nat) (hx : x < 256) : bits BinOp.or IntKind.u64 (IntKind.u64.wrap ((N : Int) * 256)) (x : Int) = (((N * 256 + x) % 18446744073709551616 : Nat) : Int) := by
  have h1 : IntKind.u64.wrap ((N : Int) * 256) = ((N * 256 % 18446744073709551616 : Nat) : Int) := by
    rw [IntKind.wrap_u64]; omega
  have h2 : N * 256 % 18446744073709551616 = 2 ^ 8 * (N % 72057594037927936) := by omega
  have h3 : 2 ^ 8 * (N % 72057594037927936) + x = 2 ^ 8 * (N % 72057594037927936) ||| x := Nat.two_pow_add_eq_or_of_lt (by omega) _
  rw [h1, bits_or_u64_nat _ _ (by omega) (by omega), h2, ← h3]
  omega

set_option maxRecDepth 100000 in
set_option maxHeartbeats 800000 in
theorem get_any {X : Nat → Prop} (e : TypeId) (v : Value) (l : List UInt8) (w : World) (hv : Sl w X e v l.length (bv l)) (hl : l.length ≤ 9223372036854775807) :
    Calls Try.prog 60 #[v] w fun e w' => e = .returned (.int .u64 ((getN l : Nat) : Int)) ∧ w' = w := by
  refine calls_hide fun R hR => ?_
  obtain ⟨a, c, rfl⟩ := hv.len
  have HV := Lib.hid hv
  clear hv
  go_enter Try.func60, Try.ntmps60
  go_wp2_with fail
  go_loopw [3, 8] (fun x i wr => wr = w ∧ ∃ k : Nat, k ≤ l.length ∧ i = .int .i64 k ∧ x = .int .u64 ((getN (l.take k) : Nat) : Int)) (fun _ i _ => l.length - (intOf i).toNat)
  case atStart => exact ⟨rfl, 0, by omega, rfl, rfl⟩
  case round =>
    obtain ⟨rfl, k, hk, rfl, rfl⟩ := hrel
    have hk0 : (0 : Int) ≤ (k : Int) := Int.natCast_nonneg _
    by_cases hlt : k < l.length
    · have hk1 : (k : Int) < (l.length : Int) := by omega
      obtain ⟨g, o, c', hsl, _⟩ := HV.out.shape (by omega)
      cases hsl
      have hck := HV.out.cell (i := k) (by simp [bv, hlt])
      have hge : (bv l)[k]? = some (.int .u8 ((l[k].toNat : Nat) : Int)) := by simp [bv, hlt]
      rw [hge] at hck
      dsimp only at hck
      have HT := Lib.hid (show getN (l.take (k + 1)) = (getN (l.take k) * 256 + l[k].toNat) % 18446744073709551616 by
        rw [List.take_succ_eq_append_getElem hlt]; unfold getN; rw [List.foldl_append]; rfl)
      have hb : l[k].toNat < 256 := UInt8.toNat_lt _
      generalize l[k].toNat = x at *
      generalize getN (l.take k) = N at *
      clear hge HV
      go_wp2_with fail
      rw [shl_or N x hb]
      exact ⟨⟨trivial, k + 1, by omega, by go_num, by rw [HT.out]⟩, by go_light; simp only [intOf]; omega⟩
    · have hkn : k = l.length := by omega
      subst hkn
      go_wp2_with fail
      exact fin hR ⟨by rw [List.take_length]; rfl, rfl⟩

end Go.Proofs.Ytnchclleiccofaa
