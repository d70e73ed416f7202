/-
  Layer 3, the disk: Crash. No statement is proved here; no condition.
-/
import Derived.Test.YtnchclleiccofaaDiskE
import Derived.Test.YtnchclleiccofaaConcat
namespace Go.Proofs.Ytnchclleiccofaa
open Go.RowKit Go.Maps

/-- What a crash leaves of the k-th written sector. -/
def crashG (keep : Nat) (torn : Int) (t : Nat) (k : Nat) (s l : List UInt8) : List UInt8 :=
  if (k : Int) = torn then l.take t ++ s.drop t else if keep.testBit (k % 64) then l else s

theorem bit_is (keep m : Nat) (h : keep < 18446744073709551616) : (bits BinOp.and IntKind.u64 ((keep : Int) / 2 ^ m) 1 == 1) = keep.testBit m := by
  have e : (keep : Int) / 2 ^ m = ((keep / 2 ^ m : Nat) : Int) := by
    rw [Int.natCast_ediv, Int.natCast_pow]; rfl
  rw [e, and_one_u64 _ (Int.natCast_nonneg _) (by have := Nat.div_le_self keep (2 ^ m); omega)]
  rw [Nat.testBit_eq_decide_div_mod_eq]
  rw [Bool.eq_iff_iff]
  simp
  omega

theorem Sl.takeN {X : Nat → Prop} {w : World} {e : TypeId} {b o n c m : Nat} {xs : List Value} (h : Sl w X e (.slice (some ⟨b, o, none⟩) n c) n xs) (hx : xs.length = n) (hm : m ≤ n) : Sl w X e (.slice (some ⟨b, o, none⟩) m c) m (xs.take m) := by
  rcases h with ⟨h, _⟩ | ⟨blk, o', c', cur, fz, hv, hn, hc, hX, hh, hl, hr⟩
  · cases h
  · cases hv
    refine .inr ⟨b, o, c, cur, fz, rfl, by omega, hc, hX, hh, ?_, fun i hi => ?_⟩
    · rw [List.length_take]; omega
    · rw [List.length_take] at hi
      rw [hr i (by omega), List.getElem?_take, if_pos (by omega)]

theorem Sl.dropN {X : Nat → Prop} {w : World} {e : TypeId} {b o n c m : Nat} {xs : List Value} (h : Sl w X e (.slice (some ⟨b, o, none⟩) n c) n xs) (hx : xs.length = n) (hm : m ≤ n) :
    Sl w X e (.slice (if c = m then some ⟨b, o, none⟩ else some ⟨b, o + m, none⟩) (n - m) (c - m)) (n - m) (xs.drop m) := by
  rcases h with ⟨h, _⟩ | ⟨blk, o', c', cur, fz, hv, hn, hc, hX, hh, hl, hr⟩
  · cases h
  · cases hv
    refine .inr ⟨b, if c = m then o else o + m, c - m, cur, fz, by split <;> rfl, by omega, by omega, hX, hh, ?_, fun i hi => ?_⟩
    · rw [List.length_drop]; split <;> omega
    · rw [List.length_drop] at hi
      rw [if_neg (by omega), List.getElem?_drop, ← hr (m + i) (by omega), Nat.add_assoc]

theorem bv_take (l : List UInt8) (n : Nat) : bv (l.take n) = (bv l).take n := by simp [bv, List.map_take]
theorem bv_drop (l : List UInt8) (n : Nat) : bv (l.drop n) = (bv l).drop n := by simp [bv, List.map_drop]

set_option maxRecDepth 100000 in
set_option maxHeartbeats 2000000 in
theorem crash_asks (w0 : World) (X : Nat → Prop) (sb sz : Nat) (p1 p2 p3 : Nat) (torn : Int) (t keep : Nat) (ht : t ≤ sz) (hkp : keep < 18446744073709551616) (hsz : sz ≤ 4096)
    (h1 : w0.cell? ⟨p1, 0, none⟩ = some (.int .i64 torn)) (h2 : w0.cell? ⟨p2, 0, none⟩ = some (.int .i64 (t : Int))) (h3 : w0.cell? ⟨p3, 0, none⟩ = some (.int .u64 (keep : Int)))
    (n1 : p1 ≠ sb) (n2 : p2 ≠ sb) (n3 : p3 ≠ sb) (hX : ∀ k, X k → k < w0.heap.size) (hs0 : 0 < sz) :
    settleCAsks w0 X sb sz (crashG keep torn t) (.pointer (some ⟨p1, 0, none⟩)) (.pointer (some ⟨p2, 0, none⟩)) (.pointer (some ⟨p3, 0, none⟩)) := by
  intro k vs vl s l W hk hm hs hl ls ll
  have c1 := hm.cell h1 n1
  have c2 := hm.cell h2 n2
  have c3 := hm.cell h3 n3
  clear h1 h2 h3 n1 n2 n3
  have HS := Lib.hid hs
  have HL := Lib.hid hl
  have LS := Lib.hid ls
  have LL := Lib.hid ll
  have HM := Lib.hid hm
  have HX := Lib.hid hX
  clear hs hl ls ll hm hX
  refine calls_hide fun R hR => ?_
  by_cases hkt : (k : Int) = torn
  · obtain ⟨sb1, so1, sc1, rfl, hsc1, hsc2, _⟩ := HS.out.shape hs0
    obtain ⟨lb1, lo1, lc1, rfl, hlc1, hlc2, _⟩ := HL.out.shape hs0
    have hb : ((k : Int) == torn) = true := by simpa using hkt
    have HKT := Lib.hid hkt
    clear hkt
    have t0 : (0 : Int) ≤ (t : Int) := Int.natCast_nonneg _
    have t1 : (t : Int) ≤ (sz : Int) := by omega
    have t2 : t ≤ lc1 := by omega
    have HT := Lib.hid (HL.out.takeN (m := t) (by rw [bv_length, LL.out]) ht)
    have HD := Lib.hid (HS.out.dropN (m := t) (by rw [bv_length, LS.out]) ht)
    go_enter Try.func43, Try.ntmps43
    go_wp2_with fail
    have hS0 : W.drew.cell? ⟨p2, 0, none⟩ = some (.int .i64 (t : Int)) := c2
    refine wp_region_T (fun w' => w'.cell? ⟨p2, 0, none⟩ = some (.int .i64 (t : Int))) 8 (by kernel_rfl) ?_
    refine wpAnyT_take 0 (some 14) ?_ rfl rfl (by kernel_rfl) (fun _ _ _ h => h) hS0 (Or.inl ⟨by rfl, ?_⟩) ?_
    rotate_left
    · (intro w' hSw; (try dsimp only at hSw); go_simp; try with_reducible rfl)
    simp only [Act.put, List.setIfInBounds_toArray, List.set_cons_zero, List.set_cons_succ]
    refine wpAnyT_take 1 (some 15) ?_ rfl rfl (by kernel_rfl) (fun _ _ _ h => h) hS0 (Or.inl ⟨by rfl, ?_⟩) ?_
    rotate_left
    · (intro w' hSw; (try dsimp only at hSw); go_simp; try with_reducible rfl)
    simp only [Act.put, List.setIfInBounds_toArray, List.set_cons_zero, List.set_cons_succ]
    refine wpAnyT_take 2 (some 16) ?_ rfl rfl (by kernel_rfl) (fun _ _ _ h => h) hS0 (Or.inl ⟨by rfl, ?_⟩) ?_
    rotate_left
    · (intro w' hSw; (try dsimp only at hSw); go_simp; try with_reducible rfl)
    simp only [Act.put, List.setIfInBounds_toArray, List.set_cons_zero, List.set_cons_succ]
    refine wpAnyT_take 3 (some 17) ?_ rfl rfl (by kernel_rfl) (fun _ _ _ h => h) hS0 (Or.inl ⟨by rfl, ?_⟩) ?_
    rotate_left
    · (intro w' hSw; (try dsimp only at hSw); go_simp; try with_reducible rfl)
    simp only [Act.put, List.setIfInBounds_toArray, List.set_cons_zero, List.set_cons_succ]
    refine wpAnyT_take 4 (some 18) ?_ rfl rfl (by kernel_rfl) (fun _ _ _ h => h) hS0 (Or.inl ⟨by rfl, ?_⟩) ?_
    rotate_left
    · (intro w' hSw; (try dsimp only at hSw); go_simp; try with_reducible rfl)
    simp only [Act.put, List.setIfInBounds_toArray, List.set_cons_zero, List.set_cons_succ]
    refine wpAnyT_take 5 (some 19) ?_ rfl rfl (by kernel_rfl) (fun _ _ _ h => h) hS0 (Or.inl ⟨by rfl, ?_⟩) ?_
    rotate_left
    · (intro w' hSw; (try dsimp only at hSw); go_simp; try with_reducible rfl)
    simp only [Act.put, List.setIfInBounds_toArray, List.set_cons_zero, List.set_cons_succ]
    generalize (if sc1 = t then some (⟨sb1, so1, none⟩ : Addr) else some ⟨sb1, so1 + t, none⟩) = ao at *
    have m1 : Mod No W (W.alloc (.cells #[.slice (some ⟨lb1, lo1, none⟩) t lc1, .slice ao (sz - t) (sc1 - t)] 33)).drew := ((Mod.refl No W).alloc _).drew
    have hS1 := m1.cell c2 (fun f => f)
    have hT1 := HT.out.keep m1 (fun _ _ _ f => f.elim)
    have hD1 := HD.out.keep m1 (fun _ _ _ f => f.elim)
    have hLs : ([l.take t, s.drop t] : List (List UInt8)).flatten = l.take t ++ s.drop t := by simp
    have hlen1 : (l.take t).length = t := by rw [List.length_take, LL.out]; omega
    have hlen2 : (s.drop t).length = sz - t := by rw [List.length_drop, LS.out]
    have hsl : Sl (W.alloc (.cells #[.slice (some ⟨lb1, lo1, none⟩) t lc1, .slice ao (sz - t) (sc1 - t)] 33)).drew No 33 (.slice (some ⟨W.heap.size, 0, none⟩) 2 2) 2 [.slice (some ⟨lb1, lo1, none⟩) t lc1, .slice ao (sz - t) (sc1 - t)] :=
      .inr ⟨W.heap.size, 0, 2, _, (0, 0), rfl, Nat.le_refl _, by unfold maxLen; omega, fun f => f, heap_at_new _ _ rfl, by simp, fun i hi => by simp⟩
    have HC := Lib.hid (concat_any No X (.slice (some ⟨W.heap.size, 0, none⟩) 2 2) [.slice (some ⟨lb1, lo1, none⟩) t lc1, .slice ao (sz - t) (sc1 - t)] [l.take t, s.drop t] _ hsl rfl (fun j q hj => by
      match j, hj with
      | 0, hj => cases hj; exact ⟨_, rfl, by rw [hlen1, bv_take]; exact hT1⟩
      | 1, hj => cases hj; exact ⟨_, rfl, by rw [hlen2, bv_drop]; exact hD1⟩) (by rw [hLs, List.length_append, hlen1, hlen2]; omega) (by simp))
    have M1 := Lib.hid m1
    have HLS := Lib.hid hLs
    have HL1 := Lib.hid hlen1
    have HL2 := Lib.hid hlen2
    clear m1 hT1 hD1 hsl hLs hlen1 hlen2
    refine wpAnyT_one 6 rfl (by kernel_rfl) rfl ?_
    intro K hK
    go_simp
    show K _ _
    refine hK.out _ _ (fun _ => hS1) ?_
    clear hK K
    refine wpAnyT_one 7 rfl (by kernel_rfl) rfl ?_
    intro K hK
    go_simp
    refine HC.out.mono ?_
    rintro e w3 ⟨v3, rfl, hown3, hm3⟩
    have hS3 := hm3.cell hS1 (fun f => f)
    have HO3 := Lib.hid hown3
    have HM3 := Lib.hid hm3
    clear hown3 hm3
    show K _ _
    refine hK.out _ _ (fun _ => hS3) ?_
    clear hK K
    refine wpAnyT_one 8 rfl (by kernel_rfl) rfl ?_
    intro K hK
    go_simp
    show K _ _
    refine hK.out _ _ (fun h => absurd rfl h) ?_
    clear hK K
    refine wpAnyT_done (by kernel_rfl) ?_ _
    go_wp2
    refine fin hR ⟨v3, rfl, ?_, (M1.out.then HM3.out (fun _ _ f => f.elim))⟩
    rw [crashG, if_pos HKT.out, ← HLS.out]
    have hfl : ([l.take t, s.drop t] : List (List UInt8)).flatten.length = sz := by rw [HLS.out, List.length_append, HL1.out, HL2.out]; omega
    have h3 := HO3.out
    rw [hfl] at h3
    exact Sl.of_own h3 fun q hq hx => by
      have h1 := HX.out q hx
      have h2 := HM.out.size
      have h4 := M1.out.size
      omega
  · by_cases hbit : keep.testBit (k % 64) = true
    · have hb : ((k : Int) == torn) = false := by simpa using hkt
      have hb2 : (bits BinOp.and IntKind.u64 ((keep : Int) / 2 ^ (k % 64)) 1 == 1) = true := by rw [bit_is _ _ hkp]; exact hbit
      have HKT := Lib.hid hkt
      have HBT := Lib.hid hbit
      clear hkt hbit
      go_enter Try.func43, Try.ntmps43
      go_wp2
      refine fin hR ⟨vl, rfl, ?_, Mod.refl _ _⟩
      rw [crashG, if_neg HKT.out, if_pos HBT.out]
      exact HL.out
    · have hb : ((k : Int) == torn) = false := by simpa using hkt
      have hb2 : (bits BinOp.and IntKind.u64 ((keep : Int) / 2 ^ (k % 64)) 1 == 1) = false := by rw [bit_is _ _ hkp]; simpa using hbit
      have HKT := Lib.hid hkt
      have HBT := Lib.hid hbit
      clear hkt hbit
      go_enter Try.func43, Try.ntmps43
      go_wp2
      refine fin hR ⟨vs, rfl, ?_, Mod.refl _ _⟩
      rw [crashG, if_neg HKT.out, if_neg HBT.out]
      exact HS.out

/-- What the disk is behind a crash. -/
def Dk.crash (d : Dk) (keep : Nat) (torn at_ : Int) : Dk := { d.settle (crashG keep torn (min (max at_ 0) d.sz).toNat) with cut := -1, dead := false }

set_option maxRecDepth 100000 in
set_option maxHeartbeats 2000000 in
theorem crash_any (X : Nat → Prop) (b sb mb : Nat) (d : Dk) (keep : Nat) (torn at_ : Int) (w : World) (h : DkAt w X b sb mb d) (hkp : keep < 18446744073709551616) (hX : ∀ k, X k → k < w.heap.size) :
    Calls Try.prog 19 #[.pointer (some ⟨b, 0, none⟩), .int .u64 (keep : Int), .int .i64 torn, .int .i64 at_] w fun e w' => e = .returned (.tuple #[]) ∧ DkAt w' X b sb mb (d.crash keep torn at_) ∧ Mod (Own3 b sb mb) w w' := by
  obtain ⟨hn1, hn2, hn3⟩ := h.mb_ne
  obtain ⟨sc, ho, hsc1, hsc2⟩ := h.obj
  obtain ⟨cur, hc⟩ := h.sure
  have hn0 : 0 < d.n := by have := h.n1; omega
  have hs1 : 64 ≤ d.sz := h.s1
  have hs2 : d.sz ≤ 4096 := h.s2
  obtain ⟨v0, hv0, hsl0⟩ := hc.cell 0 hn0
  obtain ⟨a0, o0, c0, rfl, _⟩ := hsl0.shape (by omega)
  obtain ⟨t, ht⟩ : ∃ t : Nat, min (max at_ 0) (d.sz : Int) = (t : Int) := Int.eq_ofNat_of_zero_le (by omega)
  have ht1 : t ≤ d.sz := by omega
  have ht2 : (min (max at_ 0) (d.sz : Int)).toNat = t := by omega
  have HT2 := Lib.hid ht2
  -- the three boxes
  obtain ⟨w3, hw3⟩ : ∃ w3, w3 = ((w.alloc (.cells #[.int .u64 (keep : Int)] 34)).alloc (.cells #[.int .i64 torn] 3)).alloc (.cells #[.int .i64 at_] 3) := ⟨_, rfl⟩
  have m3 : Mod No w w3 := by rw [hw3]; exact (((Mod.refl No w).alloc _).alloc _).alloc _
  have hz3 : w3.heap.size = w.heap.size + 3 := by rw [hw3]; simp
  have hk1 : w3.heap[w.heap.size]? = some (.cells #[.int .u64 (keep : Int)] 34 (0, 0)) := by
    rw [hw3]; exact heap_alloc_old _ (heap_alloc_old _ (heap_at_new _ _ rfl))
  have hk2 : w3.heap[w.heap.size + 1]? = some (.cells #[.int .i64 torn] 3 (0, 0)) := by
    rw [hw3]; exact heap_alloc_old _ (heap_at_new _ _ (by simp))
  have hk3 : w3.heap[w.heap.size + 2]? = some (.cells #[.int .i64 at_] 3 (0, 0)) := by
    rw [hw3]; exact heap_at_new _ _ (by simp)
  have lb := lt_of_heap ho
  have lsb := lt_of_heap hc.heap
  have e1 := cell_of (i := 0) (m3.keep ho (fun f => f)) rfl
  have e2 := m3.cell (cell_ofA hc.heap hv0) (fun f => f)
  have e3 := cell_of (i := 0) hk3 rfl
  have f3 := frozen_of 0 hk3
  have HW := Lib.hid (fun w => by have := within_any at_ 0 d.sz w; rw [ht] at this; exact this)
  have HZ := Lib.hid (size_any ⟨b, 0, none⟩ sb d.n sc (some ⟨a0, o0, none⟩) d.sz c0 w3.drew hn0 e1 e2)
  have HH := Lib.hid h
  have HX := Lib.hid hX
  have HM3 := Lib.hid m3
  have HO := Lib.hid ho
  have K1 := Lib.hid hk1
  have K2 := Lib.hid hk2
  have K3 := Lib.hid hk3
  have N1 := Lib.hid hn1
  have N2 := Lib.hid hn2
  have N3 := Lib.hid hn3
  have HT := Lib.hid ht
  have HW3 := Lib.hid hw3
  have HZ3 := Lib.hid hz3
  clear h hX m3 ho hk1 hk2 hk3 hn1 hn2 hn3 ht ht2 hw3 hsc1 hsc2 hc hv0 hsl0 hz3
  refine calls_hide fun R hR => ?_
  go_enter Try.func19, Try.ntmps19
  go_wp2_with fail
  rw [← HW3.out]
  have hS0 : w3.drew.cell? ⟨w.heap.size + 2, 0, none⟩ = some (.int .i64 at_) := e3
  refine wp_region_T (fun w' => w'.cell? ⟨w.heap.size + 2, 0, none⟩ = some (.int .i64 at_)) 6 (by kernel_rfl) ?_
  refine wpAnyT_take 0 (some 8) ?_ rfl rfl (by kernel_rfl) (fun _ _ _ h => h) hS0 (Or.inl ⟨by rfl, ?_⟩) ?_
  rotate_left
  · (intro w' hSw; (try dsimp only at hSw); go_simp; try with_reducible rfl)
  simp only [Act.put, List.setIfInBounds_toArray, List.set_cons_zero, List.set_cons_succ]
  refine wpAnyT_take 1 (some 9) ?_ rfl rfl (by kernel_rfl) (fun _ _ _ h => h) hS0 (Or.inl ⟨by rfl, ?_⟩) ?_
  rotate_left
  · (intro w' hSw; (try dsimp only at hSw); go_simp; try with_reducible rfl)
  simp only [Act.put, List.setIfInBounds_toArray, List.set_cons_zero, List.set_cons_succ]
  refine wpAnyT_take 2 (some 10) ?_ rfl rfl (by kernel_rfl) (fun _ _ _ h => h) hS0 (Or.inl ⟨by rfl, ?_⟩) ?_
  rotate_left
  · (intro w' hSw; (try dsimp only at hSw); go_simp; try with_reducible rfl)
  simp only [Act.put, List.setIfInBounds_toArray, List.set_cons_zero, List.set_cons_succ]
  refine wpAnyT_take 3 (some 11) ?_ rfl rfl (by kernel_rfl) (fun _ _ _ h => h) hS0 (Or.inl ⟨by rfl, ?_⟩) ?_
  rotate_left
  · (intro w' hSw; (try dsimp only at hSw); go_simp; try with_reducible rfl)
  simp only [Act.put, List.setIfInBounds_toArray, List.set_cons_zero, List.set_cons_succ]
  refine wpAnyT_one 4 rfl (by kernel_rfl) rfl ?_
  intro K hK
  go_simp
  refine HZ.out.mono ?_
  rintro e w' ⟨rfl, rfl⟩
  show K _ _
  refine hK.out _ _ (fun _ => hS0) ?_
  clear hK K
  refine wpAnyT_one 5 rfl (by kernel_rfl) rfl ?_
  intro K hK
  go_simp
  refine (HW.out _).mono ?_
  rintro e w' ⟨rfl, rfl⟩
  show K _ _
  refine hK.out _ _ (fun _ => hS0) ?_
  clear hK K
  refine wpAnyT_one 6 rfl (by kernel_rfl) rfl ?_
  intro K hK
  go_simp
  show K _ _
  refine hK.out _ _ (fun h => absurd rfl h) ?_
  clear hK K
  refine wpAnyT_done (by kernel_rfl) ?_ _
  go_wp2_with fail
  have m4 : Mod No w (w3.setCell ⟨w.heap.size + 2, 0, none⟩ (.int .i64 (t : Int))).drew := (HM3.out.setCell (fun h => absurd h (by simp)) _).drew
  have hD4 : DkAt (w3.setCell ⟨w.heap.size + 2, 0, none⟩ (.int .i64 (t : Int))).drew X b sb mb d := HH.out.stay m4
  have ne1 : w.heap.size + 1 ≠ w.heap.size + 2 := by omega
  have q1 : (w3.setCell ⟨w.heap.size + 2, 0, none⟩ (.int .i64 (t : Int))).drew.cell? ⟨w.heap.size + 1, 0, none⟩ = some (.int .i64 torn) := by
    show (w3.setCell ⟨w.heap.size + 2, 0, none⟩ (.int .i64 (t : Int))).cell? _ = _
    exact cell_of (xs := [.int .i64 torn]) (by rw [heap_setCell_ne _ ne1]; exact K2.out) rfl
  have q2 : (w3.setCell ⟨w.heap.size + 2, 0, none⟩ (.int .i64 (t : Int))).drew.cell? ⟨w.heap.size + 2, 0, none⟩ = some (.int .i64 (t : Int)) := by
    show (w3.setCell ⟨w.heap.size + 2, 0, none⟩ (.int .i64 (t : Int))).cell? _ = _
    exact cell_of (xs := [.int .i64 (t : Int)]) (by rw [heap_setCell K3.out]; rfl) rfl
  have q3 : (w3.setCell ⟨w.heap.size + 2, 0, none⟩ (.int .i64 (t : Int))).drew.cell? ⟨w.heap.size, 0, none⟩ = some (.int .u64 (keep : Int)) := by
    show (w3.setCell ⟨w.heap.size + 2, 0, none⟩ (.int .i64 (t : Int))).cell? _ = _
    exact cell_of (xs := [.int .u64 (keep : Int)]) (by rw [heap_setCell_ne _ (by simp)]; exact K1.out) rfl
  have hX4 : ∀ k, X k → k < (w3.setCell ⟨w.heap.size + 2, 0, none⟩ (.int .i64 (t : Int))).drew.heap.size := fun k hk => by
    have h1 := HX.out k hk
    have h2 := m4.size
    omega
  have HA := crash_asks _ X sb d.sz (w.heap.size + 1) (w.heap.size + 2) w.heap.size torn t keep ht1 hkp hs2 q1 q2 q3 (by omega) (by omega) (by omega) hX4 (by omega)
  have HG : ∀ k s l, s.length = d.sz → l.length = d.sz → (crashG keep torn t k s l).length = d.sz := fun k s l h1 h2 => by
    unfold crashG
    split
    · rw [List.length_append, List.length_take, List.length_drop, h1, h2]; omega
    · split <;> assumption
  have HC := settleC X b sb mb d (crashG keep torn t) _ (.pointer (some ⟨w.heap.size + 1, 0, none⟩)) (.pointer (some ⟨w.heap.size + 2, 0, none⟩)) (.pointer (some ⟨w.heap.size, 0, none⟩)) hD4 HA HG
  have M4 := Lib.hid m4
  have HC' := Lib.hid HC
  clear HC HA HG hX4 q1 q2 q3 ne1 hD4 m4
  refine HC'.out.mono ?_
  rintro e w5 ⟨rfl, hd5, hm5⟩
  obtain ⟨sc5, ho5, r5, r5'⟩ := hd5.obj
  have D5 := Lib.hid hd5
  have M5 := Lib.hid hm5
  have O5 := Lib.hid ho5
  have g2 := cell_of (i := 2) ho5 rfl
  have g3 := cell_of (i := 3) ho5 rfl
  have j2 := frozen_of 2 ho5
  have j3 := frozen_of 3 ho5
  clear hd5 hm5 ho5 hS0 e1 e2 e3 f3
  go_wp2
  go_end0
  refine fin hR ⟨rfl, ?_, ?_⟩
  · have h6 := D5.out.obj_eq (w' := (w5.setCell ⟨b, 3, none⟩ (.bool false)).setCell ⟨b, 2, none⟩ (.int .i64 (-1))) (cut := -1) (dead := false) O5.out (by rw [heap_setCell (heap_setCell O5.out _)]; rfl)
      ((((Mod.refl (· = b) w5).setCell (fun _ => rfl) _).setCell (fun _ => rfl) _)) (by omega) (by omega)
    rw [Dk.crash, HT2.out]
    exact h6
  · have h1 : Mod (Own3 b sb mb) w w5 := (M4.out.weaken fun _ _ f => f.elim).trans (M5.out.weaken fun _ _ e => .inr e)
    exact (h1.setCell (fun _ => .inl rfl) _).setCell (fun _ => .inl rfl) _

end Go.Proofs.Ytnchclleiccofaa
