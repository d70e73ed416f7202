/-
  Layer 4, the laws: a log that is opened anew; a fresh one; batch. No statement is proved here; no condition.
-/
import Derived.Test.YtnchclleiccofaaWalT
import Derived.Test.YtnchclleiccofaaArgs
namespace Go.Proofs.Ytnchclleiccofaa
open Go.RowKit

/-- Opened anew: the same log. -/
theorem open_has {b sb mb : Nat} {d : Dk} {L : Lg} {w : World} (hn : 16 ≤ d.n) (hz : 128 ≤ d.sz) (hw : Well d) (h : DkAt w No b sb mb d) (ok : LogOK d.last (d.n / 2) (d.sz - 16) L) :
    Calls Try.prog 28 #[.pointer (some ⟨b, 0, none⟩)] w fun e w' => ∃ (p ub : Nat) (v : Value), e = .returned (.tuple #[.pointer (some ⟨p, 0, none⟩), v, .int .i64 0]) ∧ LogHas w' p b sb mb ub d L ∧ OwnRecs w' w.heap.size v L.all ∧ Mod No w w' ∧ w.heap.size ≤ p ∧ w.heap.size ≤ ub := by
  refine (wopen_any hn hz hw h).mono ?_
  rintro e w' ⟨p, ub, v, L', rfl, hat, hown, ht, hc, hs, hm, hp, hu⟩
  rw [ok.turnOf (by omega) (by omega)] at ht
  have hs2 := ok.stop (by omega)
  rw [ht] at hc hs
  obtain ⟨e1, e2, e3⟩ := hc.unique ok.chain hs hs2
  have eL : L' = L := by
    cases L'; cases L
    simp only at ht e1 e2 e3
    subst ht e1 e2 e3
    rfl
  subst eL
  exact ⟨p, ub, v, rfl, ⟨h.stay hm, hat, fun e => by have := h.lt (q := mb) (.inr (.inr rfl)); omega, hw, hn, hz, ok⟩, hown, hm, hp, hu⟩

theorem new_log (n : Int) (sz : Int) : LogOK (Dk.new n sz).last ((Dk.new n sz).n / 2) ((Dk.new n sz).sz - 16) ⟨0, 0, 0, []⟩ := by
  have hl : ∀ i, (Dk.new n sz).last i = List.replicate (min (max sz 64) 4096).toNat 0 := fun i => rfl
  refine ⟨.zero, fun j _ _ _ => ?_, fun i _ => ?_, .inl rfl, by decide, by decide⟩
  · unfold tlN; rw [hl, List.drop_replicate, List.drop_replicate, getN_zeros]; exact Nat.le_refl _
  · unfold tlT; rw [hl, List.drop_replicate, List.take_replicate, getN_zeros]; exact Nat.le_refl _

theorem new_well (n : Int) (sz : Int) : Well (Dk.new n sz) := ⟨rfl, rfl⟩

/-- A record of batch. -/
def batchR (i k n : Nat) : List UInt8 := (List.range n).map fun j => UInt8.ofNat (31 * i + 7 * k + j)
def batchB (i : Nat) (lens : List UInt8) : List (List UInt8) := (List.range lens.length).map fun k => batchR i k (lens.getD k 0).toNat

theorem batchB_len (i : Nat) (lens : List UInt8) : (batchB i lens).length = lens.length := by simp [batchB]
theorem batchB_mem {i : Nat} {lens : List UInt8} {r : List UInt8} (h : r ∈ batchB i lens) : r.length ≤ 255 := by
  obtain ⟨k, _, rfl⟩ := List.mem_map.1 h
  simp only [batchR, List.length_map, List.length_range]
  have := UInt8.toNat_lt (lens.getD k 0)
  omega

theorem batchB_succ (i : Nat) (lens : List UInt8) (k : Nat) (hk : k < lens.length) : (batchB i lens).take (k + 1) = (batchB i lens).take k ++ [batchR i k lens[k].toNat] := by
  rw [List.take_succ_eq_append_getElem (by rw [batchB_len]; exact hk)]
  congr 2
  simp [batchB, List.getElem?_eq_getElem hk]

/-- Its cells, of which j are written. -/
def batchC (i k n j : Nat) : List UInt8 := (batchR i k j) ++ List.replicate (n - j) 0

theorem batchC_len (i k n j : Nat) (h : j ≤ n) : (batchC i k n j).length = n := by
  simp [batchC, batchR]; omega

theorem batchC_succ (i k n j : Nat) (h : j < n) : (bv (batchC i k n j)).toArray.setIfInBounds j (.int .u8 (((UInt8.ofNat (31 * i + 7 * k + j)).toNat : Nat) : Int)) = (bv (batchC i k n (j + 1))).toArray := by
  rw [List.setIfInBounds_toArray]
  congr 1
  unfold batchC
  rw [show n - j = (n - (j + 1)) + 1 by omega, List.replicate_succ, bv_append, bv_append]
  have hl : (bv (batchR i k j)).length = j := by simp [batchR]
  rw [List.set_append_right _ _ (by omega), hl, Nat.sub_self]
  have : batchR i k (j + 1) = batchR i k j ++ [UInt8.ofNat (31 * i + 7 * k + j)] := by
    unfold batchR
    rw [List.range_succ, List.map_append]; rfl
  rw [this, bv_append]
  simp [bv]

set_option maxRecDepth 100000 in
set_option maxHeartbeats 4000000 in
theorem batch_any {w : World} (i : Nat) (hi : i ≤ 1000) (a : Option Addr) (n c : Nat) (bs : List UInt8) (hlen : bs.length = n) (hn : n ≤ 1000) (h : In w a n (bv bs)) :
    Calls Try.prog 30 #[.int .i64 (i : Int), .slice a n c] w fun e w' => ∃ v', e = .returned v' ∧ OwnRecs w' w.heap.size v' (batchB i bs) ∧ Mod No w w' := by
  obtain ⟨i0, hi0, hz0, hz1, hz2⟩ := info_parts info_bs
  refine calls_hide fun R hR => ?_
  obtain ⟨base, hbase⟩ : ∃ base, base = w.heap.size := ⟨_, rfl⟩
  have HBS := Lib.hid hbase
  have HIN := Lib.hid h
  have HLEN := Lib.hid hlen
  clear hbase h hlen
  go_enter Try.func30, Try.ntmps30
  go_wp2_with fail
  go_loopw [5, 6] (fun u q wr => ∃ k : Nat, k ≤ n ∧ q = .int .i64 k ∧ OwnRecs wr base u ((batchB i bs).take k) ∧ Mod No w wr) (fun _ q _ => n - (intOf q).toNat)
  case atStart => exact ⟨0, by omega, rfl, OwnRecs.nil _ _, Mod.refl _ _⟩
  case round =>
    obtain ⟨k, hk, rfl, hown, hmod⟩ := hrel
    have hk0 : (0 : Int) ≤ (k : Int) := Int.natCast_nonneg _
    by_cases hlt : k < n
    · have hk1 : (k : Int) < (n : Int) := by omega
      obtain ⟨ab, ao, rfl, hc⟩ := HIN.out.cell k hlt
      have hkb : k < bs.length := by have := HLEN.out; omega
      rw [bv_get _ _ hkb] at hc
      have hc := hmod.cell hc (fun f => f)
      have hSUC := batchB_succ i bs k hkb
      have hx := UInt8.toNat_lt bs[k]
      obtain ⟨N, hN⟩ : ∃ N, N = bs[k].toNat := ⟨_, rfl⟩
      rw [← hN] at hc hSUC hx
      have HSUC := Lib.hid hSUC
      have HTL := Lib.hid (show ((batchB i bs).take k).length = k by rw [List.length_take, batchB_len]; omega)
      obtain ⟨done, hdone⟩ : ∃ done, done = (batchB i bs).take k := ⟨_, rfl⟩
      rw [← hdone] at hown HSUC HTL
      have HOW := Lib.hid hown
      have HM := Lib.hid hmod
      clear hSUC hN hown hmod hdone
      obtain ⟨g, hg⟩ : ∃ g, g = wr.heap.size := ⟨_, rfl⟩
      obtain ⟨ZB, hZB⟩ : ∃ ZB : Array Value, ZB = (bv (batchC i k N 0)).toArray := ⟨_, rfl⟩
      have hmk : (Instr.makeSlice 33 (.int .i64 (N : Int)) (.int .i64 (N : Int))).run Try.prog wr = .ok (.slice (some ⟨g, 0, none⟩) N N) (wr.alloc (.cells ZB 5)) := by
        rw [hZB, hg, show batchC i k N 0 = List.replicate N 0 by simp [batchC, batchR], ← madeBytes]
        exact run_make_row' (P := Try.prog) 33 5 (.int .u8 0) 1 Try.underlying33 info_u8 rfl .i64 .i64 N (by omega) (by omega) wr
      obtain ⟨w2, hw2⟩ : ∃ w2, w2 = wr.alloc (.cells ZB 5) := ⟨_, rfl⟩
      rw [← hw2] at hmk
      have HG2 := Lib.hid (show w2.heap[g]? = some (.cells (bv (batchC i k N 0)).toArray 5 (0, 0)) by rw [hw2, hg, ← hZB]; exact heap_alloc_new wr _)
      have hm2 : Mod No wr w2 := by rw [hw2]; exact (Mod.refl No wr).alloc _
      have HOW2 := Lib.hid (show ∃ vs : List Value, vs.length = done.length ∧ w2.ownsRow base 33 1 _ done.length vs ∧ ∀ (j : Nat) (u : Value) (r : List UInt8), vs[j]? = some u → done[j]? = some r → Sl w2 (fun q => q < base ∨ g ≤ q) 5 u r.length (bv r) from by
        obtain ⟨vs, e1, e2, e3⟩ := HOW.out.row
        refine ⟨vs, e1, own_keepM e2 hm2 (fun _ _ f => f), fun j u r h1 h2 => ?_⟩
        have := ((e3 j u r h1 h2).avoid).keep hm2 (fun _ _ _ f => f.elim)
        rw [hg]; exact this)
      have HM2 := Lib.hid (HM.out.trans hm2)
      have HGG := Lib.hid (show base ≤ g by have := HM.out.size; have := HBS.out; omega)
      have HNG := Lib.hid (show ∀ cur, w2.heap[g]? ≠ some (.cells cur 33 (0, 0)) from fun cur e => by have h := HG2.out; rw [h] at e; cases e)
      clear hw2 hZB hg hm2 HOW HM
      go_wp2_with fail
      go_loopw [8] (fun q ws => ∃ j : Nat, j ≤ N ∧ q = .int .i64 j ∧ ws.heap[g]? = some (.cells (bv (batchC i k N j)).toArray 5 (0, 0)) ∧ Mod (· = g) w2 ws) (fun q _ => N - (intOf q).toNat)
      case atStart => exact ⟨0, by omega, rfl, HG2.out, Mod.refl _ _⟩
      case round =>
        obtain ⟨j, hj, rfl, hgj, hmj⟩ := hrel
        have hj0 : (0 : Int) ≤ (j : Int) := Int.natCast_nonneg _
        by_cases hjl : j < N
        · have hj1 : (j : Int) < (N : Int) := by omega
          have hcv : (bv (batchC i k N j)).toArray[j]? = some (.int .u8 0) := by
            rw [List.getElem?_toArray, bv_get?]
            unfold batchC
            rw [List.getElem?_append_right (by simp [batchR]), List.getElem?_replicate, if_pos (by simp [batchR]; omega)]
            rfl
          have cg := cell_ofA hgj hcv
          have fg := frozen_of j hgj
          have HGJ := Lib.hid hgj
          have HMJ := Lib.hid hmj
          have HVL := Lib.hid (show (((UInt8.ofNat (31 * i + 7 * k + j)).toNat : Nat) : Int) = (31 * (i : Int) + 7 * (k : Int) + (j : Int)) % 256 by simp)
          clear hcv hgj hmj
          go_wp2_with fail
          rw [← HVL.out]
          exact ⟨⟨j + 1, by omega, by go_num, by rw [heap_setCell HGJ.out, batchC_succ i k N j hjl], HMJ.out.setCell (fun _ => rfl) _⟩, by go_light; simp only [intOf]; omega⟩
        · have hjn : j = N := by omega
          subst hjn
          have hall : batchC i k j j = batchR i k j := by simp [batchC]
          rw [hall] at hgj
          have hsl : Sl wr (fun q => q < base) 5 (.slice (some ⟨g, 0, none⟩) j j) j (bv (batchR i k j)) :=
            .inr ⟨g, 0, j, _, (0, 0), rfl, Nat.le_refl _, by unfold maxLen; omega, (fun hlt => by have := HGG.out; omega), hgj, by simp [batchR], fun q hq => by simp⟩
          obtain ⟨vs, e1, e2, e3⟩ := HOW2.out
          have ho3 := own_keepM e2 hmj (fun q hq e => by
            subst e
            obtain ⟨cur', hc'⟩ := own_heapM e2 hq
            exact HNG.out _ hc')
          have e4 := fun (q : Nat) (u' : Value) (r : List UInt8) h1 h2 => ((e3 q u' r h1 h2).keep hmj (fun q' cur fz e hnx => absurd (.inr (Nat.le_of_eq e.symm)) hnx)).shrink (Y := fun q => q < base) fun _ _ e => .inl e
          have hm5 : Mod No wr (wr.alloc (.cells #[.slice (some ⟨g, 0, none⟩) j j] 33)) := (Mod.refl No wr).alloc _
          have HU := Lib.hid (show Sl (wr.alloc (.cells #[.slice (some ⟨g, 0, none⟩) j j] 33)) (fun q => q < base) 5 (.slice (some ⟨g, 0, none⟩) j j) (batchR i k j).length (bv (batchR i k j)) by
            have := hsl.keep hm5 (fun q _ _ (f : No q) => f.elim)
            rw [show (batchR i k j).length = j by simp [batchR]]; exact this)
          have HO5 := Lib.hid (own_keepM ho3 hm5 (fun _ _ f => f))
          have HE1 := Lib.hid e1
          have HE3 := Lib.hid (show ∀ (y : Nat) (u' : Value) (r : List UInt8), vs[y]? = some u' → done[y]? = some r → Sl (wr.alloc (.cells #[.slice (some ⟨g, 0, none⟩) j j] 33)) (fun k => k < base) 5 u' r.length (bv r) from fun y u' r h1 h2 => (e4 y u' r h1 h2).keep hm5 (fun q _ _ (f : No q) => f.elim))
          have HBX := Lib.hid (show Sl (wr.alloc (.cells #[.slice (some ⟨g, 0, none⟩) j j] 33)) No 33 (.slice (some ⟨wr.heap.size, 0, none⟩) 1 1) 1 [.slice (some ⟨g, 0, none⟩) j j] from
            .inr ⟨wr.heap.size, 0, 1, #[.slice (some ⟨g, 0, none⟩) j j], (0, 0), rfl, Nat.le_refl _, by unfold maxLen; omega, fun f => f, heap_alloc_new wr _, Nat.le_refl _, fun i hi => by simp⟩)
          have HM5 := Lib.hid ((HM2.out.then hmj (fun q hq e => by have := HGG.out; have := HBS.out; omega)).trans hm5)
          have hb5 : base ≤ (wr.alloc (.cells #[.slice (some ⟨g, 0, none⟩) j j] 33)).heap.size := by have := HM5.out.size; have := HBS.out; omega
          have h1c : ∀ y ∈ [Value.slice (some ⟨g, 0, none⟩) j j], y.oneCell' = true := by
            intro y hy
            simp at hy
            subst hy
            rfl
          have H1C := Lib.hid h1c
          have hdl : done.length ≤ 1000 := by have := HTL.out; omega
          clear hsl ho3 e1 e2 e3 e4 h1c hgj hmj hm5 HOW2
          go_wp2_with (at_builtin; refine app_sl _ rfl _ _ 26 rfl base 33 i0 (.slice none 0 0) 1 24 Try.underlying26 hi0 hz0 hz1 hz2 rfl (by decide) _ _ _ rfl HO5.out No 33 _ _ _ rfl HBX.out rfl H1C.out ?_ ?_ hb5 ?_)
          · unfold maxLen; omega
          · omega
          intro v' w6 hown6 hg6 _
          have HR6 := Lib.hid (OwnRecs.push HE1.out HO5.out HE3.out HU.out hg6 hown6)
          have HM6 := Lib.hid (HM5.out.then (Mod.of_grown (S := fun q => base ≤ q) hg6 (fun q e _ => (HO5.out.lt _ e).1)) (fun q hq e => by have := HBS.out; omega))
          clear hown6 hg6 HO5 HE1 HE3 HU HBX HM5 H1C
          go_wp2_with fail
          exact ⟨⟨k + 1, by omega, by go_num, by rw [HSUC.out]; exact HR6.out, HM6.out⟩, by go_light; simp only [intOf]; omega⟩
    · have hkn : k = n := by omega
      subst hkn
      rw [List.take_of_length_le (by rw [batchB_len, HLEN.out]; exact Nat.le_refl _)] at hown
      have HOW := Lib.hid hown
      have HM := Lib.hid hmod
      clear hown hmod
      go_wp2_with fail
      exact fin hR ⟨_, rfl, by rw [← HBS.out]; exact HOW.out, HM.out⟩

end Go.Proofs.Ytnchclleiccofaa
