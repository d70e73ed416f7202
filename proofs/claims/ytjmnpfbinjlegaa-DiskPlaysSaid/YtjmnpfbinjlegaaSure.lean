/-
  DiskSure: for every input the law returns true. No conditions beyond the given statement's own.
-/
import Derived.Test.YtjmnpfbinjlegaaCopies
import Derived.Test.YtjmnpfbinjlegaaArgs
namespace Go.Proofs.Ytjmnpfbinjlegaa
open Go.RowKit Go.Maps

structure FullInv (w0 wr : World) (r : Nat) (c : UInt8) (k : Nat) : Prop where
  heap : wr.heap[r]? = some (.cells (bv (List.replicate k c ++ List.replicate (64 - k) 0)).toArray 5 (0, 0))
  mod : Mod No w0 wr

set_option maxRecDepth 100000 in
set_option maxHeartbeats 1000000 in
theorem full_any (c : UInt8) (w : World) :
    Calls Try.prog 12 #[.int .u8 (c.toNat : Int)] w fun e w' => ∃ g, e = .returned (.slice (some ⟨g, 0, none⟩) 64 64) ∧ Sl w' No 5 (.slice (some ⟨g, 0, none⟩) 64 64) 64 (bv (List.replicate 64 c)) ∧ Mod No w w' := by
  have hmk : ∀ w, (Instr.makeSlice 33 (.int .i64 64) (.int .i64 64)).run Try.prog w = .ok (.slice (some ⟨w.heap.size, 0, none⟩) 64 64) (w.alloc (.cells (madeCells #[.int .u8 0] 64) 5)) := fun w => run_make_row' (P := Try.prog) 33 5 (.int .u8 0) 1 Try.underlying33 info_u8 rfl .i64 .i64 64 (by omega) (by omega) w
  refine calls_hide fun R hR => ?_
  go_enter Try.func12, Try.ntmps12
  go_wp2_with fail
  have hst : FullInv w (w.alloc (.cells (madeCells #[.int .u8 0] 64) 5)) w.heap.size c 0 := by
    refine ⟨?_, (Mod.refl No w).alloc _⟩
    have h1 : (w.alloc (.cells (madeCells #[.int .u8 0] 64) 5)).heap[w.heap.size]? = some (.cells (madeCells #[.int .u8 0] 64) 5 (0, 0)) := heap_at_new _ _ rfl
    rw [h1, madeBytes]; rfl
  have HS := Lib.hid hst
  clear hst hmk
  go_loopw [4] (fun i wr => ∃ k : Nat, k ≤ 64 ∧ i = .int .i64 k ∧ FullInv w wr w.heap.size c k) (fun i _ => 64 - (intOf i).toNat)
  case atStart => exact ⟨0, by omega, rfl, HS.out⟩
  case round =>
    obtain ⟨k, hk, rfl, hinv⟩ := hrel
    have HI := Lib.hid hinv
    clear hinv
    by_cases hlt : k < 64
    · have hg : ((bv (List.replicate k c ++ List.replicate (64 - k) 0)).toArray)[k]? = some (.int .u8 0) := by
        simp [bv]
        rw [List.getElem?_append_right (by simp)]
        have h64 : 0 < 64 - k := by omega
        simp [h64]
      have ck := cell_ofA HI.out.heap hg
      have fk := frozen_of k HI.out.heap
      have k0 : (0 : Int) ≤ (k : Int) := Int.natCast_nonneg _
      have k1 : (k : Int) < 64 := by omega
      clear hg
      go_wp2_with fail
      refine ⟨⟨k + 1, by omega, by go_num, ?_, HI.out.mod.setCell (fun h => absurd h (by simp)) _⟩, by simp [intOf]; omega⟩
      rw [heap_setCell HI.out.heap]
      congr 2
      apply Array.ext'
      simp only [Array.toList_setIfInBounds, bv, List.map_append, List.map_replicate]
      rw [List.set_append_right _ _ (by simp)]
      simp only [List.length_replicate, Nat.sub_self]
      obtain ⟨m, hm⟩ : ∃ m, 64 - k = m + 1 := ⟨63 - k, by omega⟩
      have hm2 : 64 - (k + 1) = m := by omega
      rw [hm, hm2, List.replicate_succ, List.set_cons_zero, List.replicate_succ']
      simp
    · have hk2 : k = 64 := by omega
      subst hk2
      go_wp2_with fail
      have h1 := HI.out.heap
      simp only [Nat.sub_self, List.replicate_zero, List.append_nil] at h1
      exact fin hR ⟨w.heap.size, rfl, row_sl h1 (by simp) (by omega), HI.out.mod⟩

/-- Sectors 0 to k - 1 are written, each full of a byte of l. -/
def wrote (d : Dk) (l : List UInt8) : Nat → Dk
  | 0 => d
  | k + 1 => (wrote d l k).write (k : Int) (List.replicate 64 (l.getD k 0))

theorem wrote_eq (d : Dk) (l : List UInt8) (hn : d.n = 40) (hs : d.sz = 64) (hc : d.cut = -1) (hd : d.dead = false) : ∀ k, k ≤ 40 →
    wrote d l k = { d with dirty := fun i => if i < k then some (List.replicate 64 (l.getD i 0)) else d.dirty i }
  | 0, _ => by simp [wrote]
  | k + 1, hk => by
    have ih := wrote_eq d l hn hs hc hd k (by omega)
    rw [wrote, ih]
    rw [(Dk.write_ok (i := (k : Int)) (l := List.replicate 64 (l.getD k 0)) (by simp [atE, hd, hn]; omega) (by simp [hs]) (by simp [hc])).1]
    unfold Dk.power Dk.put
    simp only [hc, hd, Int.toNat_natCast, Dk.mk.injEq, true_and]
    refine ⟨?_, by decide, by decide⟩
    funext i
    by_cases e : i = k
    · subst e; simp
    · by_cases h : i < k
      · simp [e, h, show i < k + 1 by omega]
      · simp [e, h, show ¬ i < k + 1 by omega]

theorem wrote_E (d : Dk) (l : List UInt8) (hn : d.n = 40) (hs : d.sz = 64) (hc : d.cut = -1) (hd : d.dead = false) {k : Nat} (hk : k < 40) : (wrote d l k).writeE (k : Int) 64 = 0 := by
  rw [wrote_eq d l hn hs hc hd k (by omega)]
  unfold Dk.writeE
  simp only [hd, hn, hs, hc]
  rw [show atE false (k : Int) 40 = 0 from by unfold atE; rw [if_neg (by decide), if_neg (by omega)]]
  decide

/-- The disk of the law, when both lists are written and the power has gone. -/
def sure0 : Dk := { n := 40, sz := 64, sure := fun _ => List.replicate 64 0, dirty := fun _ => none, cut := -1, dead := false }
theorem sure0_eq : Dk.new 40 64 = sure0 := rfl
def sure1 (a : List UInt8) : Dk := (wrote sure0 a a.length).flush
def sure2 (a b : List UInt8) : Dk := wrote (sure1 a) b b.length

theorem rank_all {dirty : Nat → Option (List UInt8)} {i : Nat} (h : ∀ j, j < i → (dirty j).isSome = true) : rank dirty i = i := by
  unfold rank dirtyList
  rw [List.filter_eq_self.2 (fun j hj => h j (List.mem_range.1 hj)), List.length_range]

theorem sure1_eq (a : List UInt8) (ha : a.length ≤ 40) : sure1 a = { n := 40, sz := 64, sure := fun i => if i < a.length then List.replicate 64 (a.getD i 0) else List.replicate 64 0, dirty := fun _ => none, cut := -1, dead := false } := by
  unfold sure1
  rw [wrote_eq sure0 a rfl rfl rfl rfl _ ha]
  rw [Dk.flush, if_neg (by show ¬ (false = true); decide), if_neg (by show ¬ ((-1 : Int) = 0); decide)]
  unfold Dk.settle Dk.power sure0
  rw [Dk.mk.injEq]
  refine ⟨rfl, rfl, ?_, rfl, rfl, rfl⟩
  funext i
  by_cases h : i < a.length
  · simp only [if_pos h]
  · simp only [if_neg h]

theorem sure2_eq (a b : List UInt8) (ha : a.length ≤ 40) (hb : b.length ≤ 40) : sure2 a b = { n := 40, sz := 64, sure := fun i => if i < a.length then List.replicate 64 (a.getD i 0) else List.replicate 64 0, dirty := fun i => if i < b.length then some (List.replicate 64 (b.getD i 0)) else none, cut := -1, dead := false } := by
  unfold sure2
  rw [sure1_eq a ha, wrote_eq _ b rfl rfl rfl rfl _ hb]

/-- A sector behind the crash. -/
theorem sure_last (a b : List UInt8) (keep : Nat) (torn at_ : Int) (ha : a.length ≤ 40) (hb : b.length ≤ 40) (i : Nat) :
    ((sure2 a b).crash keep torn at_).last i = if i < b.length then crashG keep torn (min (max at_ 0) 64).toNat i (List.replicate 64 (if i < a.length then a.getD i 0 else 0)) (List.replicate 64 (b.getD i 0)) else List.replicate 64 (if i < a.length then a.getD i 0 else 0) := by
  rw [sure2_eq a b ha hb]
  unfold Dk.last Dk.crash Dk.settle
  simp only [Option.getD_none]
  have e1 : (if i < a.length then List.replicate 64 (a.getD i 0) else List.replicate 64 0) = List.replicate 64 (if i < a.length then a.getD i 0 else 0) := by split <;> rfl
  by_cases h : i < b.length
  · simp only [if_pos h]
    rw [e1, rank_all (fun j hj => by simp [show j < b.length by omega])]
    rfl
  · simp only [if_neg h]
    exact e1


def oldB (a : List UInt8) (i : Nat) : UInt8 := if i < a.length then a.getD i 0 else 0
def nB (b : List UInt8) (keep : Nat) (torn at_ : Int) (i : Nat) : Nat := if i < b.length then (if (i : Int) = torn then (min (max at_ 0) 64).toNat else if keep.testBit i then 64 else 0) else 0

theorem rep_get (n k : Nat) (h : k < n) (c : UInt8) : (bv (List.replicate n c))[k]? = some (.int .u8 (c.toNat : Int)) := by
  rw [bv_get _ k (by simp; exact h)]; simp

theorem crashG_get (keep : Nat) (torn : Int) (t i k : Nat) (x y : UInt8) (hk : k < 64) (ht : t ≤ 64) (hi : i < 64) :
    (bv (crashG keep torn t i (List.replicate 64 x) (List.replicate 64 y)))[k]? = some (.int .u8 (((if k < (if (i : Int) = torn then t else if keep.testBit i then 64 else 0) then y else x) : UInt8).toNat : Int)) := by
  have hm : i % 64 = i := Nat.mod_eq_of_lt hi
  unfold crashG
  rw [hm]
  by_cases h1 : (i : Int) = torn
  · rw [if_pos h1, if_pos h1, List.take_replicate, List.drop_replicate, Nat.min_eq_left ht]
    by_cases h2 : k < t
    · rw [if_pos h2, bv_get _ k (by simp; omega), List.getElem_append_left (by simp; exact h2)]
      simp
    · rw [if_neg h2, bv_get _ k (by simp; omega), List.getElem_append_right (by simp; omega)]
      simp
  · rw [if_neg h1, if_neg h1]
    by_cases h3 : keep.testBit i = true
    · rw [if_pos h3, if_pos h3, if_pos hk]; exact rep_get 64 k hk y
    · rw [if_neg h3, if_neg h3, if_neg (by omega)]; exact rep_get 64 k hk x

/-- What the law's sector holds. -/
theorem sure_get (a b : List UInt8) (keep : Nat) (torn at_ : Int) (ha : a.length ≤ 40) (hb : b.length ≤ 40) (i k : Nat) (hi : i < 40) (hk : k < 64) (n : Nat)
    (hn : n = nB b keep torn at_ i) :
    (bv (((sure2 a b).crash keep torn at_).last i))[k]? = some (.int .u8 (((if k < n then b.getD i 0 else oldB a i) : UInt8).toNat : Int)) := by
  rw [sure_last a b keep torn at_ ha hb, hn]
  unfold nB oldB
  by_cases h : i < b.length
  · rw [if_pos h, if_pos h, crashG_get keep torn _ i k _ _ hk (by omega) (by omega)]
  · rw [if_neg h, if_neg h, if_neg (Nat.not_lt_zero k)]; exact rep_get 64 k hk _

/-- The loops that write. -/
structure WroteInv (w0 wr : World) (b sb mb : Nat) (d : Dk) (l : List UInt8) (k : Nat) : Prop where
  d : DkAt wr No b sb mb (wrote d l k)
  mod : Mod No w0 wr
structure AfterInv (w0 wr : World) (b sb mb : Nat) (d : Dk) : Prop where
  d : DkAt wr No b sb mb d
  mod : Mod No w0 wr


set_option maxRecDepth 100000 in
set_option maxHeartbeats 8000000 in
theorem sure_any (aa ba : Option Addr) (la ca lb cb : Nat) (a b : List UInt8) (keep : Nat) (torn at_ : Int) (w : World) (hla : a.length = la) (hlb : b.length = lb) (hA : In w aa la (bv a)) (hB : In w ba lb (bv b)) (hkp : keep < 18446744073709551616) :
    Calls Try.prog 4 #[.slice aa la ca, .slice ba lb cb, .int .u64 (keep : Int), .int .i64 torn, .int .i64 at_] w fun e w' => e = .returned (.bool true) ∧ Mod No w w' := by
  subst hla hlb
  have HA := Lib.hid hA
  have HB := Lib.hid hB
  have HK := Lib.hid known3_any
  clear hA hB
  refine calls_hide fun R hR => ?_
  rcases Nat.lt_or_ge 40 a.length with h1 | h1
  · have h1' : (40 : Int) < (a.length : Int) := by omega
    go_enter Try.func4, Try.ntmps4
    go_wp2_with (go_at_call 7; refine (HK.out _).mono ?_; rintro e w1 ⟨rfl, hm1⟩; have M1 := Lib.hid hm1; clear hm1)
    exact fin hR ⟨rfl, M1.out⟩
  · rcases Nat.lt_or_ge 40 b.length with h2 | h2
    · have h2' : (40 : Int) < (b.length : Int) := by omega
      go_enter Try.func4, Try.ntmps4
      go_wp2_with (go_at_call 7; refine (HK.out _).mono ?_; rintro e w1 ⟨rfl, hm1⟩; have M1 := Lib.hid hm1; clear hm1)
      exact fin hR ⟨rfl, M1.out⟩
    · have h1' : (a.length : Int) ≤ 40 := by omega
      have h2' : (b.length : Int) ≤ 40 := by omega
      go_enter Try.func4, Try.ntmps4
      go_wp2_with (go_at_call 7; refine (HK.out _).mono ?_; rintro e w1 ⟨rfl, hm1⟩; have M1 := Lib.hid hm1; clear hm1)
      refine (disk_new No 40 64 w1 (fun _ f => f.elim)).mono ?_
      rintro e w2 ⟨bb, sb, mb, rfl, hb0, hsb0, hmb0, hd2, hm2⟩
      have hnew : w.heap.size ≤ bb ∧ w.heap.size ≤ mb ∧ w.heap.size ≤ sb := by have := M1.out.size; omega
      have hs2 : WroteInv w w2 bb sb mb sure0 a 0 := ⟨by rw [← sure0_eq]; exact hd2, M1.out.trans hm2⟩
      have S2 := Lib.hid hs2
      clear hd2 hm2 hs2
      go_wp2_with fail
      go_loopw [12] (fun i wr => ∃ k : Nat, k ≤ a.length ∧ i = .int .i64 k ∧ WroteInv w wr bb sb mb sure0 a k) (fun i _ => a.length - (intOf i).toNat)
      case atStart => exact ⟨0, by omega, rfl, S2.out⟩
      case round =>
        obtain ⟨k, hk, rfl, hinv⟩ := hrel
        have HI := Lib.hid hinv
        clear hinv
        by_cases hlt : k < a.length
        · obtain ⟨cbk, co, hca, hcell⟩ := (HA.out.keep HI.out.mod (fun _ _ _ f => f)).cell k hlt
          cases hca
          have hg : (bv a)[k]? = some (.int .u8 ((a.getD k 0).toNat : Int)) := by
            rw [bv_get _ k hlt]; simp [List.getD, hlt]
          rw [hg] at hcell
          have HE := Lib.hid (wrote_E sure0 a rfl rfl rfl rfl (k := k) (by omega))
          have hsucc : wrote sure0 a (k + 1) = (wrote sure0 a k).write (k : Int) (List.replicate 64 (a.getD k 0)) := rfl
          generalize a.getD k 0 = c at *
          have HFu := Lib.hid (full_any c wr)
          have HSU := Lib.hid hsucc
          have hk0 : (0 : Int) ≤ (k : Int) := Int.natCast_nonneg _
          have hk1 : (k : Int) < (a.length : Int) := by omega
          clear hg hsucc
          go_wp2_with fail
          refine HFu.out.mono ?_
          rintro e w2 ⟨g, rfl, hsl, hm2⟩
          have hW := write_any No No bb sb mb (wrote sure0 a k) (k : Int) (.slice (some ⟨g, 0, none⟩) 64 64) (List.replicate 64 c) w2 (HI.out.d.stay hm2) (by rw [List.length_replicate]; exact hsl) (by rw [List.length_replicate]; omega) (fun _ f => f.elim)
          rw [List.length_replicate, HE.out, ← HSU.out] at hW
          have M2 := Lib.hid hm2
          have HW := Lib.hid hW
          clear hsl hm2 hW hcell
          go_wp2_with fail
          refine HW.out.mono ?_
          rintro e w3 ⟨rfl, hd3, hm3⟩
          have D3 := Lib.hid hd3
          have M3 := Lib.hid hm3
          clear hd3 hm3
          go_wp2_with fail
          exact ⟨⟨k + 1, by omega, by go_num, D3.out, (HI.out.mod.trans M2.out).then M3.out (fun i hi e => own3_old hnew i hi (own2_own3 _ e))⟩, by simp [intOf]; omega⟩
        · have hkl : k = a.length := by omega
          subst hkl
          clear hk
          have hfe : (wrote sure0 a a.length).flushE = 0 := by rw [wrote_eq sure0 a rfl rfl rfl rfl _ h1]; rfl
          have HFE := Lib.hid hfe
          have D4 := Lib.hid HI.out.d
          have M4 := Lib.hid HI.out.mod
          clear hfe HI
          go_wp2_with fail
          refine (flush_any No bb sb mb _ wr D4.out).mono ?_
          rintro e w4 ⟨rfl, hd4, hm4⟩
          have hs4 : WroteInv w w4 bb sb mb (sure1 a) b 0 := ⟨hd4, M4.out.then hm4 (own3_old hnew)⟩
          have S4 := Lib.hid hs4
          have SE := Lib.hid (sure1_eq a h1)
          clear hd4 hm4 hs4 D4 M4 HFE
          go_wp2_with fail
          go_loopw [13] (fun i wr => ∃ k : Nat, k ≤ b.length ∧ i = .int .i64 k ∧ WroteInv w wr bb sb mb (sure1 a) b k) (fun i _ => b.length - (intOf i).toNat)
          case atStart => exact ⟨0, by omega, rfl, S4.out⟩
          case round =>
            obtain ⟨k, hk, rfl, hinv⟩ := hrel
            have HI := Lib.hid hinv
            clear hinv
            by_cases hlt : k < b.length
            · obtain ⟨cbk, co, hca, hcell⟩ := (HB.out.keep HI.out.mod (fun _ _ _ f => f)).cell k hlt
              cases hca
              have hg : (bv b)[k]? = some (.int .u8 ((b.getD k 0).toNat : Int)) := by
                rw [bv_get _ k hlt]; simp [List.getD, hlt]
              rw [hg] at hcell
              have HE := Lib.hid (wrote_E (sure1 a) b (by rw [SE.out]) (by rw [SE.out]) (by rw [SE.out]) (by rw [SE.out]) (k := k) (by omega))
              have hsucc : wrote (sure1 a) b (k + 1) = (wrote (sure1 a) b k).write (k : Int) (List.replicate 64 (b.getD k 0)) := rfl
              generalize b.getD k 0 = c at *
              have HFu := Lib.hid (full_any c wr)
              have HSU := Lib.hid hsucc
              have hk0 : (0 : Int) ≤ (k : Int) := Int.natCast_nonneg _
              have hk1 : (k : Int) < (b.length : Int) := by omega
              clear hg hsucc
              go_wp2_with fail
              refine HFu.out.mono ?_
              rintro e w2 ⟨g, rfl, hsl, hm2⟩
              have hW := write_any No No bb sb mb (wrote (sure1 a) b k) (k : Int) (.slice (some ⟨g, 0, none⟩) 64 64) (List.replicate 64 c) w2 (HI.out.d.stay hm2) (by rw [List.length_replicate]; exact hsl) (by rw [List.length_replicate]; omega) (fun _ f => f.elim)
              rw [List.length_replicate, HE.out, ← HSU.out] at hW
              have M2 := Lib.hid hm2
              have HW := Lib.hid hW
              clear hsl hm2 hW hcell
              go_wp2_with fail
              refine HW.out.mono ?_
              rintro e w3 ⟨rfl, hd3, hm3⟩
              have D3 := Lib.hid hd3
              have M3 := Lib.hid hm3
              clear hd3 hm3
              go_wp2_with fail
              exact ⟨⟨k + 1, by omega, by go_num, D3.out, (HI.out.mod.trans M2.out).then M3.out (fun i hi e => own3_old hnew i hi (own2_own3 _ e))⟩, by simp [intOf]; omega⟩
            · have hkl : k = b.length := by omega
              subst hkl
              clear hk
              have D5 := Lib.hid HI.out.d
              have M5 := Lib.hid HI.out.mod
              clear HI
              go_wp2_with fail
              refine (crash_any No bb sb mb _ keep torn at_ wr D5.out hkp (fun _ f => f.elim)).mono ?_
              rintro e w6 ⟨rfl, hd6, hm6⟩
              have hs6 : AfterInv w w6 bb sb mb ((sure2 a b).crash keep torn at_) := ⟨hd6, M5.out.then hm6 (own3_old hnew)⟩
              have hgen := sure_get a b keep torn at_ h1 h2
              have hfl : ((sure2 a b).crash keep torn at_).n = 40 ∧ ((sure2 a b).crash keep torn at_).sz = 64 ∧ ((sure2 a b).crash keep torn at_).dead = false := by rw [sure2_eq a b h1 h2]; exact ⟨rfl, rfl, rfl⟩
              have S6 := Lib.hid hs6
              clear hd6 hm6 hs6 D5
              generalize (sure2 a b).crash keep torn at_ = d5 at *
              have HGE := Lib.hid hgen
              obtain ⟨hf1, hf2, hf3⟩ := hfl
              have F1 := Lib.hid hf1
              have F2 := Lib.hid hf2
              have F3 := Lib.hid hf3
              clear hgen hf1 hf2 hf3 M5
              go_wp2_with fail
              go_loopw [14] (fun i wr => ∃ k : Nat, k ≤ 40 ∧ i = .int .i64 k ∧ AfterInv w wr bb sb mb d5) (fun i _ => 40 - (intOf i).toNat)
              case atStart => exact ⟨0, by omega, rfl, S6.out⟩
              case round =>
                obtain ⟨i, hi, rfl, hinv⟩ := hrel
                have HI := Lib.hid hinv
                clear hinv
                by_cases hlt : i < 40
                · have hi0 : (0 : Int) ≤ (i : Int) := Int.natCast_nonneg _
                  have hi1 : (i : Int) < 40 := by omega
                  have HRd := Lib.hid (read_ok (i := (i : Int)) (n := 64) (L := d5.last i) HI.out.d (by rw [F3.out, F1.out]; unfold atE; rw [if_neg (by decide), if_neg (by omega)]) F2.out (by rw [Int.toNat_natCast]))
                  obtain ⟨t, ht⟩ : ∃ t : Nat, min (max at_ 0) 64 = (t : Int) := Int.eq_ofNat_of_zero_le (by omega)
                  have ht2 : (min (max at_ 0) 64).toNat = t := by omega
                  have HT := Lib.hid ht
                  have HT2 := Lib.hid ht2
                  clear ht ht2
                  have ht := HT.out
                  go_upto_if 73 with fail
                  go_cut [15] from 66 to 144 (fun o wx => wr = wx ∧ o = .int .u8 ((oldB a i).toNat : Int))
                  case first =>
                    by_cases hia : i < a.length
                    · obtain ⟨ab, ao, haa, hac⟩ := (HA.out.keep HI.out.mod (fun _ _ _ f => f)).cell i hia
                      cases haa
                      rw [show (bv a)[i]? = some (.int .u8 ((a.getD i 0).toNat : Int)) from by rw [bv_get _ i hia]; simp [List.getD, hia]] at hac
                      have hia' : (i : Int) < (a.length : Int) := by omega
                      have HOB := Lib.hid (show oldB a i = a.getD i 0 from if_pos hia)
                      generalize a.getD i 0 = ov at *
                      go_wp2_with fail
                      go_meet
                      exact ⟨rfl, by rw [HOB.out]⟩
                    · have hia' : (a.length : Int) ≤ (i : Int) := by omega
                      have HOB := Lib.hid (show oldB a i = 0 from if_neg hia)
                      go_wp2_with fail
                      go_meet
                      exact ⟨rfl, by rw [HOB.out]; rfl⟩
                  case rest =>
                    obtain ⟨rfl, rfl⟩ := hcut
                    go_upto_region 23 with fail
                    go_cut [16, 88] from 66 to 144 (fun n c wx => wr = wx ∧ n = .int .i64 0 ∧ c = .bool (decide (i < b.length) && keep.testBit i))
                    case first =>
                      by_cases hib : i < b.length
                      · have hib' : (i : Int) < (b.length : Int) := by omega
                        have hbit' : (bits BinOp.and IntKind.u64 ((keep : Int) / 2 ^ i) 1 == 1) = keep.testBit i := bit_is keep i hkp
                        have HD := Lib.hid (show (decide (i < b.length) && keep.testBit i) = keep.testBit i from by simp [hib])
                        go_wp2_with fail
                        go_meet
                        exact ⟨rfl, rfl, by rw [HD.out]⟩
                      · have hib' : (b.length : Int) ≤ (i : Int) := by omega
                        have HD := Lib.hid (show (decide (i < b.length) && keep.testBit i) = false from by simp [hib])
                        go_wp2_with fail
                        go_meet
                        exact ⟨rfl, rfl, by rw [HD.out]⟩
                    case rest =>
                      obtain ⟨rfl, rfl, rfl⟩ := hcut
                      have HP := Lib.hid (show nB b keep torn at_ i = if (decide (i < b.length) && decide ((i : Int) = torn)) = true then t else if (decide (i < b.length) && keep.testBit i) = true then 64 else 0 from by unfold nB; rw [HT2.out]; by_cases h1 : i < b.length <;> by_cases h2 : (i : Int) = torn <;> cases keep.testBit i <;> simp [h1, h2])
                      generalize (decide (i < b.length) && keep.testBit i) = p at *
                      go_upto_if 88 with fail
                      go_cut [16] from 66 to 144 (fun n wx => wr = wx ∧ n = .int .i64 ((if p = true then 64 else 0 : Nat) : Int))
                      case first =>
                        cases p
                        · go_wp2_with fail
                          go_meet
                          exact ⟨rfl, rfl⟩
                        · go_wp2_with fail
                          go_meet
                          exact ⟨rfl, rfl⟩
                      case rest =>
                        obtain ⟨rfl, rfl⟩ := hcut
                        generalize (if p = true then 64 else 0 : Nat) = n1 at *
                        go_upto_region 25 with fail
                        go_cut [97] from 66 to 144 (fun c wx => wr = wx ∧ c = .bool (decide (i < b.length) && decide ((i : Int) = torn)))
                        case first =>
                          by_cases hib : i < b.length
                          · have hib' : (i : Int) < (b.length : Int) := by omega
                            have HD := Lib.hid (show (decide (i < b.length) && decide ((i : Int) = torn)) = ((i : Int) == torn) from by simp [hib]; rfl)
                            go_wp2_with fail
                            go_meet
                            exact ⟨rfl, by rw [HD.out]⟩
                          · have hib' : (b.length : Int) ≤ (i : Int) := by omega
                            have HD := Lib.hid (show (decide (i < b.length) && decide ((i : Int) = torn)) = false from by simp [hib])
                            go_wp2_with fail
                            go_meet
                            exact ⟨rfl, by rw [HD.out]⟩
                        case rest =>
                          obtain ⟨rfl, rfl⟩ := hcut
                          generalize (decide (i < b.length) && decide ((i : Int) = torn)) = q2 at *
                          go_upto_if 97 with fail
                          go_cut [16] from 66 to 144 (fun n wx => wr = wx ∧ n = .int .i64 (nB b keep torn at_ i : Int))
                          case first =>
                            cases q2
                            · have HN := Lib.hid (show nB b keep torn at_ i = n1 from by rw [HP.out]; rfl)
                              go_wp2_with fail
                              go_meet
                              exact ⟨rfl, by rw [HN.out]⟩
                            · have HN := Lib.hid (show nB b keep torn at_ i = t from by rw [HP.out]; rfl)
                              go_wp2_with fail
                              go_meet
                              exact ⟨rfl, by rw [HN.out]⟩
                          case rest =>
                            obtain ⟨rfl, rfl⟩ := hcut
                            clear HP
                            have hget : ∀ k, k < 64 → (bv (d5.last i))[k]? = some (.int .u8 (((if k < nB b keep torn at_ i then b.getD i 0 else oldB a i) : UInt8).toNat : Int)) := fun k hk => HGE.out i k hlt hk _ rfl
                            have hbl : 0 < nB b keep torn at_ i → i < b.length := fun h => by
                              by_cases hb : i < b.length
                              · exact hb
                              · unfold nB at h; rw [if_neg hb] at h; omega
                            have HBL := Lib.hid hbl
                            have hbcell : i < b.length → ∃ c o, ba = some ⟨c, o, none⟩ ∧ wr.cell? ⟨c, o + i, none⟩ = some (.int .u8 ((b.getD i 0).toNat : Int)) := fun hb => by
                              obtain ⟨c, o, h1, h2⟩ := (HB.out.keep HI.out.mod (fun _ _ _ f => f)).cell i hb
                              refine ⟨c, o, h1, ?_⟩
                              rw [show (bv b)[i]? = some (.int .u8 ((b.getD i 0).toNat : Int)) from by rw [bv_get _ i hb]; simp [List.getD, hb]] at h2
                              exact h2
                            have HBC := Lib.hid hbcell
                            have hib2 : i < b.length → (i : Int) < (b.length : Int) := fun h => by omega
                            have HIB := Lib.hid hib2
                            clear hbl hbcell hib2
                            generalize nB b keep torn at_ i = N at *
                            generalize oldB a i = old at *
                            generalize b.getD i 0 = bi at *
                            have HGT := Lib.hid hget
                            clear hget
                            go_wp2_with fail
                            refine HRd.out.mono ?_
                            rintro e w7 ⟨g, q, rfl, _, hc7, hm7, _⟩
                            have HC7 := Lib.hid hc7
                            have M7 := Lib.hid hm7
                            have S7 := Lib.hid (show AfterInv w w7 bb sb mb d5 from ⟨HI.out.d.stay hm7, HI.out.mod.trans hm7⟩)
                            clear hc7 hm7
                            go_wp2_with fail
                            go_loopw [19] (fun j wi => ∃ k : Nat, k ≤ 64 ∧ j = .int .i64 k ∧ Mod No w7 wi ∧ AfterInv w wi bb sb mb d5 ∧ ∀ j u, (bv (d5.last i))[j]? = some u → wi.cell? ⟨g, j, none⟩ = some u) (fun j _ => 64 - (intOf j).toNat)
                            case atStart => exact ⟨0, by omega, rfl, Mod.refl No _, S7.out, HC7.out⟩
                            case round =>
                              obtain ⟨k, hk, rfl, hmi, hinv, hyc⟩ := hrel
                              have MI := Lib.hid hmi
                              have S8 := Lib.hid hinv
                              have HY := Lib.hid hyc
                              clear hmi hinv hyc
                              by_cases hlk : k < 64
                              · have hyk := HY.out k _ (HGT.out k hlk)
                                have hk0 : (0 : Int) ≤ (k : Int) := Int.natCast_nonneg _
                                have hk1 : (k : Int) < 64 := by omega
                                by_cases hkt : k < N
                                · have hkn : decide ((k : Int) < (N : Int)) = true := decide_eq_true (by omega)
                                  have hkn2 : decide ((N : Int) ≤ (k : Int)) = false := decide_eq_false (by omega)
                                  rw [if_pos hkt] at hyk
                                  have hib := HBL.out (by omega)
                                  have hib' := HIB.out hib
                                  obtain ⟨c, o, rfl, hbc⟩ := HBC.out hib
                                  have hbi := MI.out.cell (M7.out.cell hbc (fun f => f)) (fun f => f)
                                  have hkm : decide (k < N) = true := decide_eq_true hkt
                                  have hkm2 : decide (N ≤ k) = false := decide_eq_false (by omega)
                                  clear hbc hib hkt
                                  go_wp2_with fail
                                  go_quiet (fail)
                                  go_wp2_with fail
                                  exact ⟨⟨k + 1, by omega, by go_num, MI.out.drewN _, ⟨S8.out.d.stay ((Mod.refl No _).drewN _), S8.out.mod.drewN _⟩, HY.out⟩, by simp [intOf]; omega⟩
                                · have hkn : decide ((k : Int) < (N : Int)) = false := decide_eq_false (by omega)
                                  have hkn2 : decide ((N : Int) ≤ (k : Int)) = true := decide_eq_true (by omega)
                                  rw [if_neg hkt] at hyk
                                  have hkm : decide (k < N) = false := decide_eq_false hkt
                                  have hkm2 : decide (N ≤ k) = true := decide_eq_true (by omega)
                                  clear hkt
                                  go_wp2_with fail
                                  go_quiet (fail)
                                  go_wp2_with fail
                                  exact ⟨⟨k + 1, by omega, by go_num, MI.out.drewN _, ⟨S8.out.d.stay ((Mod.refl No _).drewN _), S8.out.mod.drewN _⟩, HY.out⟩, by simp [intOf]; omega⟩
                              · have hk2 : k = 64 := by omega
                                subst hk2
                                clear hk
                                go_upto_region 18 with fail
                                clear HGT HBL HBC HIB HGE HC7 S7 HRd MI HY
                                go_wp2_with fail
                                exact ⟨⟨i + 1, by omega, by go_num, S8.out⟩, by go_light; simp only [intOf]; omega⟩
                · have hk2 : i = 40 := by omega
                  subst hk2
                  have M9 := Lib.hid HI.out.mod
                  clear HI hi
                  go_wp2_with fail
                  exact fin hR ⟨rfl, M9.out⟩

theorem sure_walk {w : World} (aa : Option Addr) (la ca : Nat) (za : List Int) (ha : InRow .u8 w aa la ca za) (ba : Option Addr) (lb cb : Nat) (zb : List Int) (hb : InRow .u8 w ba lb cb zb)
    (keep : Int) (hk : (Lit.int .u64 keep).wf = true) (torn : Int) (_ : (Lit.int .i64 torn).wf = true) (at_ : Int) (_ : (Lit.int .i64 at_).wf = true) :
    Calls Try.prog 4 #[.slice aa la ca, .slice ba lb cb, .int .u64 keep, .int .i64 torn, .int .i64 at_] w fun e w' => e = .returned (.bool true) ∧ Mod No w w' := by
  obtain ⟨a, hla, hA⟩ := in_bytes ha
  obtain ⟨b, hlb, hB⟩ := in_bytes hb
  obtain ⟨k, rfl, hk2⟩ := nat_of_u64 keep hk
  exact sure_any aa ba la ca lb cb a b k torn at_ w hla hlb hA hB hk2

end Go.Proofs.Ytjmnpfbinjlegaa
