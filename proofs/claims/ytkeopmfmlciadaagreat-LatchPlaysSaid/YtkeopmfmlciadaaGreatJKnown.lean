/-
  Layer 5, the laws: known. No statement is proved here; no condition.
-/
import Derived.Test.YtkeopmfmlciadaaGreatJStore
import Derived.Test.YtkeopmfmlciadaaGreatJBase
namespace Go.Proofs.YtkeopmfmlciadaaGreat
open Go.RowKit

/-- The laws' keys. -/
def keyT : Nat → List UInt8
  | 0 => [97]
  | 1 => [97, 47, 98]
  | 2 => []
  | 3 => [98]
  | 4 => [97, 47]
  | 5 => [122, 122]
  | _ => [97, 47, 99]

def keyOfN (k : Nat) : List UInt8 := keyT (k % 7)

set_option maxRecDepth 100000 in
set_option maxHeartbeats 4000000 in
theorem key5_any (k : Nat) (hk : k < 256) (w : World) :
    Calls Tryz.prog 20 #[.int .u8 (k : Int)] w fun e w' => e = .returned (.string ⟨(keyOfN k).toArray⟩) ∧ Mod No w w' := by
  refine calls_hide fun R hR => ?_
  obtain ⟨r, hr⟩ : ∃ r, r = k % 7 := ⟨_, rfl⟩
  have hrI : (k : Int) % 7 = (r : Int) := by omega
  have h7 : r = 0 ∨ r = 1 ∨ r = 2 ∨ r = 3 ∨ r = 4 ∨ r = 5 ∨ r = 6 := by omega
  have HE := Lib.hid (show keyOfN k = keyT r by unfold keyOfN; rw [hr])
  clear hr
  rcases h7 with rfl | rfl | rfl | rfl | rfl | rfl | rfl
  all_goals
    rw [HE.out] at hR
    clear HE
    go_enter Tryz.func20, Tryz.ntmps20
    go_wp2_with fail
    exact fin hR ⟨rfl, (Mod.refl No w).alloc _⟩

/-- The laws' values. -/
def valT (i n : Nat) : List UInt8 := (List.range n).map fun j => UInt8.ofNat (13 * i + j)

theorem valT_len (i n : Nat) : (valT i n).length = n := by simp [valT]

def valC (i n j : Nat) : List UInt8 := valT i j ++ List.replicate (n - j) 0

theorem valC_succ (i n j : Nat) (h : j < n) : (bv (valC i n j)).toArray.setIfInBounds j (.int .u8 (((UInt8.ofNat (13 * i + j)).toNat : Nat) : Int)) = (bv (valC i n (j + 1))).toArray := by
  rw [List.setIfInBounds_toArray]
  congr 1
  unfold valC
  rw [show n - j = (n - (j + 1)) + 1 by omega, List.replicate_succ, bv_append, bv_append]
  have hl : (bv (valT i j)).length = j := by simp [valT]
  rw [List.set_append_right _ _ (by omega), hl, Nat.sub_self]
  have : valT i (j + 1) = valT i j ++ [UInt8.ofNat (13 * i + j)] := by
    unfold valT
    rw [List.range_succ, List.map_append]; rfl
  rw [this, bv_append]
  simp [bv]

set_option maxRecDepth 100000 in
set_option maxHeartbeats 4000000 in
theorem value5_any (i n : Nat) (hi : i ≤ 100000) (hn : n ≤ 100000) (w : World) :
    Calls Tryz.prog 21 #[.int .i64 (i : Int), .int .i64 (n : Int)] w fun e w' => e = .returned (.string ⟨(valT i n).toArray⟩) ∧ Mod No w w' := by
  refine calls_hide fun R hR => ?_
  obtain ⟨g, hg⟩ : ∃ g, g = w.heap.size := ⟨_, rfl⟩
  obtain ⟨ZB, hZB⟩ : ∃ ZB : Array Value, ZB = (bv (valC i n 0)).toArray := ⟨_, rfl⟩
  have hmk : (Instr.makeSlice 45 (.int .i64 (n : Int)) (.int .i64 (n : Int))).run Tryz.prog w = .ok (.slice (some ⟨g, 0, none⟩) n n) (w.alloc (.cells ZB 5)) := by
    rw [hZB, hg, show valC i n 0 = List.replicate n 0 by simp [valC, valT], ← madeBytes]
    exact run_make_row' (P := Tryz.prog) 45 5 (.int .u8 0) 1 Tryz.underlying45 info_u8 rfl .i64 .i64 n (by omega) (by omega) w
  obtain ⟨w2, hw2⟩ : ∃ w2, w2 = w.alloc (.cells ZB 5) := ⟨_, rfl⟩
  rw [← hw2] at hmk
  have HG2 := Lib.hid (show w2.heap[g]? = some (.cells (bv (valC i n 0)).toArray 5 (0, 0)) by rw [hw2, hg, ← hZB]; exact heap_alloc_new w _)
  have HM2 := Lib.hid (show Mod No w w2 by rw [hw2]; exact (Mod.refl No w).alloc _)
  have HGG := Lib.hid hg
  clear hw2 hZB hg
  go_enter Tryz.func21, Tryz.ntmps21
  go_wp2_with fail
  go_loopw [6] (fun q ws => ∃ j : Nat, j ≤ n ∧ q = .int .i64 j ∧ ws.heap[g]? = some (.cells (bv (valC i n j)).toArray 5 (0, 0)) ∧ Mod (· = g) w2 ws) (fun q _ => n - (intOf q).toNat)
  case atStart => exact ⟨0, by omega, rfl, HG2.out, Mod.refl _ _⟩
  case round =>
    obtain ⟨j, hj, rfl, hgj, hmj⟩ := hrel
    have hj0 : (0 : Int) ≤ (j : Int) := Int.natCast_nonneg _
    by_cases hjl : j < n
    · have hj1 : (j : Int) < (n : Int) := by omega
      have hcv : (bv (valC i n j)).toArray[j]? = some (.int .u8 0) := by
        rw [List.getElem?_toArray, bv_get?]
        unfold valC
        rw [List.getElem?_append_right (by simp [valT]), List.getElem?_replicate, if_pos (by simp [valT]; omega)]
        rfl
      have cg := cell_ofA hgj hcv
      have fg := frozen_of j hgj
      have HGJ := Lib.hid hgj
      have HMJ := Lib.hid hmj
      have HVL := Lib.hid (show (((UInt8.ofNat (13 * i + j)).toNat : Nat) : Int) = (13 * (i : Int) + (j : Int)) % 256 by simp)
      clear hcv hgj hmj
      go_wp2_with fail
      rw [← HVL.out]
      exact ⟨⟨j + 1, by omega, by go_num, by rw [heap_setCell HGJ.out, valC_succ i n j hjl], HMJ.out.setCell (fun _ => rfl) _⟩, by go_light; simp only [intOf]; omega⟩
    · have hjn : j = n := by omega
      subst hjn
      have hall : valC i j j = valT i j := by simp [valC]
      rw [hall] at hgj
      have hcv := string_of (P := Tryz.prog) (src := 45) (dst := 9) (e := 5) (X := No) (e' := 5) (v := .slice (some ⟨g, 0, none⟩) j j) (l := valT i j) (w := wr) (by
        rw [valT_len]
        exact .inr ⟨g, 0, j, _, (0, 0), rfl, Nat.le_refl _, by unfold maxLen; omega, fun f => f, hgj, by simp [valT], fun q hq => by simp⟩) Tryz.underlying45 Tryz.underlying5 Tryz.underlying9
      have HM := Lib.hid (HM2.out.then hmj (fun q hq e => by have := HGG.out; have := e; omega))
      generalize hV : (⟨(valT i j).toArray⟩ : ByteArray) = V at *
      clear hgj hmj hall
      go_wp2_with fail
      exact fin hR ⟨rfl, HM.out⟩

end Go.Proofs.YtkeopmfmlciadaaGreat
namespace Go.Proofs.YtkeopmfmlciadaaGreat
open Go.RowKit Go.Sort

theorem str_cell {w : World} {X : Nat → Prop} {v : Value} {ls : List (List UInt8)} (h : Sl w X 9 v ls.length (ls.map encStr)) {k : Nat} (hk : k < ls.length) : ∃ b o c, v = .slice (some ⟨b, o, none⟩) ls.length c ∧ w.cell? ⟨b, o + k, none⟩ = some (.string ⟨ls[k].toArray⟩) := by
  obtain ⟨b, o, c, rfl, -⟩ := h.shape (by omega)
  have hc := h.cell (i := k) (by rw [List.length_map]; exact hk)
  dsimp only at hc
  rw [List.getElem?_map, List.getElem?_eq_getElem hk] at hc
  exact ⟨b, o, c, rfl, hc⟩

set_option maxRecDepth 100000 in
set_option maxHeartbeats 1000000 in
theorem strs_ok {w : World} {X Y : Nat → Prop} {v u : Value} {ls : List (List UInt8)} (h1 : Sl w X 9 v ls.length (ls.map encStr)) (h2 : Sl w Y 9 u ls.length (ls.map encStr)) (hl : ls.length ≤ 1000000000) :
    Calls Tryz.prog 32 #[v, u] w fun e w' => e = .returned (.bool true) ∧ Mod No w w' := by
  refine calls_hide fun R hR => ?_
  obtain ⟨a1, c1, rfl⟩ := h1.len
  obtain ⟨a2, c2, rfl⟩ := h2.len
  have H1 := Lib.hid h1
  have H2 := Lib.hid h2
  clear h1 h2
  go_enter Tryz.func32, Tryz.ntmps32
  go_wp2_with fail
  go_loopw [5] (fun q wr => ∃ k : Nat, k ≤ ls.length ∧ q = .int .i64 k ∧ Mod No w wr) (fun q _ => ls.length - (intOf q).toNat)
  case atStart => exact ⟨0, by omega, rfl, Mod.refl _ _⟩
  case round =>
    obtain ⟨k, hk, rfl, hmod⟩ := hrel
    have hk0 : (0 : Int) ≤ (k : Int) := Int.natCast_nonneg _
    by_cases hlt : k < ls.length
    · have hk1 : (k : Int) < (ls.length : Int) := by omega
      obtain ⟨b1, o1, k1, hv1, hc1⟩ := str_cell H1.out hlt
      obtain ⟨b2, o2, k2, hv2, hc2⟩ := str_cell H2.out hlt
      cases hv1
      cases hv2
      have hc1 := hmod.cell hc1 (fun f => f)
      have hc2 := hmod.cell hc2 (fun f => f)
      have HM := Lib.hid hmod
      generalize (⟨ls[k].toArray⟩ : ByteArray) = Z at *
      clear hmod
      go_wp2_with fail
      go_quiet (fail)
      go_wp2_with fail
      exact ⟨⟨k + 1, by omega, by go_num, HM.out.drewN _⟩, by go_light; simp only [intOf]; omega⟩
    · have hkn : k = ls.length := by omega
      subst hkn
      have HM := Lib.hid hmod
      clear hmod
      go_wp2_with fail
      exact fin hR ⟨rfl, HM.out⟩

theorem body_le2 {m : Nat} : ∀ {l : List (List UInt8)}, (∀ r ∈ l, r.length ≤ m) → (bodyB l).length ≤ (m + 4) * l.length
  | [], _ => by simp [bodyB]
  | r :: l, hr => by
    have h1 := hr r (by simp)
    have h2 := body_le2 (l := l) fun r' h' => hr r' (by simp [h'])
    have e : bodyB (r :: l) = recB r ++ bodyB l := by simp [bodyB]
    rw [e, List.length_append, List.length_cons, Nat.mul_succ]
    simp only [recB, List.length_append, be_len]
    omega

/-- known's map. -/
def kM : Mt := Mt.changes (fun _ => none) [⟨[97], [49], false⟩, ⟨[98], [50, 50], false⟩]

theorem kM_at (k : List UInt8) : kM k = if k = [98] then some [50, 50] else if k = [97] then some [49] else none := rfl

theorem kM_keys : KeysOfM kM [[97], [98]] := by
  refine ⟨by decide, fun k => ?_, by decide⟩
  rw [kM_at]
  by_cases h1 : k = [98]
  · subst h1; simp
  · by_cases h2 : k = [97]
    · subst h2; simp
    · simp [h1, h2]

theorem kM_mid : MidM kM := fun k v h => by
  rw [kM_at] at h
  split at h
  · rename_i e; cases h; subst e; decide
  · split at h
    · rename_i e; cases h; subst e; decide
    · cases h

theorem kM_fits : Fits 200 256 kM := fun ks hk => by
  rw [hk.unique kM_keys]
  have e : recsOf kM [[97], [98]] = [⟨[97], [49], false⟩, ⟨[98], [50, 50], false⟩] := rfl
  rw [e]
  have h1 := body_le2 (l := prB [⟨[97], [49], false⟩, ⟨[98], [50, 50], false⟩]) (m := 100) (fun r hr => by
    obtain ⟨p, hp, rfl⟩ := List.mem_map.1 hr
    have hpp : p.key.length ≤ 10 ∧ p.value.length ≤ 10 := by
      rcases List.mem_cons.1 hp with rfl | hp
      · decide
      · rcases List.mem_cons.1 hp with rfl | hp
        · decide
        · cases hp
    have := pairB_len p (by omega) (by omega)
    omega)
  have h2 : (prB [⟨[97], [49], false⟩, ⟨[98], [50, 50], false⟩]).length = 2 := rfl
  rw [h2] at h1
  omega

end Go.Proofs.YtkeopmfmlciadaaGreat
namespace Go.Proofs.YtkeopmfmlciadaaGreat
open Go.RowKit Go.Sort

theorem no_lt5 (w : World) : ∀ k, No k → k < w.heap.size := fun _ f => f.elim

theorem prs_two {w : World} {g : Nat} {p q : Pr} (hg : w.heap[g]? = some (.cells #[.string ⟨p.key.toArray⟩, .string ⟨p.value.toArray⟩, .bool p.gone, .string ⟨q.key.toArray⟩, .string ⟨q.value.toArray⟩, .bool q.gone] 32 (0, 0))) : Prs w No (some ⟨g, 0, none⟩) [p, q] :=
  ⟨fun i hi => by
    have hi2 : i < 2 := hi
    match i, hi2 with
    | 0, _ => exact ⟨g, 0, rfl, fun f => f, cell_of (i := 0) hg rfl, cell_of (i := 1) hg rfl, cell_of (i := 2) hg rfl⟩
    | 1, _ => exact ⟨g, 0, rfl, fun f => f, cell_of (i := 3) hg rfl, cell_of (i := 4) hg rfl, cell_of (i := 5) hg rfl⟩⟩

theorem kM_getb : getV kM [98] = .tuple #[.string ⟨#[50, 50]⟩, .bool true] := rfl
theorem kM_getc : getV kM [99] = .tuple #[.string ⟨#[]⟩, .bool false] := rfl

set_option maxRecDepth 100000 in
set_option maxHeartbeats 4000000 in
theorem known5_any (w : World) : Calls Tryz.prog 11 #[] w fun e w' => e = .returned (.bool true) ∧ Mod No w w' := by
  refine calls_hide fun R hR => ?_
  go_enter Tryz.func11, Tryz.ntmps11
  go_wp2_with fail
  with_reducible refine (disk_new No 200 256 w (no_lt5 w)).mono ?_
  rintro e w1 ⟨b, sb, mb, rfl, hb1, hb2, hb3, hd1, hm1⟩
  have HD1 := Lib.hid (And.intro hd1 (And.intro (And.intro hb1 (And.intro hb2 hb3)) hm1))
  clear hb1 hb2 hb3 hd1 hm1
  go_wp2_with fail
  with_reducible refine (Sto.first (w0 := w) (n := 200) (z := 256) (N := 200) (sz := 256) (by decide) (by decide) (by decide) (by decide) HD1.out.1 HD1.out.2.1 HD1.out.2.2).mono ?_
  rintro e w2 ⟨s, O, rfl, hs2, -, -⟩
  have HS2 := Lib.hid hs2
  clear hs2 HD1
  have m3 : Mod No w2 (w2.alloc (.cells #[.string ⟨#[97]⟩, .string ⟨#[49]⟩, .bool false, .string ⟨#[98]⟩, .string ⟨#[50, 50]⟩, .bool false] 32)) := (Mod.refl No w2).alloc _
  have HAP := (HS2.out.stay m3).apply (c := 2) (l := [⟨[97], [49], false⟩, ⟨[98], [50, 50], false⟩]) (prs_two (p := ⟨[97], [49], false⟩) (q := ⟨[98], [50, 50], false⟩) (heap_alloc_new w2 _)) (fun p hp => by
    rcases List.mem_cons.1 hp with rfl | hp
    · decide
    · rcases List.mem_cons.1 hp with rfl | hp
      · decide
      · cases hp) kM_mid kM_fits (by decide) (by decide) (by decide)
  have HAP : Calls Tryz.prog 14 #[.pointer (some ⟨s, 0, none⟩), .slice (some ⟨w2.heap.size, 0, none⟩) 2 2] (w2.alloc (.cells #[.string ⟨#[97]⟩, .string ⟨#[49]⟩, .bool false, .string ⟨#[98]⟩, .string ⟨#[50, 50]⟩, .bool false] 32)) fun e w' => e = .returned (.int .i64 0) ∧ ∃ O', Sto w w' 200 256 b s O' (0 + 2) kM (0 + 1) ∧ (∀ q, q < (w2.alloc (.cells #[.string ⟨#[97]⟩, .string ⟨#[49]⟩, .bool false, .string ⟨#[98]⟩, .string ⟨#[50, 50]⟩, .bool false] 32)).heap.size → O' q → O q) ∧ Mod O (w2.alloc (.cells #[.string ⟨#[97]⟩, .string ⟨#[49]⟩, .bool false, .string ⟨#[98]⟩, .string ⟨#[50, 50]⟩, .bool false] 32)) w' := HAP
  have HAP := Lib.hid HAP
  clear m3
  go_wp2_with fail
  with_reducible refine HAP.out.mono ?_
  rintro e w3 ⟨rfl, O3, hs3, -, -⟩
  have HS3 := Lib.hid hs3
  clear hs3 HAP HS2
  go_wp2_with fail
  with_reducible refine (HS3.out.reopen [[97], [98]] (fun k hk => (kM_keys.mem k).2 hk)).mono ?_
  rintro e w4 ⟨t, O4, rfl, hs4, -, -⟩
  have HS4 := Lib.hid hs4
  have hgb := hs4.get [98] (by decide)
  rw [kM_getb] at hgb
  have hgc := hs4.get [99] (by decide)
  rw [kM_getc] at hgc
  have HGB := Lib.hid hgb
  have HGC := Lib.hid hgc
  clear hs4 hgb hgc HS3
  go_wp2_with fail
  with_reducible refine HGB.out.mono ?_
  rintro e w5 ⟨rfl, h2⟩
  subst h2
  go_wp2_with fail
  with_reducible refine HGC.out.mono ?_
  rintro e w6 ⟨rfl, h2⟩
  subst h2
  clear HGB HGC
  go_wp2_with fail
  with_reducible refine (HS4.out.keys (by decide) [97]).mono ?_
  rintro e w7 ⟨v7, ks, rfl, hks, ho, hm7⟩
  obtain rfl := hks.unique kM_keys
  have hks2 := hks
  replace ho : w7.ownsRow w6.heap.size 9 1 v7 1 ([[97]].map encStr) := ho
  obtain ⟨a7, c7, rfl⟩ := own_len ho
  have HS7 := Lib.hid (HS4.out.stay hm7)
  have HO7 := Lib.hid (Sl.of_own (X := No) ho (fun _ _ f => f))
  have HKS := Lib.hid hks2
  clear hks hks2 ho hm7 HS4
  go_wp2_with fail
  have hw7 : Mod No w7 (w7.alloc (.cells #[.string ⟨#[97]⟩] 9)) := (Mod.refl No w7).alloc _
  have hOK := strs_ok (w := w7.alloc (.cells #[.string ⟨#[97]⟩] 9)) (X := No) (Y := No) (v := .slice a7 1 c7) (u := .slice (some ⟨w7.heap.size, 0, none⟩) 1 1) (ls := [[97]]) (HO7.out.keep hw7 (fun _ _ _ f => f.elim)) (.inr ⟨w7.heap.size, 0, 1, #[.string ⟨#[97]⟩], (0, 0), rfl, by decide, by decide, fun f => f, heap_alloc_new w7 _, by decide, fun i hi => by
    have hi2 : i < 1 := hi
    match i, hi2 with
    | 0, _ => rfl⟩) (by decide)
  have HOK := Lib.hid hOK
  clear hOK
  with_reducible refine HOK.out.mono ?_
  rintro e w8 ⟨rfl, hm8⟩
  have HS8 := Lib.hid ((HS7.out.stay hw7).stay hm8)
  clear hw7 hm8 HS7 HO7 HOK
  go_wp2_with fail
  have hsz := HS8.out.size kM_keys (by decide)
  have h5 : (([[97], [98]] : List (List UInt8)).map (wt kM)).sum = 5 := by decide
  rw [h5] at hsz
  have HSZ := Lib.hid hsz
  clear hsz h5
  with_reducible refine HSZ.out.mono ?_
  rintro e w9 ⟨rfl, hm9⟩
  have HS9 := Lib.hid (HS8.out.stay hm9)
  clear HS8 hm9 HSZ
  go_wp2_with fail
  with_reducible refine HS9.out.down.mono ?_
  rintro e w10 ⟨rfl, h2⟩
  subst h2
  go_wp2_with fail
  exact fin hR ⟨rfl, HS9.out.mod⟩

end Go.Proofs.YtkeopmfmlciadaaGreat
