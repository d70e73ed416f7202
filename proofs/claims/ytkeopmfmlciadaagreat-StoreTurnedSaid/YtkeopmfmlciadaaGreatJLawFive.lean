/-
  Layer 5, the laws: maps that give each key of a list its value; texts that came in. No statement is proved here; no condition.
-/
import Derived.Test.YtkeopmfmlciadaaGreatJStore
import Derived.Test.YtkeopmfmlciadaaGreatJBase
import Derived.Deep.Slices
import Derived.Deep.Fields
import Derived.ProofKit
import Derived.OpenShut
import Derived.ShutString
import Derived.ChangeOld
namespace Go.Proofs.YtkeopmfmlciadaaGreat
open Go.RowKit

/-- The laws' keys. -/
def keyT : Nat → List UInt8
  | 0 => [97]
  | 1 => [97, 47, 98]
  | 2 => []
  | 3 => [98]
  | 4 => [97, 47]
  | 5 => [122, 122]
  | _ => [97, 47, 99]

def keyOfN (k : Nat) : List UInt8 := keyT (k % 7)

set_option maxRecDepth 100000 in
set_option maxHeartbeats 4000000 in
theorem key5_any (k : Nat) (hk : k < 256) (w : World) :
    Calls Tryz.prog 20 #[.int .u8 (k : Int)] w fun e w' => e = .returned (.string ⟨(keyOfN k).toArray⟩) ∧ Mod No w w' := by
  refine calls_hide fun R hR => ?_
  obtain ⟨r, hr⟩ : ∃ r, r = k % 7 := ⟨_, rfl⟩
  have hrI : (k : Int) % 7 = (r : Int) := by omega
  have h7 : r = 0 ∨ r = 1 ∨ r = 2 ∨ r = 3 ∨ r = 4 ∨ r = 5 ∨ r = 6 := by omega
  have HE := Lib.hid (show keyOfN k = keyT r by unfold keyOfN; rw [hr])
  clear hr
  rcases h7 with rfl | rfl | rfl | rfl | rfl | rfl | rfl
  all_goals
    rw [HE.out] at hR
    clear HE
    go_enter Tryz.func20, Tryz.ntmps20
    go_wp2_with fail
    exact fin hR ⟨rfl, (Mod.refl No w).alloc _⟩

/-- The laws' values. -/
def valT (i n : Nat) : List UInt8 := (List.range n).map fun j => UInt8.ofNat (13 * i + j)

theorem valT_len (i n : Nat) : (valT i n).length = n := by simp [valT]

def valC (i n j : Nat) : List UInt8 := valT i j ++ List.replicate (n - j) 0

theorem valC_succ (i n j : Nat) (h : j < n) : (bv (valC i n j)).toArray.setIfInBounds j (.int .u8 (((UInt8.ofNat (13 * i + j)).toNat : Nat) : Int)) = (bv (valC i n (j + 1))).toArray := by
  rw [List.setIfInBounds_toArray]
  congr 1
  unfold valC
  rw [show n - j = (n - (j + 1)) + 1 by omega, List.replicate_succ, bv_append, bv_append]
  have hl : (bv (valT i j)).length = j := by simp [valT]
  rw [List.set_append_right _ _ (by omega), hl, Nat.sub_self]
  have : valT i (j + 1) = valT i j ++ [UInt8.ofNat (13 * i + j)] := by
    unfold valT
    rw [List.range_succ, List.map_append]; rfl
  rw [this, bv_append]
  simp [bv]

set_option maxRecDepth 100000 in
set_option maxHeartbeats 4000000 in
theorem value5_any (i n : Nat) (hi : i ≤ 100000) (hn : n ≤ 100000) (w : World) :
    Calls Tryz.prog 21 #[.int .i64 (i : Int), .int .i64 (n : Int)] w fun e w' => e = .returned (.string ⟨(valT i n).toArray⟩) ∧ Mod No w w' := by
  refine calls_hide fun R hR => ?_
  obtain ⟨g, hg⟩ : ∃ g, g = w.heap.size := ⟨_, rfl⟩
  obtain ⟨ZB, hZB⟩ : ∃ ZB : Array Value, ZB = (bv (valC i n 0)).toArray := ⟨_, rfl⟩
  have hmk : (Instr.makeSlice 45 (.int .i64 (n : Int)) (.int .i64 (n : Int))).run Tryz.prog w = .ok (.slice (some ⟨g, 0, none⟩) n n) (w.alloc (.cells ZB 5)) := by
    rw [hZB, hg, show valC i n 0 = List.replicate n 0 by simp [valC, valT], ← madeBytes]
    exact run_make_row' (P := Tryz.prog) 45 5 (.int .u8 0) 1 Tryz.underlying45 info_u8 rfl .i64 .i64 n (by omega) (by omega) w
  obtain ⟨w2, hw2⟩ : ∃ w2, w2 = w.alloc (.cells ZB 5) := ⟨_, rfl⟩
  rw [← hw2] at hmk
  have HG2 := Lib.hid (show w2.heap[g]? = some (.cells (bv (valC i n 0)).toArray 5 (0, 0)) by rw [hw2, hg, ← hZB]; exact heap_alloc_new w _)
  have HM2 := Lib.hid (show Mod No w w2 by rw [hw2]; exact (Mod.refl No w).alloc _)
  have HGG := Lib.hid hg
  clear hw2 hZB hg
  go_enter Tryz.func21, Tryz.ntmps21
  go_wp2_with fail
  go_loopw [6] (fun q ws => ∃ j : Nat, j ≤ n ∧ q = .int .i64 j ∧ ws.heap[g]? = some (.cells (bv (valC i n j)).toArray 5 (0, 0)) ∧ Mod (· = g) w2 ws) (fun q _ => n - (intOf q).toNat)
  case atStart => exact ⟨0, by omega, rfl, HG2.out, Mod.refl _ _⟩
  case round =>
    obtain ⟨j, hj, rfl, hgj, hmj⟩ := hrel
    have hj0 : (0 : Int) ≤ (j : Int) := Int.natCast_nonneg _
    by_cases hjl : j < n
    · have hj1 : (j : Int) < (n : Int) := by omega
      have hcv : (bv (valC i n j)).toArray[j]? = some (.int .u8 0) := by
        rw [List.getElem?_toArray, bv_get?]
        unfold valC
        rw [List.getElem?_append_right (by simp [valT]), List.getElem?_replicate, if_pos (by simp [valT]; omega)]
        rfl
      have cg := cell_ofA hgj hcv
      have fg := frozen_of j hgj
      have HGJ := Lib.hid hgj
      have HMJ := Lib.hid hmj
      have HVL := Lib.hid (show (((UInt8.ofNat (13 * i + j)).toNat : Nat) : Int) = (13 * (i : Int) + (j : Int)) % 256 by simp)
      clear hcv hgj hmj
      go_wp2_with fail
      rw [← HVL.out]
      exact ⟨⟨j + 1, by omega, by go_num, by rw [heap_setCell HGJ.out, valC_succ i n j hjl], HMJ.out.setCell (fun _ => rfl) _⟩, by go_light; simp only [intOf]; omega⟩
    · have hjn : j = n := by omega
      subst hjn
      have hall : valC i j j = valT i j := by simp [valC]
      rw [hall] at hgj
      have hcv := string_of (P := Tryz.prog) (src := 45) (dst := 9) (e := 5) (X := No) (e' := 5) (v := .slice (some ⟨g, 0, none⟩) j j) (l := valT i j) (w := wr) (by
        rw [valT_len]
        exact .inr ⟨g, 0, j, _, (0, 0), rfl, Nat.le_refl _, by unfold maxLen; omega, fun f => f, hgj, by simp [valT], fun q hq => by simp⟩) Tryz.underlying45 Tryz.underlying5 Tryz.underlying9
      have HM := Lib.hid (HM2.out.then hmj (fun q hq e => by have := HGG.out; have := e; omega))
      generalize hV : (⟨(valT i j).toArray⟩ : ByteArray) = V at *
      clear hgj hmj hall
      go_wp2_with fail
      exact fin hR ⟨rfl, HM.out⟩

end Go.Proofs.YtkeopmfmlciadaaGreat
namespace Go.Proofs.YtkeopmfmlciadaaGreat
open Go.RowKit Go.Sort

theorem str_cell {w : World} {X : Nat → Prop} {v : Value} {ls : List (List UInt8)} (h : Sl w X 9 v ls.length (ls.map encStr)) {k : Nat} (hk : k < ls.length) : ∃ b o c, v = .slice (some ⟨b, o, none⟩) ls.length c ∧ w.cell? ⟨b, o + k, none⟩ = some (.string ⟨ls[k].toArray⟩) := by
  obtain ⟨b, o, c, rfl, -⟩ := h.shape (by omega)
  have hc := h.cell (i := k) (by rw [List.length_map]; exact hk)
  dsimp only at hc
  rw [List.getElem?_map, List.getElem?_eq_getElem hk] at hc
  exact ⟨b, o, c, rfl, hc⟩

set_option maxRecDepth 100000 in
set_option maxHeartbeats 1000000 in
theorem strs_ok {w : World} {X Y : Nat → Prop} {v u : Value} {ls : List (List UInt8)} (h1 : Sl w X 9 v ls.length (ls.map encStr)) (h2 : Sl w Y 9 u ls.length (ls.map encStr)) (hl : ls.length ≤ 1000000000) :
    Calls Tryz.prog 32 #[v, u] w fun e w' => e = .returned (.bool true) ∧ Mod No w w' := by
  refine calls_hide fun R hR => ?_
  obtain ⟨a1, c1, rfl⟩ := h1.len
  obtain ⟨a2, c2, rfl⟩ := h2.len
  have H1 := Lib.hid h1
  have H2 := Lib.hid h2
  clear h1 h2
  go_enter Tryz.func32, Tryz.ntmps32
  go_wp2_with fail
  go_loopw [5] (fun q wr => ∃ k : Nat, k ≤ ls.length ∧ q = .int .i64 k ∧ Mod No w wr) (fun q _ => ls.length - (intOf q).toNat)
  case atStart => exact ⟨0, by omega, rfl, Mod.refl _ _⟩
  case round =>
    obtain ⟨k, hk, rfl, hmod⟩ := hrel
    have hk0 : (0 : Int) ≤ (k : Int) := Int.natCast_nonneg _
    by_cases hlt : k < ls.length
    · have hk1 : (k : Int) < (ls.length : Int) := by omega
      obtain ⟨b1, o1, k1, hv1, hc1⟩ := str_cell H1.out hlt
      obtain ⟨b2, o2, k2, hv2, hc2⟩ := str_cell H2.out hlt
      cases hv1
      cases hv2
      have hc1 := hmod.cell hc1 (fun f => f)
      have hc2 := hmod.cell hc2 (fun f => f)
      have HM := Lib.hid hmod
      generalize (⟨ls[k].toArray⟩ : ByteArray) = Z at *
      clear hmod
      go_wp2_with fail
      go_quiet (fail)
      go_wp2_with fail
      exact ⟨⟨k + 1, by omega, by go_num, HM.out.drewN _⟩, by go_light; simp only [intOf]; omega⟩
    · have hkn : k = ls.length := by omega
      subst hkn
      have HM := Lib.hid hmod
      clear hmod
      go_wp2_with fail
      exact fin hR ⟨rfl, HM.out⟩

theorem body_le2 {m : Nat} : ∀ {l : List (List UInt8)}, (∀ r ∈ l, r.length ≤ m) → (bodyB l).length ≤ (m + 4) * l.length
  | [], _ => by simp [bodyB]
  | r :: l, hr => by
    have h1 := hr r (by simp)
    have h2 := body_le2 (l := l) fun r' h' => hr r' (by simp [h'])
    have e : bodyB (r :: l) = recB r ++ bodyB l := by simp [bodyB]
    rw [e, List.length_append, List.length_cons, Nat.mul_succ]
    simp only [recB, List.length_append, be_len]
    omega

/-- known's map. -/
def kM : Mt := Mt.changes (fun _ => none) [⟨[97], [49], false⟩, ⟨[98], [50, 50], false⟩]

theorem kM_at (k : List UInt8) : kM k = if k = [98] then some [50, 50] else if k = [97] then some [49] else none := rfl

theorem kM_keys : KeysOfM kM [[97], [98]] := by
  refine ⟨by decide, fun k => ?_, by decide⟩
  rw [kM_at]
  by_cases h1 : k = [98]
  · subst h1; simp
  · by_cases h2 : k = [97]
    · subst h2; simp
    · simp [h1, h2]

theorem kM_mid : MidM kM := fun k v h => by
  rw [kM_at] at h
  split at h
  · rename_i e; cases h; subst e; decide
  · split at h
    · rename_i e; cases h; subst e; decide
    · cases h

theorem kM_fits : Fits 200 256 kM := fun ks hk => by
  rw [hk.unique kM_keys]
  have e : recsOf kM [[97], [98]] = [⟨[97], [49], false⟩, ⟨[98], [50, 50], false⟩] := rfl
  rw [e]
  have h1 := body_le2 (l := prB [⟨[97], [49], false⟩, ⟨[98], [50, 50], false⟩]) (m := 100) (fun r hr => by
    obtain ⟨p, hp, rfl⟩ := List.mem_map.1 hr
    have hpp : p.key.length ≤ 10 ∧ p.value.length ≤ 10 := by
      rcases List.mem_cons.1 hp with rfl | hp
      · decide
      · rcases List.mem_cons.1 hp with rfl | hp
        · decide
        · cases hp
    have := pairB_len p (by omega) (by omega)
    omega)
  have h2 : (prB [⟨[97], [49], false⟩, ⟨[98], [50, 50], false⟩]).length = 2 := rfl
  rw [h2] at h1
  omega

end Go.Proofs.YtkeopmfmlciadaaGreat
namespace Go.Proofs.YtkeopmfmlciadaaGreat
open Go.RowKit Go.Sort

theorem no_lt5 (w : World) : ∀ k, No k → k < w.heap.size := fun _ f => f.elim

theorem prs_two {w : World} {g : Nat} {p q : Pr} (hg : w.heap[g]? = some (.cells #[.string ⟨p.key.toArray⟩, .string ⟨p.value.toArray⟩, .bool p.gone, .string ⟨q.key.toArray⟩, .string ⟨q.value.toArray⟩, .bool q.gone] 32 (0, 0))) : Prs w No (some ⟨g, 0, none⟩) [p, q] :=
  ⟨fun i hi => by
    have hi2 : i < 2 := hi
    match i, hi2 with
    | 0, _ => exact ⟨g, 0, rfl, fun f => f, cell_of (i := 0) hg rfl, cell_of (i := 1) hg rfl, cell_of (i := 2) hg rfl⟩
    | 1, _ => exact ⟨g, 0, rfl, fun f => f, cell_of (i := 3) hg rfl, cell_of (i := 4) hg rfl, cell_of (i := 5) hg rfl⟩⟩

theorem kM_getb : getV kM [98] = .tuple #[.string ⟨#[50, 50]⟩, .bool true] := rfl
theorem kM_getc : getV kM [99] = .tuple #[.string ⟨#[]⟩, .bool false] := rfl

set_option maxRecDepth 100000 in
set_option maxHeartbeats 4000000 in
theorem known5_any (w : World) : Calls Tryz.prog 11 #[] w fun e w' => e = .returned (.bool true) ∧ Mod No w w' := by
  refine calls_hide fun R hR => ?_
  go_enter Tryz.func11, Tryz.ntmps11
  go_wp2_with fail
  with_reducible refine (disk_new No 200 256 w (no_lt5 w)).mono ?_
  rintro e w1 ⟨b, sb, mb, rfl, hb1, hb2, hb3, hd1, hm1⟩
  have HD1 := Lib.hid (And.intro hd1 (And.intro (And.intro hb1 (And.intro hb2 hb3)) hm1))
  clear hb1 hb2 hb3 hd1 hm1
  go_wp2_with fail
  with_reducible refine (Sto.first (w0 := w) (n := 200) (z := 256) (N := 200) (sz := 256) (by decide) (by decide) (by decide) (by decide) HD1.out.1 HD1.out.2.1 HD1.out.2.2).mono ?_
  rintro e w2 ⟨s, O, rfl, hs2, -, -⟩
  have HS2 := Lib.hid hs2
  clear hs2 HD1
  have m3 : Mod No w2 (w2.alloc (.cells #[.string ⟨#[97]⟩, .string ⟨#[49]⟩, .bool false, .string ⟨#[98]⟩, .string ⟨#[50, 50]⟩, .bool false] 32)) := (Mod.refl No w2).alloc _
  have HAP := (HS2.out.stay m3).apply (c := 2) (l := [⟨[97], [49], false⟩, ⟨[98], [50, 50], false⟩]) (prs_two (p := ⟨[97], [49], false⟩) (q := ⟨[98], [50, 50], false⟩) (heap_alloc_new w2 _)) (fun p hp => by
    rcases List.mem_cons.1 hp with rfl | hp
    · decide
    · rcases List.mem_cons.1 hp with rfl | hp
      · decide
      · cases hp) kM_mid kM_fits (by decide) (by decide) (by decide)
  have HAP : Calls Tryz.prog 14 #[.pointer (some ⟨s, 0, none⟩), .slice (some ⟨w2.heap.size, 0, none⟩) 2 2] (w2.alloc (.cells #[.string ⟨#[97]⟩, .string ⟨#[49]⟩, .bool false, .string ⟨#[98]⟩, .string ⟨#[50, 50]⟩, .bool false] 32)) fun e w' => e = .returned (.int .i64 0) ∧ ∃ O', Sto w w' 200 256 b s O' (0 + 2) kM (0 + 1) ∧ (∀ q, q < (w2.alloc (.cells #[.string ⟨#[97]⟩, .string ⟨#[49]⟩, .bool false, .string ⟨#[98]⟩, .string ⟨#[50, 50]⟩, .bool false] 32)).heap.size → O' q → O q) ∧ Mod O (w2.alloc (.cells #[.string ⟨#[97]⟩, .string ⟨#[49]⟩, .bool false, .string ⟨#[98]⟩, .string ⟨#[50, 50]⟩, .bool false] 32)) w' := HAP
  have HAP := Lib.hid HAP
  clear m3
  go_wp2_with fail
  with_reducible refine HAP.out.mono ?_
  rintro e w3 ⟨rfl, O3, hs3, -, -⟩
  have HS3 := Lib.hid hs3
  clear hs3 HAP HS2
  go_wp2_with fail
  with_reducible refine (HS3.out.reopen [[97], [98]] (fun k hk => (kM_keys.mem k).2 hk)).mono ?_
  rintro e w4 ⟨t, O4, rfl, hs4, -, -⟩
  have HS4 := Lib.hid hs4
  have hgb := hs4.get [98] (by decide)
  rw [kM_getb] at hgb
  have hgc := hs4.get [99] (by decide)
  rw [kM_getc] at hgc
  have HGB := Lib.hid hgb
  have HGC := Lib.hid hgc
  clear hs4 hgb hgc HS3
  go_wp2_with fail
  with_reducible refine HGB.out.mono ?_
  rintro e w5 ⟨rfl, h2⟩
  subst h2
  go_wp2_with fail
  with_reducible refine HGC.out.mono ?_
  rintro e w6 ⟨rfl, h2⟩
  subst h2
  clear HGB HGC
  go_wp2_with fail
  with_reducible refine (HS4.out.keys (by decide) [97]).mono ?_
  rintro e w7 ⟨v7, ks, rfl, hks, ho, hm7⟩
  obtain rfl := hks.unique kM_keys
  have hks2 := hks
  replace ho : w7.ownsRow w6.heap.size 9 1 v7 1 ([[97]].map encStr) := ho
  obtain ⟨a7, c7, rfl⟩ := own_len ho
  have HS7 := Lib.hid (HS4.out.stay hm7)
  have HO7 := Lib.hid (Sl.of_own (X := No) ho (fun _ _ f => f))
  have HKS := Lib.hid hks2
  clear hks hks2 ho hm7 HS4
  go_wp2_with fail
  have hw7 : Mod No w7 (w7.alloc (.cells #[.string ⟨#[97]⟩] 9)) := (Mod.refl No w7).alloc _
  have hOK := strs_ok (w := w7.alloc (.cells #[.string ⟨#[97]⟩] 9)) (X := No) (Y := No) (v := .slice a7 1 c7) (u := .slice (some ⟨w7.heap.size, 0, none⟩) 1 1) (ls := [[97]]) (HO7.out.keep hw7 (fun _ _ _ f => f.elim)) (.inr ⟨w7.heap.size, 0, 1, #[.string ⟨#[97]⟩], (0, 0), rfl, by decide, by decide, fun f => f, heap_alloc_new w7 _, by decide, fun i hi => by
    have hi2 : i < 1 := hi
    match i, hi2 with
    | 0, _ => rfl⟩) (by decide)
  have HOK := Lib.hid hOK
  clear hOK
  with_reducible refine HOK.out.mono ?_
  rintro e w8 ⟨rfl, hm8⟩
  have HS8 := Lib.hid ((HS7.out.stay hw7).stay hm8)
  clear hw7 hm8 HS7 HO7 HOK
  go_wp2_with fail
  have hsz := HS8.out.size kM_keys (by decide)
  have h5 : (([[97], [98]] : List (List UInt8)).map (wt kM)).sum = 5 := by decide
  rw [h5] at hsz
  have HSZ := Lib.hid hsz
  clear hsz h5
  with_reducible refine HSZ.out.mono ?_
  rintro e w9 ⟨rfl, hm9⟩
  have HS9 := Lib.hid (HS8.out.stay hm9)
  clear HS8 hm9 HSZ
  go_wp2_with fail
  with_reducible refine HS9.out.down.mono ?_
  rintro e w10 ⟨rfl, h2⟩
  subst h2
  go_wp2_with fail
  exact fin hR ⟨rfl, HS9.out.mod⟩

end Go.Proofs.YtkeopmfmlciadaaGreat
namespace Go.Proofs.YtkeopmfmlciadaaGreat
open Go.ChangeShapes Go.WideShapes Go.ChangeAt Go.RowKit

theorem add_atS (b o i : Nat) : (⟨b, o, none⟩ : Addr).add i = ⟨b, o + i, none⟩ := by
  unfold Addr.add
  split
  · rename_i h; subst h; rfl
  · rfl

theorem cellsS {w : World} {base b o c : Nat} {cs : List Value} (h : w.cells? base (⟨b, o, none⟩ : Addr) c = some cs) : cs.length = c ∧ ∀ j u, cs[j]? = some u → w.cell? ⟨b, o + j, none⟩ = some u := by
  obtain ⟨_, hlen, hcell⟩ := World.cells?_some h
  refine ⟨hlen, fun j u hj => ?_⟩
  have hj7 : j < c := by have := (List.getElem?_eq_some_iff.1 hj).1; omega
  have := hcell j hj7
  rw [hj, add_atS] at this
  exact this

/-- A pair of a script. -/
structure P5 where
  k : Nat
  n : Nat
  gone : Bool

instance : Inhabited P5 := ⟨⟨0, 0, false⟩⟩

structure PsIn (w : World) (a : Option Addr) (n : Nat) (l : List P5) : Prop where
  len : l.length = n
  at_ : ∀ i (hi : i < l.length), ∃ b o, a = some ⟨b, o, none⟩ ∧ w.cell? ⟨b, o + i * 3, none⟩ = some (.int .u8 (l[i].k : Nat)) ∧ w.cell? ⟨b, o + i * 3 + 1, none⟩ = some (.int .u8 (l[i].n : Nat)) ∧ w.cell? ⟨b, o + i * 3 + 2, none⟩ = some (.bool l[i].gone)
  low : ∀ p ∈ l, p.k < 256 ∧ p.n < 256

/-- An act of a script. -/
structure A5 where
  what : Int
  a : Option Addr
  n : Nat
  c : Nat
  l : List P5

instance : Inhabited A5 := ⟨⟨0, none, 0, 0, []⟩⟩

structure AsIn (w : World) (aa : Option Addr) (la : Nat) (l : List A5) : Prop where
  len : l.length = la
  at_ : ∀ i (hi : i < l.length), ∃ b o, aa = some ⟨b, o, none⟩ ∧ w.cell? ⟨b, o + i * 2, none⟩ = some (.int .i64 l[i].what) ∧ w.cell? ⟨b, o + i * 2 + 1, none⟩ = some (.slice l[i].a l[i].n l[i].c) ∧ PsIn w l[i].a l[i].n l[i].l

set_option maxRecDepth 100000 in
theorem light5_any {w : World} {aa : Option Addr} {la ca : Nat} {l : List A5} (h : AsIn w aa la l) :
    Calls Tryz.prog 22 #[.slice aa la ca] w fun e w' => (∃ o : Bool, e = .returned (.bool o) ∧ (o = true → la ≤ 30 ∧ ∀ i (hi : i < l.length), l[i].n ≤ 5)) ∧ w' = w := by
  refine calls_hide fun R hR => ?_
  have H := Lib.hid h
  clear h
  by_cases h30 : 30 < la
  · have q : (30 : Int) < (la : Int) := by omega
    go_enter Tryz.func22, Tryz.ntmps22
    go_wp2_with fail
    exact fin hR ⟨⟨false, rfl, fun h => by cases h⟩, rfl⟩
  have q : (la : Int) ≤ 30 := by omega
  go_enter Tryz.func22, Tryz.ntmps22
  go_wp2_with fail
  go_loopw [3] (fun x wr => wr = w ∧ ∃ k : Nat, k ≤ la ∧ x = .int .i64 k ∧ ∀ i (hi : i < l.length), i < k → l[i].n ≤ 5) (fun x _ => la - (intOf x).toNat)
  case atStart => exact ⟨rfl, 0, by omega, rfl, fun i _ h => by omega⟩
  case round =>
    obtain ⟨rfl, k, hk, rfl, hno⟩ := hrel
    have HNO := Lib.hid hno
    clear hno
    have hk0 : (0 : Int) ≤ (k : Int) := Int.natCast_nonneg _
    by_cases hlt : k < la
    · have hk1 : (k : Int) < (la : Int) := by omega
      obtain ⟨b, o, rfl, c0, c1, -⟩ := H.out.at_ k (by rw [H.out.len]; exact hlt)
      have HNX := Lib.hid (show ∀ n, n = (l[k]'(by rw [H.out.len]; exact hlt)).n → n ≤ 5 → ∀ i (hi : i < l.length), i < k + 1 → l[i].n ≤ 5 from fun n hn hle i hi hik => by
        by_cases e : i = k
        · subst e; omega
        · exact HNO.out i hi (by omega))
      generalize hn : (l[k]'(by rw [H.out.len]; exact hlt)).n = n at *
      have HN := Lib.hid hn
      clear hn c0
      by_cases h6 : 5 < n
      · have q6 : (5 : Int) < (n : Int) := by omega
        go_wp2_with fail
        exact fin hR ⟨⟨false, rfl, fun h => by cases h⟩, rfl⟩
      · have q6 : (n : Int) ≤ 5 := by omega
        go_wp2_with fail
        exact ⟨⟨trivial, k + 1, by omega, by go_num, HNX.out n rfl (by omega)⟩, by go_light; simp only [intOf]; omega⟩
    · have hkn : k = la := by omega
      subst hkn
      go_wp2_with fail
      exact fin hR ⟨⟨true, rfl, fun _ => ⟨by omega, fun i hi => HNO.out i hi (by rw [← H.out.len]; exact hi)⟩⟩, rfl⟩

end Go.Proofs.YtkeopmfmlciadaaGreat
namespace Go.Proofs.YtkeopmfmlciadaaGreat
open Go.ChangeShapes Go.WideShapes Go.ChangeAt Go.RowKit

set_option maxRecDepth 100000 in
theorem p5_open {H : Type} {enc : TypeId × Value → H} {w : World} {base : Nat} {held : Bool} {n : Nat} {cs : List Value} {x : DataW H × List MemPlace} (h : DataW.trod enc Tryz.prog w base (fun _ => true) held n 97 cs = some x) :
    ∃ v : P5, cs = [.int .u8 (v.k : Nat), .int .u8 (v.n : Nat), .bool v.gone] ∧ v.k < 256 ∧ v.n < 256 := by
  obtain ⟨xs, m, _, rfl, hlen, hxl, hf⟩ := DataW.trod_struct Tryz.underlying97 h
  have hx : xs.length = 3 := hxl
  have hc : cs.length = 3 := hlen.trans (by kernel_rfl)
  match cs, hc with
  | [c0, c1, c2], _ =>
    have e5 : Tryz.prog.cellsOf 5 = 1 := by kernel_rfl
    have e4 : Tryz.prog.cellsOf 4 = 1 := by kernel_rfl
    have g0 : DataW.trod enc Tryz.prog w base (fun _ => true) held m 5 (([c0, c1, c2].drop 0).take (Tryz.prog.cellsOf 5)) = xs[0]? := hf 0 _ rfl
    rw [e5, List.getElem?_eq_getElem (by omega)] at g0
    have g1 : DataW.trod enc Tryz.prog w base (fun _ => true) held m 5 (([c0, c1, c2].drop 1).take (Tryz.prog.cellsOf 5)) = xs[1]? := hf 1 _ rfl
    rw [e5, List.getElem?_eq_getElem (by omega)] at g1
    have g2 : DataW.trod enc Tryz.prog w base (fun _ => true) held m 4 (([c0, c1, c2].drop 2).take (Tryz.prog.cellsOf 4)) = xs[2]? := hf 2 _ rfl
    rw [e4, List.getElem?_eq_getElem (by omega)] at g2
    obtain ⟨n0, z0, _, w0⟩ := DataW.trod_int Tryz.underlying5 g0
    obtain ⟨n1, z1, _, w1⟩ := DataW.trod_int Tryz.underlying5 g1
    obtain ⟨b, z2, _⟩ := DataW.trod_bool Tryz.underlying4 g2
    simp only [List.drop_zero, List.drop_succ_cons, List.take_succ_cons, List.take_zero, List.cons.injEq, and_true] at z0 z1 z2
    subst z0 z1 z2
    obtain ⟨k, rfl⟩ := byte_of n0 w0
    obtain ⟨m, rfl⟩ := byte_of n1 w1
    exact ⟨⟨k.toNat, m.toNat, b⟩, rfl, k.toNat_lt, m.toNat_lt⟩

set_option maxRecDepth 100000 in
theorem ps5_open {H : Type} {enc : TypeId × Value → H} {w : World} {base : Nat} {held : Bool} {fuel : Nat} {cs : List Value} {x : DataW H × List MemPlace}
    (h : DataW.trod enc Tryz.prog w base (fun _ => true) held fuel 39 cs = some x) : ∃ a len cap, ∃ l : List P5, cs = [.slice a len cap] ∧ PsIn w a len l := by
  rcases Go.Deep.open_slice Tryz.underlying39 h with ⟨hcs, _⟩ | ⟨ad, len, cap, m, n, D, Pl, hcs, _, hl, _, hm, _, hx⟩
  · exact ⟨none, 0, 0, [], hcs, rfl, fun i hi => absurd hi (Nat.not_lt_zero i), fun p hp => by cases hp⟩
  · have hlm : len ≤ m := by rw [hm]; split <;> omega
    obtain ⟨b, o, sp⟩ := ad
    have e7 : Tryz.prog.cellsOf 97 = 3 := by kernel_rfl
    have hsp : 0 < len → sp = none := fun h0 => by
      obtain ⟨cs', h1, _⟩ := hx 0 (by omega)
      rw [e7] at h1
      obtain ⟨_, hlen, hcell⟩ := World.cells?_some h1
      have h2 := hcell 0 (by omega)
      rw [List.getElem?_eq_getElem (by omega)] at h2
      simpa [Addr.add] using World.cell?_spot h2
    have key : ∀ i, i < len → ∃ v : P5, sp = none ∧ w.cell? ⟨b, o + i * 3, none⟩ = some (.int .u8 (v.k : Nat)) ∧ w.cell? ⟨b, o + i * 3 + 1, none⟩ = some (.int .u8 (v.n : Nat)) ∧ w.cell? ⟨b, o + i * 3 + 2, none⟩ = some (.bool v.gone) ∧ v.k < 256 ∧ v.n < 256 := fun i hi => by
      obtain ⟨cs', h1, h2⟩ := hx i (by omega)
      have hs := hsp (by omega)
      subst hs
      rw [e7, add_atS] at h1
      obtain ⟨v, rfl, hk, hn⟩ := p5_open h2
      exact ⟨v, rfl, (cellsS h1).2 0 _ rfl, (cellsS h1).2 1 _ rfl, (cellsS h1).2 2 _ rfl, hk, hn⟩
    obtain ⟨f, hf⟩ := Go.Deep.choose_lt key
    refine ⟨some ⟨b, o, sp⟩, len, cap, (List.range len).map f, hcs, by simp, fun i hi => ?_, fun p hp => ?_⟩
    · have hi' : i < len := by simpa using hi
      obtain ⟨hs, hc0, hc1, hc2, _⟩ := hf i hi'
      refine ⟨b, o, by rw [hs], ?_⟩
      simpa using And.intro hc0 (And.intro hc1 hc2)
    · obtain ⟨i, hi, rfl⟩ := List.mem_map.1 hp
      exact (hf i (List.mem_range.1 hi)).2.2.2.2

set_option maxRecDepth 100000 in
theorem a5_open {H : Type} {enc : TypeId × Value → H} {w : World} {base : Nat} {held : Bool} {n : Nat} {cs : List Value} {x : DataW H × List MemPlace} (h : DataW.trod enc Tryz.prog w base (fun _ => true) held n 53 cs = some x) :
    ∃ v : A5, cs = [.int .i64 v.what, .slice v.a v.n v.c] ∧ PsIn w v.a v.n v.l := by
  obtain ⟨xs, m, _, rfl, hlen, hxl, hf⟩ := DataW.trod_struct Tryz.underlying53 h
  have hx : xs.length = 2 := hxl
  have hc : cs.length = 2 := hlen.trans (by kernel_rfl)
  match cs, hc with
  | [c0, c1], _ =>
    have e3 : Tryz.prog.cellsOf 3 = 1 := by kernel_rfl
    have e33 : Tryz.prog.cellsOf 39 = 1 := by kernel_rfl
    have g0 : DataW.trod enc Tryz.prog w base (fun _ => true) held m 3 (([c0, c1].drop 0).take (Tryz.prog.cellsOf 3)) = xs[0]? := hf 0 _ rfl
    rw [e3, List.getElem?_eq_getElem (by omega)] at g0
    have g1 : DataW.trod enc Tryz.prog w base (fun _ => true) held m 39 (([c0, c1].drop 1).take (Tryz.prog.cellsOf 39)) = xs[1]? := hf 1 _ rfl
    rw [e33, List.getElem?_eq_getElem (by omega)] at g1
    obtain ⟨n0, z0, _, w0⟩ := DataW.trod_int Tryz.underlying3 g0
    simp only [List.drop_zero, List.drop_succ_cons, List.take_succ_cons, List.take_zero, List.cons.injEq, and_true] at z0 g1
    subst z0
    obtain ⟨a, len, cap, l, hcs, hl⟩ := ps5_open g1
    simp only [List.cons.injEq, and_true] at hcs
    subst hcs
    exact ⟨⟨n0, a, len, cap, l⟩, rfl, hl⟩

set_option maxRecDepth 100000 in
theorem as5_open {H : Type} {enc : TypeId × Value → H} {w : World} {base : Nat} {held : Bool} {fuel : Nat} {cs : List Value} {x : DataW H × List MemPlace}
    (h : DataW.trod enc Tryz.prog w base (fun _ => true) held fuel 50 cs = some x) : ∃ a len cap, ∃ l : List A5, cs = [.slice a len cap] ∧ AsIn w a len l := by
  rcases Go.Deep.open_slice Tryz.underlying50 h with ⟨hcs, _⟩ | ⟨ad, len, cap, m, n, D, Pl, hcs, _, hl, _, hm, _, hx⟩
  · exact ⟨none, 0, 0, [], hcs, rfl, fun i hi => absurd hi (Nat.not_lt_zero i)⟩
  · have hlm : len ≤ m := by rw [hm]; split <;> omega
    obtain ⟨b, o, sp⟩ := ad
    have e7 : Tryz.prog.cellsOf 53 = 2 := by kernel_rfl
    have hsp : 0 < len → sp = none := fun h0 => by
      obtain ⟨cs', h1, _⟩ := hx 0 (by omega)
      rw [e7] at h1
      obtain ⟨_, hlen, hcell⟩ := World.cells?_some h1
      have h2 := hcell 0 (by omega)
      rw [List.getElem?_eq_getElem (by omega)] at h2
      simpa [Addr.add] using World.cell?_spot h2
    have key : ∀ i, i < len → ∃ v : A5, sp = none ∧ w.cell? ⟨b, o + i * 2, none⟩ = some (.int .i64 v.what) ∧ w.cell? ⟨b, o + i * 2 + 1, none⟩ = some (.slice v.a v.n v.c) ∧ PsIn w v.a v.n v.l := fun i hi => by
      obtain ⟨cs', h1, h2⟩ := hx i (by omega)
      have hs := hsp (by omega)
      subst hs
      rw [e7, add_atS] at h1
      obtain ⟨v, rfl, hp⟩ := a5_open h2
      exact ⟨v, rfl, (cellsS h1).2 0 _ rfl, (cellsS h1).2 1 _ rfl, hp⟩
    obtain ⟨f, hf⟩ := Go.Deep.choose_lt key
    refine ⟨some ⟨b, o, sp⟩, len, cap, (List.range len).map f, hcs, by simp, fun i hi => ?_⟩
    have hi' : i < len := by simpa using hi
    obtain ⟨hs, hc⟩ := hf i hi'
    refine ⟨b, o, by rw [hs], ?_⟩
    simpa using hc

end Go.Proofs.YtkeopmfmlciadaaGreat
namespace Go.Proofs.YtkeopmfmlciadaaGreat
open Go.RowKit

def sevenK : List (List UInt8) := [[97], [97, 47, 98], [], [98], [97, 47], [122, 122], [97, 47, 99]]

/-- A map of the laws: its keys are among the seven, its values short. -/
def Seven (M : Mt) : Prop := ∀ k v, M k = some v → k ∈ sevenK ∧ v.length ≤ 300

theorem key_seven (k : Nat) : keyOfN k ∈ sevenK := by
  unfold keyOfN
  have h : k % 7 < 7 := Nat.mod_lt _ (by decide)
  generalize k % 7 = r at h
  match r, h with
  | 0, _ => decide
  | 1, _ => decide
  | 2, _ => decide
  | 3, _ => decide
  | 4, _ => decide
  | 5, _ => decide
  | 6, _ => decide

theorem seven_len : ∀ k ∈ sevenK, k.length ≤ 3 := by decide

theorem seven_none : Seven (fun _ => none) := fun _ _ h => by cases h

/-- The k-th pair that the i-th act's pair p comes to. -/
def prOf (i k : Nat) (p : P5) : Pr := ⟨keyOfN p.k, valT (i + k) p.n, p.gone⟩

/-- What pairs gives. -/
def prsOf (i : Nat) (l : List P5) : List Pr := l.mapIdx fun k p => prOf i k p

theorem prsOf_len (i : Nat) (l : List P5) : (prsOf i l).length = l.length := by simp [prsOf]

def SevenP (l : List Pr) : Prop := ∀ p ∈ l, p.key ∈ sevenK ∧ p.value.length ≤ 300

theorem prsOf_seven (i : Nat) {l : List P5} (h : ∀ p ∈ l, p.k < 256 ∧ p.n < 256) : SevenP (prsOf i l) := fun p hp => by
  obtain ⟨k, hk, rfl⟩ := List.mem_mapIdx.1 hp
  have := (h _ (List.getElem_mem hk)).2
  exact ⟨key_seven _, by show (valT _ _).length ≤ 300; rw [valT_len]; omega⟩

theorem SevenP.mid {l : List Pr} (h : SevenP l) : MidP l := fun p hp => by
  have h1 := h p hp
  have h2 := seven_len _ h1.1
  omega

theorem Seven.change {M : Mt} (h : Seven M) {p : Pr} (hp : p.key ∈ sevenK ∧ p.value.length ≤ 300) : Seven (M.change p) := fun k v e => by
  unfold Mt.change at e
  split at e
  · unfold Mt.del at e
    split at e
    · cases e
    · exact h k v e
  · unfold Mt.put at e
    split at e
    · rename_i hk; cases e; subst hk; exact hp
    · exact h k v e

theorem Seven.changes : ∀ {l : List Pr} {M : Mt}, Seven M → SevenP l → Seven (M.changes l)
  | [], _, h, _ => h
  | p :: l, M, h, hl => Seven.changes (l := l) (M := M.change p) (h.change (hl p (by simp))) fun q hq => hl q (by simp [hq])

theorem Seven.mid {M : Mt} (h : Seven M) : MidM M := fun k v e => by
  have h1 := h k v e
  have h2 := seven_len _ h1.1
  omega

theorem Seven.keys {M : Mt} (h : Seven M) {ks : List (List UInt8)} (hk : KeysOfM M ks) : ∀ k ∈ ks, k ∈ sevenK := fun k hm => by
  obtain ⟨v, hv⟩ := Option.isSome_iff_exists.1 ((hk.mem k).1 hm)
  exact (h k v hv).1

theorem Seven.few {M : Mt} (h : Seven M) {ks : List (List UInt8)} (hk : KeysOfM M ks) : ks.length ≤ 7 :=
  hk.nodup.length_le_of_subset fun k hm => h.keys hk k hm

theorem Seven.fits {M : Mt} (h : Seven M) {N sz : Nat} (hN : 64 ≤ N) (hs : 256 ≤ sz) : Fits N sz M := fun ks hk => by
  have h1 := body_le2 (l := prB (recsOf M ks)) (m := 400) (fun r hr => by
    obtain ⟨p, hp, rfl⟩ := List.mem_map.1 hr
    obtain ⟨k, hkm, rfl⟩ := List.mem_map.1 hp
    obtain ⟨v, hv⟩ := Option.isSome_iff_exists.1 ((hk.mem k).1 hkm)
    have h3 := h k v hv
    have h4 := seven_len _ h3.1
    have e : ((M k).getD []).length ≤ 300 := by rw [hv]; exact h3.2
    have := pairB_len ⟨k, (M k).getD [], false⟩ (show k.length ≤ _ by omega) (show ((M k).getD []).length ≤ _ by omega)
    have e2 : (⟨k, (M k).getD [], false⟩ : Pr).key.length = k.length := rfl
    have e3 : (⟨k, (M k).getD [], false⟩ : Pr).value.length = ((M k).getD []).length := rfl
    omega)
  have h2 : (prB (recsOf M ks)).length ≤ 7 := by simp only [prB, recsOf, List.length_map]; exact h.few hk
  have h3 : (32 : Nat) * 240 ≤ (N / 2) * (sz - 16) := Nat.mul_le_mul (by omega) (by omega)
  omega

end Go.Proofs.YtkeopmfmlciadaaGreat
namespace Go.Proofs.YtkeopmfmlciadaaGreat
open Go.RowKit

/-- The keys that alike has met ahead of its j-th round. -/
def metK (M : Mt) (j : Nat) : List (List UInt8) := (sevenK.take j).filter fun k => (M k).isSome

theorem sevenK_at (j : Nat) (h : j < 7) : sevenK[j]? = some (keyOfN j) := by
  match j, h with
  | 0, _ => rfl
  | 1, _ => rfl
  | 2, _ => rfl
  | 3, _ => rfl
  | 4, _ => rfl
  | 5, _ => rfl
  | 6, _ => rfl

theorem metK_zero (M : Mt) : metK M 0 = [] := rfl

theorem metK_succ (M : Mt) (j : Nat) (h : j < 7) : metK M (j + 1) = metK M j ++ (if (M (keyOfN j)).isSome = true then [keyOfN j] else []) := by
  unfold metK
  rw [List.take_add_one, sevenK_at j h, List.filter_append]
  cases hM : (M (keyOfN j)).isSome <;> simp [hM]

theorem metK_perm {M : Mt} (h : Seven M) {ks : List (List UInt8)} (hk : KeysOfM M ks) : (metK M 7).Perm ks := by
  refine (List.perm_ext_iff_of_nodup ?_ hk.nodup).2 fun x => ?_
  · exact List.Nodup.sublist List.filter_sublist (show (sevenK.take 7).Nodup by decide)
  · have e : sevenK.take 7 = sevenK := rfl
    unfold metK
    rw [e, List.mem_filter, hk.mem x]
    exact ⟨fun g => g.2, fun g => ⟨h.keys hk x ((hk.mem x).2 g), g⟩⟩

theorem metK_len {M : Mt} (h : Seven M) {ks : List (List UInt8)} (hk : KeysOfM M ks) : (metK M 7).length = ks.length := (metK_perm h hk).length_eq

theorem metK_sum {M : Mt} (h : Seven M) {ks : List (List UInt8)} (hk : KeysOfM M ks) : ((metK M 7).map (wt M)).sum = (ks.map (wt M)).sum := ((metK_perm h hk).map _).sum_nat

end Go.Proofs.YtkeopmfmlciadaaGreat
namespace Go.Proofs.YtkeopmfmlciadaaGreat
open Go.RowKit Go.Maps

set_option maxRecDepth 100000 in
theorem lit53 (t : Array Value) (h : t.size = 53) : ∃ c : Nat → Value, t = #[c 0, c 1, c 2, c 3, c 4, c 5, c 6, c 7, c 8, c 9, c 10, c 11, c 12, c 13, c 14, c 15, c 16, c 17, c 18, c 19, c 20, c 21, c 22, c 23, c 24, c 25, c 26, c 27, c 28, c 29, c 30, c 31, c 32, c 33, c 34, c 35, c 36, c 37, c 38, c 39, c 40, c 41, c 42, c 43, c 44, c 45, c 46, c 47, c 48, c 49, c 50, c 51, c 52] ∧ ∀ i, t.getD i undef = c i := by
  refine ⟨fun i => t.getD i undef, ?_, fun _ => rfl⟩
  have h1 := arr_lits t
  rw [h] at h1
  exact h1.trans (by kernel_rfl)

theorem cells_of_cell {w : World} {b i : Nat} {v : Value} (h : w.cell? ⟨b, i, none⟩ = some v) : ∃ cur t fz, w.heap[b]? = some (.cells cur t fz) := by
  unfold World.cell? at h
  split at h
  · rename_i cur t fz hb; exact ⟨cur, t, fz, hb⟩
  · cases h

theorem info_pair : (Tryz.prog.info? 32).map (fun i => (i.zero, i.size, i.bytes)) = some (some (.agg #[.string ⟨#[]⟩, .string ⟨#[]⟩, .bool false]), 3, 40) := by kernel_rfl

theorem prCells_append (l m : List Pr) : prCells (l ++ m) = prCells l ++ prCells m := by simp [prCells]

theorem prCells_len (l : List Pr) : (prCells l).length = l.length * 3 := by
  induction l with
  | nil => rfl
  | cons p l ih => rw [show p :: l = [p] ++ l from rfl, prCells_append, List.length_append, ih]; simp [prCells]; omega

theorem prsOf_take (i : Nat) (l : List P5) (k : Nat) (h : k < l.length) : (prsOf i l).take (k + 1) = (prsOf i l).take k ++ [prOf i k l[k]] := by
  rw [List.take_succ_eq_append_getElem (by rw [prsOf_len]; exact h)]
  simp [prsOf]

set_option maxRecDepth 100000 in
set_option maxHeartbeats 4000000 in
theorem pairs5_any {w : World} {mb n i : Nat} {M : Mt} {a : Option Addr} {c : Nat} {l : List P5} (h : SMp w mb n M) (hl : PsIn w a l.length l) (hi : i ≤ 1000) (hle : l.length ≤ 1000) (hn : n + l.length ≤ 1000000) :
    Calls Tryz.prog 18 #[.int .i64 (i : Int), .slice a l.length c, .map (some mb)] w fun e w' => ∃ v, e = .returned v ∧ w'.ownsRow w.heap.size 32 3 v l.length (prCells (prsOf i l)) ∧ SMp w' mb (n + l.length) (M.changes (prsOf i l)) ∧ Mod (fun q => q = mb) w w' := by
  obtain ⟨i0, hi0, hz0, hz1, hz2⟩ := info_parts info_pair
  refine calls_hide fun R hR => ?_
  have H := Lib.hid h
  have HL := Lib.hid hl
  have hmw := h.lt
  have HNC := Lib.hid (fun (cur : Array Value) (t : TypeId) (fz : Nat × Nat) => h.not_cells cur t fz)
  clear h hl
  go_enter Tryz.func18, Tryz.ntmps18
  go_wp2_with fail
  go_loopw [7, 8] (fun u q wr => ∃ k : Nat, k ≤ l.length ∧ q = .int .i64 k ∧ wr.ownsRow w.heap.size 32 3 u k (prCells ((prsOf i l).take k)) ∧ SMp wr mb (n + k) (M.changes ((prsOf i l).take k)) ∧ Mod (fun q => q = mb) w wr) (fun _ q _ => l.length - (intOf q).toNat)
  case atStart => exact ⟨0, by omega, rfl, World.ownsRow_nil _ _ _ _, H.out, Mod.refl _ _⟩
  case round =>
    obtain ⟨k, hk, rfl, hown, hs, hm⟩ := hrel
    have hk0 : (0 : Int) ≤ (k : Int) := Int.natCast_nonneg _
    by_cases hlt : k < l.length
    · have hk1 : (k : Int) < (l.length : Int) := by omega
      obtain ⟨b, o, rfl, c0, c1, c2⟩ := HL.out.at_ k hlt
      have hbm : ¬ b = mb := fun e => by
        obtain ⟨cur, t, fz, hb⟩ := cells_of_cell c0
        rw [e] at hb
        exact HNC.out _ _ _ hb
      have hlo := HL.out.low _ (List.getElem_mem hlt)
      have HCH := Lib.hid (prsOf_take i l k hlt)
      have HPC := Lib.hid (show prCells ((prsOf i l).take k ++ [prOf i k l[k]]) = prCells ((prsOf i l).take k) ++ [.string ⟨(prOf i k l[k]).key.toArray⟩, .string ⟨(prOf i k l[k]).value.toArray⟩, .bool l[k].gone] by rw [prCells_append]; rfl)
      have HMC := Lib.hid (show M.changes ((prsOf i l).take k ++ [prOf i k l[k]]) = (M.changes ((prsOf i l).take k)).change (prOf i k l[k]) from changes_append _ _ _)
      have hkl : (prOf i k l[k]).key.length ≤ 3 := seven_len _ (key_seven _)
      have C0 := Lib.hid (hm.cell c0 hbm)
      have C1 := Lib.hid (hm.cell c1 hbm)
      have C2 := Lib.hid (hm.cell c2 hbm)
      have HK := Lib.hid (fun W => key5_any l[k].k hlo.1 W)
      have HV := Lib.hid (show ∀ W, Calls Tryz.prog 21 #[.int .i64 ((i : Int) + (k : Int)), .int .i64 ((l[k].n : Nat) : Int)] W fun e w' => e = .returned (.string ⟨(valT (i + k) l[k].n).toArray⟩) ∧ Mod No W w' from fun W => value5_any (i + k) l[k].n (by omega) (by omega) W)
      have hpk : prOf i k l[k] = ⟨keyOfN l[k].k, valT (i + k) l[k].n, l[k].gone⟩ := rfl
      rw [hpk] at HMC HPC HCH hkl
      dsimp only at HPC hkl
      clear c0 c1 c2 hpk
      generalize l[k] = p5 at *
      obtain ⟨kk, nn, gn⟩ := p5
      dsimp only at C0 C1 C2 HK HV HCH HPC HMC hlo hkl
      generalize keyOfN kk = key at *
      generalize valT (i + k) nn = val at *
      have hkey := keyOf_str key (by omega)
      have HKY := Lib.hid hkey
      generalize hKK : (⟨key.toArray⟩ : ByteArray) = KK at *
      generalize hVV : (⟨val.toArray⟩ : ByteArray) = VV at *
      have HKK := Lib.hid hKK
      have HVV := Lib.hid hVV
      have HW1 := Lib.hid (show IntKind.i64.wrap ((i : Int) + (k : Int)) = (i : Int) + (k : Int) by rw [IntKind.wrap_i64]; omega)
      have HW2 := Lib.hid (show IntKind.i64.wrap (nn : Int) = (nn : Int) by rw [IntKind.wrap_i64]; omega)
      have HOWN := Lib.hid hown
      have HS := Lib.hid hs
      have HMD := Lib.hid hm
      have hnn0 : (0 : Int) ≤ (nn : Int) := Int.natCast_nonneg _
      have hnn1 : (nn : Int) < 256 := by omega
      clear hkey hKK hVV hown hs hm hlo
      go_upto_region 5 with fail
      obtain ⟨wA, hwA⟩ : ∃ wA, wA = wr := ⟨_, rfl⟩
      rw [← hwA] at C0 C1 C2 HOWN HS HMD ⊢
      clear hwA
      refine wp_only (R := fun a' w' => ∃ g, Fr 53 [(0, .int .i64 (i : Int)), (1, .slice (some ⟨b, o, none⟩) l.length c), (2, .map (some mb)), (3, undef), (4, undef), (5, undef), (6, .slice none 0 0), (7, u7), (8, .int .i64 (k : Int)), (9, .pointer (some ⟨g, 0, none⟩)), (52, undef)] a' ∧ w'.heap[g]? = some (.cells #[.string KK, .string VV, .bool gn] 32 (0, 0)) ∧ wA.heap.size ≤ g ∧ Mod No wA w') ?_ ?_
      · have hS0 : Mod No wA wA.drew := (Mod.refl No wA).drew
        refine wp_region_T (fun w' => Mod No wA w') 99 (by kernel_rfl) ?_
        obtain ⟨wB, hwB⟩ : ∃ wB, wB = wA.drew := ⟨_, rfl⟩
        rw [← hwB]
        rw [← hwB] at hS0
        clear hwB
        refine wpAnyT_takeV 0 (some 16) ?_ rfl rfl (by kernel_rfl) (fun _ _ _ h => h) hS0 (Or.inl ⟨by rfl, ?_⟩) ?_
        rotate_left
        · (intro w' hSw; (try dsimp only at hSw); go_simp; try with_reducible rfl)
        simp only [Act.put, List.setIfInBounds_toArray, List.set_cons_zero, List.set_cons_succ]
        refine wpAnyT_takeV 1 (some 17) ?_ rfl rfl (by kernel_rfl) (fun _ _ _ h => h) hS0 (Or.inl ⟨by rfl, ?_⟩) ?_
        rotate_left
        · (intro w' hSw; (try dsimp only at hSw); go_simp; try with_reducible rfl)
        simp only [Act.put, List.setIfInBounds_toArray, List.set_cons_zero, List.set_cons_succ]
        refine wpAnyT_takeV 2 (some 18) ?_ rfl rfl (by kernel_rfl) (fun _ _ _ h => h) hS0 (Or.inl ⟨by rfl, ?_⟩) ?_
        rotate_left
        · (intro w' hSw; (try dsimp only at hSw); go_simp; try with_reducible rfl)
        simp only [Act.put, List.setIfInBounds_toArray, List.set_cons_zero, List.set_cons_succ]
        refine wpAnyT_takeV 3 (some 19) ?_ rfl rfl (by kernel_rfl) (fun _ _ _ h => h) hS0 (Or.inl ⟨by rfl, ?_⟩) ?_
        rotate_left
        · (intro w' hSw; (try dsimp only at hSw); go_simp; try with_reducible rfl)
        simp only [Act.put, List.setIfInBounds_toArray, List.set_cons_zero, List.set_cons_succ]
        refine wpAnyT_takeV 4 (some 20) ?_ rfl rfl (by kernel_rfl) (fun _ _ _ h => h) hS0 (Or.inl ⟨by rfl, ?_⟩) ?_
        rotate_left
        · (intro w' hSw; (try dsimp only at hSw); have cc := hSw.cell C0.out (fun f => f); go_simp; try with_reducible rfl)
        simp only [Act.put, List.setIfInBounds_toArray, List.set_cons_zero, List.set_cons_succ]
        refine wpAnyT_takeV 6 (some 22) ?_ rfl rfl (by kernel_rfl) (fun _ _ _ h => h) hS0 (Or.inl ⟨by rfl, ?_⟩) ?_
        rotate_left
        · (intro w' hSw; (try dsimp only at hSw); go_simp; try with_reducible rfl)
        simp only [Act.put, List.setIfInBounds_toArray, List.set_cons_zero, List.set_cons_succ]
        refine wpAnyT_takeV 7 (some 23) ?_ rfl rfl (by kernel_rfl) (fun _ _ _ h => h) hS0 (Or.inl ⟨by rfl, ?_⟩) ?_
        rotate_left
        · (intro w' hSw; (try dsimp only at hSw); go_simp; try with_reducible rfl)
        simp only [Act.put, List.setIfInBounds_toArray, List.set_cons_zero, List.set_cons_succ]
        refine wpAnyT_takeV 8 (some 24) ?_ rfl rfl (by kernel_rfl) (fun _ _ _ h => h) hS0 (Or.inl ⟨by rfl, ?_⟩) ?_
        rotate_left
        · (intro w' hSw; (try dsimp only at hSw); go_simp; try with_reducible rfl)
        simp only [Act.put, List.setIfInBounds_toArray, List.set_cons_zero, List.set_cons_succ]
        refine wpAnyT_takeV 9 (some 25) ?_ rfl rfl (by kernel_rfl) (fun _ _ _ h => h) hS0 (Or.inl ⟨by rfl, ?_⟩) ?_
        rotate_left
        · (intro w' hSw; (try dsimp only at hSw); go_simp; try with_reducible rfl)
        simp only [Act.put, List.setIfInBounds_toArray, List.set_cons_zero, List.set_cons_succ]
        refine wpAnyT_takeV 10 (some 26) ?_ rfl rfl (by kernel_rfl) (fun _ _ _ h => h) hS0 (Or.inl ⟨by rfl, ?_⟩) ?_
        rotate_left
        · (intro w' hSw; (try dsimp only at hSw); go_simp; try with_reducible rfl)
        simp only [Act.put, List.setIfInBounds_toArray, List.set_cons_zero, List.set_cons_succ]
        refine wpAnyT_takeV 11 (some 27) ?_ rfl rfl (by kernel_rfl) (fun _ _ _ h => h) hS0 (Or.inl ⟨by rfl, ?_⟩) ?_
        rotate_left
        · (intro w' hSw; (try dsimp only at hSw); go_simp; try with_reducible rfl)
        simp only [Act.put, List.setIfInBounds_toArray, List.set_cons_zero, List.set_cons_succ]
        refine wpAnyT_takeV 12 (some 28) ?_ rfl rfl (by kernel_rfl) (fun _ _ _ h => h) hS0 (Or.inl ⟨by rfl, ?_⟩) ?_
        rotate_left
        · (intro w' hSw; (try dsimp only at hSw); go_simp; try with_reducible rfl)
        simp only [Act.put, List.setIfInBounds_toArray, List.set_cons_zero, List.set_cons_succ]
        refine wpAnyT_takeV 13 (some 29) ?_ rfl rfl (by kernel_rfl) (fun _ _ _ h => h) hS0 (Or.inl ⟨by rfl, ?_⟩) ?_
        rotate_left
        · (intro w' hSw; (try dsimp only at hSw); have cc := hSw.cell C1.out (fun f => f); go_simp; try with_reducible rfl)
        simp only [Act.put, List.setIfInBounds_toArray, List.set_cons_zero, List.set_cons_succ]
        refine wpAnyT_takeV 14 (some 30) ?_ rfl rfl (by kernel_rfl) (fun _ _ _ h => h) hS0 (Or.inl ⟨by rfl, ?_⟩) ?_
        rotate_left
        · (intro w' hSw; (try dsimp only at hSw); go_simp; try with_reducible rfl)
        simp only [Act.put, List.setIfInBounds_toArray, List.set_cons_zero, List.set_cons_succ]
        refine wpAnyT_takeV 16 (some 32) ?_ rfl rfl (by kernel_rfl) (fun _ _ _ h => h) hS0 (Or.inl ⟨by rfl, ?_⟩) ?_
        rotate_left
        · (intro w' hSw; (try dsimp only at hSw); go_simp; try with_reducible rfl)
        simp only [Act.put, List.setIfInBounds_toArray, List.set_cons_zero, List.set_cons_succ]
        refine wpAnyT_takeV 17 (some 33) ?_ rfl rfl (by kernel_rfl) (fun _ _ _ h => h) hS0 (Or.inl ⟨by rfl, ?_⟩) ?_
        rotate_left
        · (intro w' hSw; (try dsimp only at hSw); go_simp; try with_reducible rfl)
        simp only [Act.put, List.setIfInBounds_toArray, List.set_cons_zero, List.set_cons_succ]
        refine wpAnyT_takeV 18 (some 34) ?_ rfl rfl (by kernel_rfl) (fun _ _ _ h => h) hS0 (Or.inl ⟨by rfl, ?_⟩) ?_
        rotate_left
        · (intro w' hSw; (try dsimp only at hSw); go_simp; try with_reducible rfl)
        simp only [Act.put, List.setIfInBounds_toArray, List.set_cons_zero, List.set_cons_succ]
        refine wpAnyT_takeV 19 (some 35) ?_ rfl rfl (by kernel_rfl) (fun _ _ _ h => h) hS0 (Or.inl ⟨by rfl, ?_⟩) ?_
        rotate_left
        · (intro w' hSw; (try dsimp only at hSw); go_simp; try with_reducible rfl)
        simp only [Act.put, List.setIfInBounds_toArray, List.set_cons_zero, List.set_cons_succ]
        refine wpAnyT_takeV 20 (some 36) ?_ rfl rfl (by kernel_rfl) (fun _ _ _ h => h) hS0 (Or.inl ⟨by rfl, ?_⟩) ?_
        rotate_left
        · (intro w' hSw; (try dsimp only at hSw); have cc := hSw.cell C2.out (fun f => f); go_simp; try with_reducible rfl)
        simp only [Act.put, List.setIfInBounds_toArray, List.set_cons_zero, List.set_cons_succ]
        refine wpAnyT_two 5 22 rfl rfl (by kernel_rfl) rfl rfl ?_ ?_
        · intro K hK
          go_simp
          go_at_call 20
          with_reducible refine (HK.out _).mono ?_
          rintro e x_5 ⟨rfl, hmx_5⟩
          show K _ _
          have hS1 := Mod.trans hS0 hmx_5
          refine hK.out _ _ (fun _ => hS1) ?_
          clear hK K
          refine wpAnyT_two 15 22 rfl rfl (by kernel_rfl) rfl rfl ?_ ?_
          · intro K hK
            go_simp
            rw [HW1.out, HW2.out]
            go_at_call 21
            with_reducible refine (HV.out _).mono ?_
            rintro e x_5_15 ⟨rfl, hmx_5_15⟩
            show K _ _
            have hS2 := Mod.trans hS1 hmx_5_15
            refine hK.out _ _ (fun _ => hS2) ?_
            clear hK K
            refine wpAnyT_takeV 21 (some 37) ?_ rfl rfl (by kernel_rfl) (fun _ _ _ h => h) hS2 (Or.inl ⟨by rfl, ?_⟩) ?_
            rotate_left
            · (intro w' hSw; (try dsimp only at hSw); go_simp; try with_reducible rfl)
            simp only [Act.put, List.setIfInBounds_toArray, List.set_cons_zero, List.set_cons_succ]
            refine wpAnyT_one 22 rfl (by kernel_rfl) rfl ?_
            intro K hK
            obtain ⟨g, hg⟩ : ∃ g, g = x_5_15.heap.size := ⟨_, rfl⟩
            obtain ⟨x_5_15_22, hx_5_15_22⟩ : ∃ y, y = x_5_15.alloc (.cells #[.string ⟨#[]⟩, .string ⟨#[]⟩, .bool false] 32) := ⟨_, rfl⟩
            have HG := Lib.hid (show x_5_15_22.heap[g]? = some (.cells #[.string ⟨#[]⟩, .string ⟨#[]⟩, .bool false] 32 (0, 0)) by rw [hx_5_15_22, hg]; exact heap_alloc_new _ _)
            have HGW := Lib.hid (show wA.heap.size ≤ g by rw [hg]; exact hS2.size)
            have hmA : Mod No x_5_15 x_5_15_22 := by rw [hx_5_15_22]; exact (Mod.refl No _).alloc _
            have Hg := Lib.hid hg
            have HN := Lib.hid hx_5_15_22
            clear hg hx_5_15_22
            go_simp
            rw [← Hg.out, ← HN.out]
            show K _ _
            have hS3 := hS2.trans hmA
            refine hK.out _ _ (fun _ => hS3) ?_
            clear hK K
            refine wpAnyT_one 23 rfl (by kernel_rfl) rfl ?_
            intro K hK
            have p0 := cell_of (i := 0) HG.out rfl
            have p1 := cell_of (i := 1) HG.out rfl
            have p2 := cell_of (i := 2) HG.out rfl
            have f0 := frozen_of 0 HG.out
            have f1 := frozen_of 1 HG.out
            have f2 := frozen_of 2 HG.out
            obtain ⟨x_5_15_22_23, hx_5_15_22_23⟩ : ∃ y, y = ((x_5_15_22.setCell ⟨g, 0, none⟩ (.string KK)).setCell ⟨g, 1, none⟩ (.string VV)).setCell ⟨g, 2, none⟩ (.bool gn) := ⟨_, rfl⟩
            have HG2 := Lib.hid (show x_5_15_22_23.heap[g]? = some (.cells #[.string KK, .string VV, .bool gn] 32 (0, 0)) by rw [hx_5_15_22_23, heap_setCell (heap_setCell (heap_setCell HG.out _) _) _]; rfl)
            have hmS : Mod No wA x_5_15_22_23 := by rw [hx_5_15_22_23]; exact ((hS3.setCell (fun h => absurd h (by have := HGW.out; show ¬ g < _; omega)) _).setCell (fun h => absurd h (by have := HGW.out; show ¬ g < _; omega)) _).setCell (fun h => absurd h (by have := HGW.out; show ¬ g < _; omega)) _
            have HN := Lib.hid hx_5_15_22_23
            clear hx_5_15_22_23
            go_simp
            rw [← HN.out]
            show K _ _
            have hS4 := hmS
            refine hK.out _ _ (fun _ => hS4) ?_
            clear hK K
            refine wpAnyT_done (by kernel_rfl) ?_ _
            exact ⟨g, ⟨rfl, rfl, rfl, rfl, rfl, rfl, rfl, rfl, rfl, rfl, rfl, rfl, rfl, trivial⟩, HG2.out, HGW.out, hS4⟩
          · intro K hK
            obtain ⟨g, hg⟩ : ∃ g, g = x_5.heap.size := ⟨_, rfl⟩
            obtain ⟨x_5_22, hx_5_22⟩ : ∃ y, y = x_5.alloc (.cells #[.string ⟨#[]⟩, .string ⟨#[]⟩, .bool false] 32) := ⟨_, rfl⟩
            have HG := Lib.hid (show x_5_22.heap[g]? = some (.cells #[.string ⟨#[]⟩, .string ⟨#[]⟩, .bool false] 32 (0, 0)) by rw [hx_5_22, hg]; exact heap_alloc_new _ _)
            have HGW := Lib.hid (show wA.heap.size ≤ g by rw [hg]; exact hS1.size)
            have hmA : Mod No x_5 x_5_22 := by rw [hx_5_22]; exact (Mod.refl No _).alloc _
            have Hg := Lib.hid hg
            have HN := Lib.hid hx_5_22
            clear hg hx_5_22
            go_simp
            rw [← Hg.out, ← HN.out]
            show K _ _
            have hS2 := hS1.trans hmA
            refine hK.out _ _ (fun _ => hS2) ?_
            clear hK K
            refine wpAnyT_one 15 rfl (by kernel_rfl) rfl ?_
            intro K hK
            go_simp
            rw [HW1.out, HW2.out]
            go_at_call 21
            with_reducible refine (HV.out _).mono ?_
            rintro e x_5_22_15 ⟨rfl, hmx_5_22_15⟩
            have HG := Lib.hid (hmx_5_22_15.keep HG.out (fun f => f))
            show K _ _
            have hS3 := Mod.trans hS2 hmx_5_22_15
            refine hK.out _ _ (fun _ => hS3) ?_
            clear hK K
            refine wpAnyT_takeV 21 (some 37) ?_ rfl rfl (by kernel_rfl) (fun _ _ _ h => h) hS3 (Or.inl ⟨by rfl, ?_⟩) ?_
            rotate_left
            · (intro w' hSw; (try dsimp only at hSw); go_simp; try with_reducible rfl)
            simp only [Act.put, List.setIfInBounds_toArray, List.set_cons_zero, List.set_cons_succ]
            refine wpAnyT_one 23 rfl (by kernel_rfl) rfl ?_
            intro K hK
            have p0 := cell_of (i := 0) HG.out rfl
            have p1 := cell_of (i := 1) HG.out rfl
            have p2 := cell_of (i := 2) HG.out rfl
            have f0 := frozen_of 0 HG.out
            have f1 := frozen_of 1 HG.out
            have f2 := frozen_of 2 HG.out
            obtain ⟨x_5_22_15_23, hx_5_22_15_23⟩ : ∃ y, y = ((x_5_22_15.setCell ⟨g, 0, none⟩ (.string KK)).setCell ⟨g, 1, none⟩ (.string VV)).setCell ⟨g, 2, none⟩ (.bool gn) := ⟨_, rfl⟩
            have HG2 := Lib.hid (show x_5_22_15_23.heap[g]? = some (.cells #[.string KK, .string VV, .bool gn] 32 (0, 0)) by rw [hx_5_22_15_23, heap_setCell (heap_setCell (heap_setCell HG.out _) _) _]; rfl)
            have hmS : Mod No wA x_5_22_15_23 := by rw [hx_5_22_15_23]; exact ((hS3.setCell (fun h => absurd h (by have := HGW.out; show ¬ g < _; omega)) _).setCell (fun h => absurd h (by have := HGW.out; show ¬ g < _; omega)) _).setCell (fun h => absurd h (by have := HGW.out; show ¬ g < _; omega)) _
            have HN := Lib.hid hx_5_22_15_23
            clear hx_5_22_15_23
            go_simp
            rw [← HN.out]
            show K _ _
            have hS4 := hmS
            refine hK.out _ _ (fun _ => hS4) ?_
            clear hK K
            refine wpAnyT_done (by kernel_rfl) ?_ _
            exact ⟨g, ⟨rfl, rfl, rfl, rfl, rfl, rfl, rfl, rfl, rfl, rfl, rfl, rfl, rfl, trivial⟩, HG2.out, HGW.out, hS4⟩
        · intro K hK
          obtain ⟨g, hg⟩ : ∃ g, g = wB.heap.size := ⟨_, rfl⟩
          obtain ⟨x_22, hx_22⟩ : ∃ y, y = wB.alloc (.cells #[.string ⟨#[]⟩, .string ⟨#[]⟩, .bool false] 32) := ⟨_, rfl⟩
          have HG := Lib.hid (show x_22.heap[g]? = some (.cells #[.string ⟨#[]⟩, .string ⟨#[]⟩, .bool false] 32 (0, 0)) by rw [hx_22, hg]; exact heap_alloc_new _ _)
          have HGW := Lib.hid (show wA.heap.size ≤ g by rw [hg]; exact hS0.size)
          have hmA : Mod No wB x_22 := by rw [hx_22]; exact (Mod.refl No _).alloc _
          have Hg := Lib.hid hg
          have HN := Lib.hid hx_22
          clear hg hx_22
          go_simp
          rw [← Hg.out, ← HN.out]
          show K _ _
          have hS1 := hS0.trans hmA
          refine hK.out _ _ (fun _ => hS1) ?_
          clear hK K
          refine wpAnyT_one 5 rfl (by kernel_rfl) rfl ?_
          intro K hK
          go_simp
          go_at_call 20
          with_reducible refine (HK.out _).mono ?_
          rintro e x_22_5 ⟨rfl, hmx_22_5⟩
          have HG := Lib.hid (hmx_22_5.keep HG.out (fun f => f))
          show K _ _
          have hS2 := Mod.trans hS1 hmx_22_5
          refine hK.out _ _ (fun _ => hS2) ?_
          clear hK K
          refine wpAnyT_one 15 rfl (by kernel_rfl) rfl ?_
          intro K hK
          go_simp
          rw [HW1.out, HW2.out]
          go_at_call 21
          with_reducible refine (HV.out _).mono ?_
          rintro e x_22_5_15 ⟨rfl, hmx_22_5_15⟩
          have HG := Lib.hid (hmx_22_5_15.keep HG.out (fun f => f))
          show K _ _
          have hS3 := Mod.trans hS2 hmx_22_5_15
          refine hK.out _ _ (fun _ => hS3) ?_
          clear hK K
          refine wpAnyT_takeV 21 (some 37) ?_ rfl rfl (by kernel_rfl) (fun _ _ _ h => h) hS3 (Or.inl ⟨by rfl, ?_⟩) ?_
          rotate_left
          · (intro w' hSw; (try dsimp only at hSw); go_simp; try with_reducible rfl)
          simp only [Act.put, List.setIfInBounds_toArray, List.set_cons_zero, List.set_cons_succ]
          refine wpAnyT_one 23 rfl (by kernel_rfl) rfl ?_
          intro K hK
          have p0 := cell_of (i := 0) HG.out rfl
          have p1 := cell_of (i := 1) HG.out rfl
          have p2 := cell_of (i := 2) HG.out rfl
          have f0 := frozen_of 0 HG.out
          have f1 := frozen_of 1 HG.out
          have f2 := frozen_of 2 HG.out
          obtain ⟨x_22_5_15_23, hx_22_5_15_23⟩ : ∃ y, y = ((x_22_5_15.setCell ⟨g, 0, none⟩ (.string KK)).setCell ⟨g, 1, none⟩ (.string VV)).setCell ⟨g, 2, none⟩ (.bool gn) := ⟨_, rfl⟩
          have HG2 := Lib.hid (show x_22_5_15_23.heap[g]? = some (.cells #[.string KK, .string VV, .bool gn] 32 (0, 0)) by rw [hx_22_5_15_23, heap_setCell (heap_setCell (heap_setCell HG.out _) _) _]; rfl)
          have hmS : Mod No wA x_22_5_15_23 := by rw [hx_22_5_15_23]; exact ((hS3.setCell (fun h => absurd h (by have := HGW.out; show ¬ g < _; omega)) _).setCell (fun h => absurd h (by have := HGW.out; show ¬ g < _; omega)) _).setCell (fun h => absurd h (by have := HGW.out; show ¬ g < _; omega)) _
          have HN := Lib.hid hx_22_5_15_23
          clear hx_22_5_15_23
          go_simp
          rw [← HN.out]
          show K _ _
          have hS4 := hmS
          refine hK.out _ _ (fun _ => hS4) ?_
          clear hK K
          refine wpAnyT_done (by kernel_rfl) ?_ _
          exact ⟨g, ⟨rfl, rfl, rfl, rfl, rfl, rfl, rfl, rfl, rfl, rfl, rfl, rfl, rfl, trivial⟩, HG2.out, HGW.out, hS4⟩
      · rintro a' w2 ⟨g, hF, hg2, hgw, hm2⟩
        obtain ⟨ts, ds⟩ := a'
        obtain ⟨hsz, hds, hs0, hs1, hs2, hs3, hs4, hs5, hs6, hs7, hs8, hs9, hs52, -⟩ := hF
        dsimp only at hsz hds hs0 hs1 hs2 hs3 hs4 hs5 hs6 hs7 hs8 hs9 hs52
        subst hds
        obtain ⟨c, rfl, hc⟩ := lit53 ts hsz
        rw [hc] at hs0
        rw [hc] at hs1
        rw [hc] at hs2
        rw [hc] at hs3
        rw [hc] at hs4
        rw [hc] at hs5
        rw [hc] at hs6
        rw [hc] at hs7
        rw [hc] at hs8
        rw [hc] at hs9
        rw [hc] at hs52
        simp only [hs0, hs1, hs2, hs3, hs4, hs5, hs6, hs7, hs8, hs9, hs52]
        clear hc hsz hs0 hs1 hs2 hs3 hs4 hs5 hs6 hs7 hs8 hs9 hs52

        have p0 := cell_of (i := 0) hg2 rfl
        have p1 := cell_of (i := 1) hg2 rfl
        have p2 := cell_of (i := 2) hg2 rfl
        rename_i K hK
        refine hK _ _ ?_
        clear hK K
        obtain ⟨w3, hw3⟩ : ∃ w3, w3 = w2.alloc (.cells #[.string KK, .string VV, .bool gn] 32) := ⟨_, rfl⟩
        have hm3 : Mod No wA w3 := by rw [hw3]; exact hm2.alloc _
        have hg3 : w3.heap[g]? = some (.cells #[.string KK, .string VV, .bool gn] 32 (0, 0)) := by rw [hw3]; exact heap_alloc_old _ hg2
        obtain ⟨r, hr⟩ : ∃ r, r = w2.heap.size := ⟨_, rfl⟩
        have HBX := Lib.hid (show Sl w3 No 32 (.slice (some ⟨r, 0, none⟩) 1 1) 1 [.string KK, .string VV, .bool gn] from
          .inr ⟨r, 0, 1, #[.string KK, .string VV, .bool gn], (0, 0), rfl, Nat.le_refl _, by unfold maxLen; omega, fun f => f, by rw [hw3, hr]; exact heap_alloc_new w2 _, Nat.le_refl _, fun i hi => by simp⟩)
        have HO3 := Lib.hid (own_keepM HOWN.out hm3 (fun _ _ f => f))
        have HLT := Lib.hid (HOWN.out.lt)
        have H1C := Lib.hid (show ∀ y ∈ [Value.string KK, .string VV, .bool gn], y.oneCell' = true by
          intro y hy
          simp at hy
          rcases hy with rfl | rfl | rfl <;> rfl)
        have HM3 := Lib.hid hm3
        have HG3 := Lib.hid hg3
        have HR3 := Lib.hid hr
        have HW3 := Lib.hid hw3
        have HGW := Lib.hid hgw
        have HB3 := Lib.hid (show w.heap.size ≤ w3.heap.size by have := HMD.out.size; have := hm3.size; omega)
        clear hg2 hw3 hr hm2 hm3 hg3 hgw
        go_upto_region 6 with fail
        go_wp2_with (rw [← HR3.out, ← HW3.out]; at_builtin; refine app_sl _ rfl _ _ 30 rfl w.heap.size 32 i0 (.agg #[.string ⟨#[]⟩, .string ⟨#[]⟩, .bool false]) 3 40 Tryz.underlying30 hi0 hz0 hz1 hz2 rfl (by decide) _ _ _ rfl HO3.out No 32 _ _ _ rfl HBX.out rfl H1C.out ?_ ?_ HB3.out ?_)
        · unfold maxLen; omega
        · omega
        intro v' w6 hown6 hg6 _
        have HR6 := Lib.hid (show w6.ownsRow w.heap.size 32 3 v' (k + 1) (prCells ((prsOf i l).take (k + 1))) by rw [HCH.out, HPC.out]; exact hown6)
        have hm36 : Mod (fun q => w.heap.size ≤ q ∧ q < wA.heap.size) w3 w6 := Mod.of_grown hg6 (fun q e _ => HLT.out _ e)
        have hg6 := hm36.keep HG3.out (fun e => by have := HGW.out; omega)
        have hmA6 : Mod (fun q => w.heap.size ≤ q ∧ q < wA.heap.size) wA w6 := (HM3.out.weaken fun _ _ f => f.elim).trans hm36
        have hs6 := HS.out.keep hmA6 (fun e => by omega)
        have hm6 : Mod (fun q => q = mb) w w6 := HMD.out.then hmA6 (fun q h1 e => by omega)
        have q0 := cell_of (i := 0) hg6 rfl
        have q1 := cell_of (i := 1) hg6 rfl
        have q2 := cell_of (i := 2) hg6 rfl
        obtain ⟨D, d1, d2, d3⟩ := hs6.row
        have hT := d1.tidy key_str
        have hsz : Maps.size D < maxLen := by unfold maxLen; omega
        have HD := Lib.hid (And.intro d1 (And.intro d2 (And.intro d3 hT)))
        have HM6 := Lib.hid hm6
        clear d1 d2 d3 hT hm36 hg6 hmA6 hs6 hm6 hown6 HM3 HG3 HBX HO3 H1C HB3 HLT
        cases gn with
        | true =>
          go_upto_region 8 with fail
          obtain ⟨w7, hdr0, hmp, hm7, -⟩ := HD.out.1.drop key_str (t := 40) Tryz.underlying40 HKY.out 0
          have hdr : ∀ ty, (Builtin.delete_ #[40, 9] ty #[.map (some mb), .string KK]).run Tryz.prog w6 = .ok (.tuple #[]) w7 := fun ty => hdr0
          clear hdr0
          have HE := Lib.hid (SMp.delD HD.out.2.2.2 HD.out.2.1 HD.out.2.2.1 hmp)
          have HM7 := Lib.hid (HM6.out.trans hm7)
          have HR7 := Lib.hid (own_keepM HR6.out hm7 (fun q h1 e => by have e : q = mb := e; have := (HR6.out.lt _ h1).1; omega))
          clear hmp hm7
          go_wp2_with fail
          exact ⟨⟨k + 1, by omega, by go_num, HR7.out, by rw [HCH.out, HMC.out]; exact HE.out.more (by omega), HM7.out⟩, by go_light; simp only [intOf]; omega⟩
        | false =>
          go_upto_region 9 with fail
          obtain ⟨w7, hst, hmp, hm7, -⟩ := HD.out.1.store key_str (t := 40) (val := .string VV) Tryz.underlying40 hsz HKY.out
          have HE := Lib.hid (SMp.putD (v := val) HD.out.2.2.2 HD.out.2.1 HD.out.2.2.1 (by rw [HVV.out]; exact hmp))
          have HM7 := Lib.hid (HM6.out.trans hm7)
          have HR7 := Lib.hid (own_keepM HR6.out hm7 (fun q h1 e => by have e : q = mb := e; have := (HR6.out.lt _ h1).1; omega))
          clear hmp hm7
          go_wp2_with fail
          exact ⟨⟨k + 1, by omega, by go_num, HR7.out, by rw [HCH.out, HMC.out]; exact HE.out, HM7.out⟩, by go_light; simp only [intOf]; omega⟩
    · have hkn : k = l.length := by omega
      subst hkn
      rw [List.take_of_length_le (by rw [prsOf_len]; exact Nat.le_refl _)] at hown hs
      have HOWN := Lib.hid hown
      have HS := Lib.hid hs
      have HMD := Lib.hid hm
      clear hown hs hm
      go_wp2_with fail
      exact fin hR ⟨_, rfl, HOWN.out, HS.out, HMD.out⟩

end Go.Proofs.YtkeopmfmlciadaaGreat
namespace Go.Proofs.YtkeopmfmlciadaaGreat
open Go.RowKit Go.Maps Go.Sort

theorem getV_none {M : Mt} {k : List UInt8} (h : M k = none) : getV M k = .tuple #[.string ⟨#[]⟩, .bool false] := by unfold getV; rw [h]; rfl
theorem getV_some {M : Mt} {k v : List UInt8} (h : M k = some v) : getV M k = .tuple #[.string ⟨v.toArray⟩, .bool true] := by unfold getV; rw [h]; rfl

theorem pref_nil (l : List UInt8) : pref [] l = true := by simp [pref]

theorem filter_nil (ks : List (List UInt8)) : ks.filter (pref []) = ks := List.filter_eq_self.2 fun x _ => pref_nil x

/-- Rising, each once. -/
theorem KeysOfM.lt {M : Mt} {ks : List (List UInt8)} (h : KeysOfM M ks) (i : Nat) (hi : i + 1 < ks.length) : ks[i] < ks[i + 1] := by
  have h1 := List.pairwise_iff_getElem.1 h.sorted i (i + 1) (by omega) hi (by omega)
  have h2 := List.pairwise_iff_getElem.1 h.nodup i (i + 1) (by omega) hi (by omega)
  simp only [leB, decide_eq_true_eq] at h1
  exact Std.lt_of_le_of_ne h1 h2

theorem wt_le {M : Mt} (h : Seven M) (k : List UInt8) : wt M k ≤ k.length + 300 := by
  unfold wt
  cases e : M k with
  | none => simp
  | some v => have := (h k v e).2; simp; omega

theorem metK_small {M : Mt} (h : Seven M) (j : Nat) (hj : j ≤ 7) : (metK M j).length ≤ 7 ∧ ((metK M j).map (wt M)).sum ≤ 3000 := by
  have hl : (metK M j).length ≤ 7 := by
    unfold metK
    refine Nat.le_trans (List.length_filter_le _ _) ?_
    rw [List.length_take]; omega
  refine ⟨hl, ?_⟩
  have hs : ∀ (l : List (List UInt8)), (∀ k ∈ l, k ∈ sevenK) → (l.map (wt M)).sum ≤ 303 * l.length := by
    intro l
    induction l with
    | nil => intro _; simp
    | cons x l ih =>
      intro hk
      have h1 := ih fun k hk' => hk k (by simp [hk'])
      have h2 := wt_le h x
      have h3 := seven_len x (hk x (by simp))
      simp only [List.map_cons, List.sum_cons, List.length_cons]
      omega
  have := hs (metK M j) fun k hk => by
    unfold metK at hk
    exact List.mem_of_mem_take (List.mem_filter.1 hk).1
  omega

set_option maxRecDepth 100000 in
set_option maxHeartbeats 4000000 in
theorem alike5_any {w0 w : World} {N sz b s mb n nm cnt : Nat} {O : Nat → Prop} {M : Mt} (h : Sto w0 w N sz b s O n M cnt) (hm : SMp w mb nm M) (h7 : Seven M) (hn : n ≤ 100000) :
    Calls Tryz.prog 19 #[.pointer (some ⟨s, 0, none⟩), .map (some mb)] w fun e w' => e = .returned (.bool true) ∧ Mod No w w' := by
  refine calls_hide fun R hR => ?_
  have H := Lib.hid h
  have HM := Lib.hid hm
  have H7 := Lib.hid h7
  clear h hm h7
  go_enter Tryz.func19, Tryz.ntmps19
  go_wp2_with fail
  go_loopw [5, 6, 7] (fun x y q wr => ∃ j : Nat, j ≤ 7 ∧ q = .int .u8 j ∧ x = .int .i64 ((metK M j).length : Nat) ∧ y = .int .i64 (((metK M j).map (wt M)).sum : Nat) ∧ Mod No w wr) (fun _ _ q _ => 7 - (intOf q).toNat)
  case atStart => exact ⟨0, by omega, rfl, rfl, rfl, Mod.refl _ _⟩
  case round =>
    obtain ⟨j, hj, rfl, rfl, rfl, hmod⟩ := hrel
    have hj0 : (0 : Int) ≤ (j : Int) := Int.natCast_nonneg _
    by_cases hlt : j < 7
    · have hj1 : (j : Int) < 7 := by omega
      have hsm := metK_small H7.out j (by omega)
      have HSU := Lib.hid (metK_succ M j hlt)
      have HKC := Lib.hid (show ∀ W, Calls Tryz.prog 20 #[.int .u8 (j : Int)] W fun e w' => e = .returned (.string ⟨(keyOfN j).toArray⟩) ∧ Mod No W w' from fun W => key5_any j (by omega) W)
      have hkl : (keyOfN j).length ≤ 3 := seven_len _ (key_seven j)
      have HKL := Lib.hid hkl
      have HV7 := Lib.hid (H7.out (keyOfN j))
      have HMJ := Lib.hid hmod
      clear hmod
      obtain ⟨cn, hcn⟩ : ∃ cn, cn = (metK M j).length := ⟨_, rfl⟩
      obtain ⟨ct, hct⟩ : ∃ ct, ct = ((metK M j).map (wt M)).sum := ⟨_, rfl⟩
      have HCN := Lib.hid (And.intro hcn hct)
      rw [← hcn, ← hct]
      rw [← hcn, ← hct] at hsm
      clear hcn hct
      have HGT := Lib.hid (fun W (hW : Mod No w W) => (H.out.stay hW).get (keyOfN j) (by omega))
      have HLK := Lib.hid (fun W (hW : Mod No w W) => (HM.out.keep hW (fun f => f)).look (keyOfN j) (by omega))
      obtain ⟨key, hkey⟩ : ∃ key, key = keyOfN j := ⟨_, rfl⟩
      rw [← hkey] at HSU HKC HKL HV7 HGT HLK hkl
      have hwk := fun v (hv : M key = some v) => show wt M key = key.length + v.length by unfold wt; rw [hv]; rfl
      have hks := str_size_list key
      clear hkey
      cases hM : M key with
      | none =>
        have HG2 := Lib.hid (show ∀ W, Mod No w W → Calls Tryz.prog 17 #[.pointer (some ⟨s, 0, none⟩), .string ⟨key.toArray⟩] W fun e w' => e = .returned (.tuple #[.string ⟨#[]⟩, .bool false]) ∧ w' = W from fun W hW => by have := HGT.out W hW; rw [getV_none hM] at this; exact this)
        have HL2 := Lib.hid (show ∀ W, Mod No w W → (Instr.lookup 40 (.map (some mb)) (.string ⟨key.toArray⟩) true).run Tryz.prog W = .ok (.tuple #[.string ⟨#[]⟩, .bool false]) W from fun W hW => by rw [HLK.out W hW, getV_none hM])
        have HSU2 := Lib.hid (show metK M (j + 1) = metK M j by rw [HSU.out, hM]; simp)
        clear HGT HLK hwk hM HSU
        generalize (⟨key.toArray⟩ : ByteArray) = KK at *
        go_wp2_with fail
        with_reducible refine (HKC.out _).mono ?_
        rintro e w1 ⟨rfl, hm1⟩
        have HM1 := Lib.hid (HMJ.out.trans hm1)
        clear hm1
        go_wp2_with fail
        with_reducible refine (HG2.out _ HM1.out).mono ?_
        rintro e w2 ⟨rfl, h2⟩
        subst h2
        go_wp2_with fail
        with_reducible refine (HKC.out _).mono ?_
        rintro e w3 ⟨rfl, hm3⟩
        have HM3 := Lib.hid (HM1.out.trans hm3)
        have hl2 := HL2.out _ HM3.out
        clear hm3
        go_wp2_with fail
        exact ⟨⟨j + 1, by omega, by go_num, by rw [HSU2.out, ← HCN.out.1], by rw [HSU2.out, ← HCN.out.2], HM3.out⟩, by go_light; simp only [intOf]; omega⟩
      | some v =>
        have hv3 := (HV7.out v hM).2
        have HG2 := Lib.hid (show ∀ W, Mod No w W → Calls Tryz.prog 17 #[.pointer (some ⟨s, 0, none⟩), .string ⟨key.toArray⟩] W fun e w' => e = .returned (.tuple #[.string ⟨v.toArray⟩, .bool true]) ∧ w' = W from fun W hW => by have := HGT.out W hW; rw [getV_some hM] at this; exact this)
        have HL2 := Lib.hid (show ∀ W, Mod No w W → (Instr.lookup 40 (.map (some mb)) (.string ⟨key.toArray⟩) true).run Tryz.prog W = .ok (.tuple #[.string ⟨v.toArray⟩, .bool true]) W from fun W hW => by rw [HLK.out W hW, getV_some hM])
        have HSU2 := Lib.hid (show metK M (j + 1) = metK M j ++ [key] by rw [HSU.out, hM]; simp)
        have HSU3 := Lib.hid (show ((metK M (j + 1)).map (wt M)).sum = ct + (key.length + v.length) by rw [HSU2.out, List.map_append, List.sum_append_nat, ← HCN.out.2]; simp [hwk v hM])
        have hvs := str_size_list v
        clear HGT HLK hwk hM HSU
        generalize (⟨key.toArray⟩ : ByteArray) = KK at *
        generalize (⟨v.toArray⟩ : ByteArray) = VV at *
        go_wp2_with fail
        with_reducible refine (HKC.out _).mono ?_
        rintro e w1 ⟨rfl, hm1⟩
        have HM1 := Lib.hid (HMJ.out.trans hm1)
        clear hm1
        go_wp2_with fail
        with_reducible refine (HG2.out _ HM1.out).mono ?_
        rintro e w2 ⟨rfl, h2⟩
        subst h2
        go_wp2_with fail
        with_reducible refine (HKC.out _).mono ?_
        rintro e w3 ⟨rfl, hm3⟩
        have HM3 := Lib.hid (HM1.out.trans hm3)
        have hl2 := HL2.out _ HM3.out
        clear hm3
        go_wp2_with fail
        with_reducible refine (HKC.out _).mono ?_
        rintro e w4 ⟨rfl, hm4⟩
        have HM4 := Lib.hid (HM3.out.trans hm4)
        clear hm4
        go_wp2_with fail
        exact ⟨⟨j + 1, by omega, by go_num, by rw [HSU2.out, List.length_append, ← HCN.out.1]; go_num, by rw [HSU3.out]; go_num, HM4.out⟩, by go_light; simp only [intOf]; omega⟩
    · have hj7 : j = 7 := by omega
      subst hj7
      have HMJ := Lib.hid hmod
      have hsm := metK_small H7.out 7 (by omega)
      have HML := Lib.hid (fun ks => metK_len (ks := ks) H7.out)
      have HMS := Lib.hid (fun ks => metK_sum (ks := ks) H7.out)
      have HKY := Lib.hid ((H.out.stay hmod).keys hn [])
      clear hmod
      generalize (metK M 7).length = cn at *
      generalize ((metK M 7).map (wt M)).sum = ct at *
      go_wp2_with fail
      with_reducible refine HKY.out.mono ?_
      clear HKY
      rintro e w1 ⟨v, ks, rfl, hks, ho, hm1⟩
      rw [filter_nil] at ho
      obtain ⟨va, vc, rfl⟩ := own_len ho
      have HKS := Lib.hid hks
      have HO := Lib.hid (Sl.of_own (X := No) ho (fun _ _ f => f))
      have HM1 := Lib.hid (HMJ.out.trans hm1)
      obtain rfl := (HML.out ks hks)
      have hks7 : ks.length ≤ 7 := by omega
      clear hks ho hm1 HML
      go_wp2_with fail
      go_loopw [13] (fun q wr => ∃ i : Nat, 1 ≤ i ∧ i ≤ 8 ∧ q = .int .i64 i ∧ Mod No w1 wr) (fun q _ => 9 - (intOf q).toNat)
      case atStart => exact ⟨1, by omega, by omega, rfl, Mod.refl _ _⟩
      case round =>
        obtain ⟨i, hi1, hi8, rfl, hmod⟩ := hrel
        have hi0 : (1 : Int) ≤ (i : Int) := by omega
        by_cases hlt : i < ks.length
        · have hi2 : (i : Int) < (ks.length : Int) := by omega
          obtain ⟨b1, o1, k1, hv1, hc1⟩ := str_cell HO.out (k := i - 1) (by omega)
          cases hv1
          obtain ⟨b2, o2, k2, hv2, hc2⟩ := str_cell HO.out hlt
          cases hv2
          have hc1 := hmod.cell hc1 (fun f => f)
          have hc2 := hmod.cell hc2 (fun f => f)
          have hi4 : ((i - 1 : Nat) : Int) = (i : Int) - 1 := by omega
          have HM := Lib.hid hmod
          clear hmod
          have hbl : Op.bytesLess ks[i - 1] ks[i] = true := by
            have h1 := HKS.out.lt (i - 1) (by omega)
            have h2 : i - 1 + 1 = i := by omega
            simp only [h2] at h1
            rw [bytesLess_eq]; simpa using h1
          go_wp2_with fail
          go_quiet (fail)
          go_wp2_with fail
          exact ⟨⟨i + 1, by omega, by omega, by go_num, HM.out.drewN _⟩, by go_light; simp only [intOf]; omega⟩
        · have hi2 : (ks.length : Int) ≤ (i : Int) := by omega
          have HM2 := Lib.hid (HM1.out.trans hmod)
          have HM12 := Lib.hid hmod
          clear hmod
          go_wp2_with fail
          go_loopw [14, 15] (fun x q wr => ∃ i : Nat, i ≤ ks.length ∧ q = .int .i64 i ∧ x = .int .i64 (((ks.take i).filter (pref [97, 47])).length : Nat) ∧ Mod No w1 wr) (fun _ q _ => 9 - (intOf q).toNat)
          case atStart => exact ⟨0, by omega, rfl, rfl, HM12.out⟩
          case round =>
            obtain ⟨j, hj, rfl, rfl, hmod⟩ := hrel
            have hj0 : (0 : Int) ≤ (j : Int) := Int.natCast_nonneg _
            by_cases hlt2 : j < ks.length
            · have hj1 : (j : Int) < (ks.length : Int) := by omega
              obtain ⟨b1, o1, k1, hv1, hc1⟩ := str_cell HO.out hlt2
              cases hv1
              have hc1 := hmod.cell hc1 (fun f => f)
              have HT := Lib.hid (show (ks.take (j + 1)).filter (pref [97, 47]) = (ks.take j).filter (pref [97, 47]) ++ if pref [97, 47] ks[j] then [ks[j]] else [] by
                rw [List.take_succ_eq_append_getElem hlt2, List.filter_append]
                congr 1
                simp [List.filter_cons])
              have hfl : ((ks.take j).filter (pref [97, 47])).length ≤ 100000 := Nat.le_trans (List.length_filter_le _ _) (by rw [List.length_take]; omega)
              have hsz := str_size_list ks[j]
              have HMJ2 := Lib.hid hmod
              clear hmod
              generalize (ks.take j).filter (pref [97, 47]) = done at *
              generalize ks[j] = k at *
              by_cases hlen : 2 ≤ k.length
              · have hx : (((⟨k.toArray⟩ : ByteArray).extract 0 2).toList == [97, 47]) = pref [97, 47] k := by
                  rw [ByteArray.toList_eq, Lib.extract_data]
                  unfold pref
                  rw [Bool.eq_iff_iff]
                  simp
                cases hp : pref [97, 47] k with
                | true =>
                  have HP := Lib.hid hp
                  rw [hp] at hx
                  generalize (⟨k.toArray⟩ : ByteArray) = K at *
                  have hsz2 : (2 : Int) ≤ (K.size : Int) := by omega
                  clear hp
                  go_wp2_with fail
                  exact ⟨⟨j + 1, by omega, by go_num, by rw [HT.out, HP.out, if_pos rfl, List.length_append]; go_num, HMJ2.out⟩, by go_light; simp only [intOf]; omega⟩
                | false =>
                  have HP := Lib.hid hp
                  rw [hp] at hx
                  generalize (⟨k.toArray⟩ : ByteArray) = K at *
                  have hsz2 : (2 : Int) ≤ (K.size : Int) := by omega
                  clear hp
                  go_wp2_with fail
                  exact ⟨⟨j + 1, by omega, by go_num, by rw [HT.out, HP.out]; simp, HMJ2.out⟩, by go_light; simp only [intOf]; omega⟩
              · have HP := Lib.hid (show pref [97, 47] k = false by
                  unfold pref
                  refine decide_eq_false fun e => hlen ?_
                  have := congrArg List.length e
                  rw [List.length_take] at this
                  simp at this; omega)
                generalize (⟨k.toArray⟩ : ByteArray) = K at *
                have hsz2 : (K.size : Int) < 2 := by omega
                go_wp2_with fail
                exact ⟨⟨j + 1, by omega, by go_num, by rw [HT.out, HP.out]; simp, HMJ2.out⟩, by go_light; simp only [intOf]; omega⟩
            · have hjl : j = ks.length := by omega
              subst hjl
              rw [List.take_length]
              have HML := Lib.hid (HM1.out.trans hmod)
              have HSZ := Lib.hid ((H.out.stay HML.out).size HKS.out (by rw [← HMS.out ks HKS.out]; omega))
              rw [← HMS.out ks HKS.out] at HSZ
              clear hmod
              go_wp2_with fail
              with_reducible refine HSZ.out.mono ?_
              rintro e w5 ⟨rfl, hm5⟩
              have HK2 := Lib.hid ((H.out.stay (HML.out.trans hm5)).keys hn [97, 47])
              have HM5 := Lib.hid (HML.out.trans hm5)
              clear hm5 HSZ
              go_wp2_with fail
              with_reducible refine HK2.out.mono ?_
              rintro e w6 ⟨v6, ks2, rfl, hks2, ho2, hm6⟩
              obtain rfl := hks2.unique HKS.out
              obtain ⟨va2, vc2, rfl⟩ := own_len ho2
              have HM6 := Lib.hid (HM5.out.trans hm6)
              clear hks2 ho2 hm6 HK2
              go_wp2_with fail
              exact fin hR ⟨rfl, HM6.out⟩

end Go.Proofs.YtkeopmfmlciadaaGreat
namespace Go.Proofs.YtkeopmfmlciadaaGreat
open Go.RowKit Go.Maps

theorem Sto.keepM {S : Nat → Prop} {w0 w w' : World} {N sz b s n cnt : Nat} {O : Nat → Prop} {M : Mt} (h : Sto w0 w N sz b s O n M cnt) (hm : Mod S w w') (hO : ∀ q, O q → ¬ S q) (hb : ∀ q cur fz, S q → w.heap[q]? ≠ some (.cells cur 5 fz)) (hl : ∀ q, q < w0.heap.size → ¬ S q) : Sto w0 w' N sz b s O n M cnt := by
  obtain ⟨p, m, sb, mb, ub, d, L, rs, h1, h2, h3, h4, h5, h6, h7, h8, h9, h10⟩ := h.has
  exact ⟨⟨p, m, sb, mb, ub, d, L, rs, h1.keepS hm (fun q e => hO q (h9 q (.inl e))) hb, h2, h3, h4.keep hm (hO _ (h9 s (.inr (.inl rfl)))) (hO _ (h9 m (.inr (.inr rfl)))), h5, h6, h7, h8, h9, h10⟩, h.low, fun q hq => Nat.lt_of_lt_of_le (h.high q hq) hm.size, h.mod.then hm fun i hi e => hl i hi e⟩

/-- A law's store at s over a disk at b, and its own map at mb, which has what the store has. -/
structure Lv (w0 w : World) (N sz b s mb : Nat) (M : Mt) (n cnt : Nat) : Prop where
  has : ∃ O n1 c1, n1 ≤ n ∧ c1 ≤ cnt ∧ Sto w0 w N sz b s O n1 M c1 ∧ ¬ O mb
  map : ∃ n1, n1 ≤ n ∧ SMp w mb n1 M
  new : w0.heap.size ≤ mb
  seven : Seven M

theorem Lv.mod {w0 w : World} {N sz b s mb n cnt : Nat} {M : Mt} (h : Lv w0 w N sz b s mb M n cnt) : Mod No w0 w := by
  obtain ⟨O, n1, c1, -, -, h1, -⟩ := h.has
  exact h1.mod

theorem Lv.stay {w0 w w' : World} {N sz b s mb n cnt : Nat} {M : Mt} (h : Lv w0 w N sz b s mb M n cnt) (hm : Mod No w w') : Lv w0 w' N sz b s mb M n cnt := by
  obtain ⟨O, n1, c1, e1, e2, h1, h2⟩ := h.has
  obtain ⟨n2, e3, h3⟩ := h.map
  exact ⟨⟨O, n1, c1, e1, e2, h1.stay hm, h2⟩, ⟨n2, e3, h3.keep hm (fun f => f)⟩, h.new, h.seven⟩

/-- With an empty map. -/
theorem Lv.first {w0 w : World} {N sz b s : Nat} {O : Nat → Prop} (h : Sto w0 w N sz b s O 0 (fun _ => none) 0) : Lv w0 (w.alloc (.map #[] 0)) N sz b s w.heap.size (fun _ => none) 7 0 :=
  ⟨⟨O, 0, 0, by omega, by omega, h.stay ((Mod.refl No w).alloc _), fun e => by have := h.high _ e; omega⟩, ⟨0, by omega, SMp.made w⟩, h.mod.size, seven_none⟩

theorem Lv.alike {w0 w : World} {N sz b s mb n cnt : Nat} {M : Mt} (h : Lv w0 w N sz b s mb M n cnt) (hn : n ≤ 100000) :
    Calls Tryz.prog 19 #[.pointer (some ⟨s, 0, none⟩), .map (some mb)] w fun e w' => e = .returned (.bool true) ∧ Lv w0 w' N sz b s mb M n cnt ∧ Mod No w w' := by
  obtain ⟨O, n1, c1, e1, e2, h1, h2⟩ := h.has
  obtain ⟨n2, e3, h3⟩ := h.map
  refine (alike5_any h1 h3 h.seven (by omega)).mono ?_
  rintro e w' ⟨rfl, hm⟩
  exact ⟨rfl, h.stay hm, hm⟩

theorem Lv.compact {w0 w : World} {N sz b s mb n cnt : Nat} {M : Mt} (h : Lv w0 w N sz b s mb M n cnt) (hN : 64 ≤ N) (hs : 256 ≤ sz) (hn : n ≤ 100000) (hc : cnt ≤ 1000000000) :
    Calls Tryz.prog 23 #[.pointer (some ⟨s, 0, none⟩)] w fun e w' => e = .returned (.int .i64 0) ∧ Lv w0 w' N sz b s mb M n (cnt + 1) := by
  obtain ⟨O, n1, c1, e1, e2, h1, h2⟩ := h.has
  obtain ⟨n2, e3, h3⟩ := h.map
  refine (h1.compact h.seven.mid (h.seven.fits hN hs) (by omega) (by omega)).mono ?_
  rintro e w' ⟨rfl, h4, hm⟩
  exact ⟨rfl, ⟨O, n1, c1 + 1, e1, by omega, h4, h2⟩, ⟨n2, e3, h3.keep hm h2⟩, h.new, h.seven⟩

theorem Lv.reopen {w0 w : World} {N sz b s mb n cnt : Nat} {M : Mt} (h : Lv w0 w N sz b s mb M n cnt) (hn : 7 ≤ n) :
    Calls Tryz.prog 12 #[.pointer (some ⟨b, 0, none⟩)] w fun e w' => ∃ s', e = .returned (.tuple #[.pointer (some ⟨s', 0, none⟩), .int .i64 0]) ∧ Lv w0 w' N sz b s' mb M n cnt := by
  obtain ⟨O, n1, c1, e1, e2, h1, h2⟩ := h.has
  obtain ⟨n2, e3, h3⟩ := h.map
  refine (h1.reopen sevenK (fun k hk => by
    obtain ⟨v, hv⟩ := Option.isSome_iff_exists.1 hk
    exact (h.seven k v hv).1)).mono ?_
  rintro e w' ⟨s', O', rfl, h4, h5, hm⟩
  exact ⟨s', rfl, ⟨O', 7, c1, hn, e2, h4, fun e => h2 (h5 mb h3.lt e)⟩, ⟨n2, e3, h3.keep hm (fun f => f)⟩, h.new, h.seven⟩

theorem Lv.down {w0 w : World} {N sz b s mb n cnt : Nat} {M : Mt} (h : Lv w0 w N sz b s mb M n cnt) :
    Calls Tryz.prog 24 #[.pointer (some ⟨s, 0, none⟩)] w fun e w' => e = .returned (.bool false) ∧ w' = w := by
  obtain ⟨O, n1, c1, e1, e2, h1, h2⟩ := h.has
  exact h1.down

theorem prs_at {l : List Pr} : ∀ {i : Nat} (hi : i < l.length), (prCells l)[i * 3]? = some (.string ⟨l[i].key.toArray⟩) ∧ (prCells l)[i * 3 + 1]? = some (.string ⟨l[i].value.toArray⟩) ∧ (prCells l)[i * 3 + 2]? = some (.bool l[i].gone) := by
  induction l with
  | nil => intro i hi; cases hi
  | cons p l ih =>
    intro i hi
    have e : prCells (p :: l) = [.string ⟨p.key.toArray⟩, .string ⟨p.value.toArray⟩, .bool p.gone] ++ prCells l := by
      rw [show p :: l = [p] ++ l from rfl, prCells_append]; rfl
    rw [e]
    cases i with
    | zero => exact ⟨rfl, rfl, rfl⟩
    | succ i =>
      have := ih (i := i) (by simpa using hi)
      have e3 : (i + 1) * 3 = i * 3 + 3 := by omega
      rw [e3]
      exact ⟨this.1, this.2.1, this.2.2⟩

/-- Pairs in a row of one's own. -/
theorem prs_own {w : World} {base : Nat} {a : Option Addr} {c : Nat} {l : List Pr} (h : w.ownsRow base 32 3 (.slice a l.length c) l.length (prCells l)) : Prs w No a l :=
  ⟨fun i hi => by
    obtain ⟨g, cap, hv, hg⟩ := own_shape h (by omega)
    cases hv
    have hc : ∀ j v, (prCells l)[j]? = some v → w.cell? ⟨g, j, none⟩ = some v := fun j v e => by
      have := h.cells (g := g) rfl j v e
      simpa [Addr.add_lit] using this
    obtain ⟨q1, q2, q3⟩ := prs_at hi
    refine ⟨g, 0, rfl, fun f => f, ?_, ?_, ?_⟩
    · rw [Nat.zero_add]; exact hc _ _ q1
    · rw [Nat.zero_add]; exact hc _ _ q2
    · rw [Nat.zero_add]; exact hc _ _ q3⟩

/-- A batch: its pairs, done to the map; then put into the store. -/
theorem Lv.batch {w0 w : World} {N sz b s mb n cnt : Nat} {M : Mt} (h : Lv w0 w N sz b s mb M n cnt) (hN : 64 ≤ N) (hs : 256 ≤ sz) (hc : cnt ≤ 1000000000) (i : Nat) (hi : i ≤ 1000) {a : Option Addr} {c : Nat} {l : List P5} (hl : PsIn w a l.length l) (hle : l.length ≤ 1000) (hn : n + l.length ≤ 100000) :
    Calls Tryz.prog 18 #[.int .i64 (i : Int), .slice a l.length c, .map (some mb)] w fun e w' => ∃ va vc, e = .returned (.slice va l.length vc) ∧
      ∀ W, W = w' → Calls Tryz.prog 14 #[.pointer (some ⟨s, 0, none⟩), .slice va l.length vc] W fun e w'' => e = .returned (.int .i64 0) ∧ Lv w0 w'' N sz b s mb (M.changes (prsOf i l)) (n + l.length) (cnt + 1) := by
  obtain ⟨O, n1, c1, e1, e2, h1, h2⟩ := h.has
  obtain ⟨n2, e3, h3⟩ := h.map
  refine (pairs5_any h3 hl hi hle (by omega)).mono ?_
  rintro e w' ⟨v, rfl, ho, hm, hmod⟩
  obtain ⟨va, vc, rfl⟩ := own_len ho
  refine ⟨va, vc, rfl, fun W hW => ?_⟩
  subst hW
  have h1' := h1.keepM hmod (fun q e f => by have f : q = mb := f; subst f; exact h2 e) (fun q cur fz e => by have e : q = mb := e; subst e; exact h3.not_cells cur _ fz) (fun q hq e => by have e : q = mb := e; have := h.new; omega)
  have h7 : Seven (M.changes (prsOf i l)) := h.seven.changes (prsOf_seven i hl.low)
  have hlen := prsOf_len i l
  have hp : Prs W No va (prsOf i l) := prs_own (c := vc) (by rw [hlen]; exact ho)
  have hap := h1'.apply (c := vc) hp (prsOf_seven i hl.low).mid h7.mid (h7.fits hN hs) (by omega) (by omega) (by omega)
  rw [hlen] at hap
  refine hap.mono ?_
  rintro e w'' ⟨rfl, O', h4, h5, hm2⟩
  refine ⟨rfl, ⟨O', n1 + l.length, c1 + 1, by omega, by omega, h4, fun e => h2 (h5 mb hm.lt e)⟩, ⟨n2 + l.length, by omega, hm.keep hm2 h2⟩, h.new, h7⟩

theorem PsIn.keep {S : Nat → Prop} {w w' : World} {a : Option Addr} {n : Nat} {l : List P5} (h : PsIn w a n l) (hm : Mod S w w') (hs : ∀ k cur t fz, S k → w.heap[k]? ≠ some (.cells cur t fz)) : PsIn w' a n l :=
  ⟨h.len, fun i hi => by
    obtain ⟨b, o, e, c0, c1, c2⟩ := h.at_ i hi
    have hn : ¬ S b := fun s => by
      obtain ⟨cur, t, fz, hb⟩ := cells_of_cell c0
      exact hs b cur t fz s hb
    exact ⟨b, o, e, hm.cell c0 hn, hm.cell c1 hn, hm.cell c2 hn⟩, h.low⟩

theorem PsIn.stay {w w' : World} {a : Option Addr} {n : Nat} {l : List P5} (h : PsIn w a n l) (hm : Mod No w w') : PsIn w' a n l := h.keep hm (fun _ _ _ _ f => f.elim)

theorem AsIn.stay {w w' : World} {a : Option Addr} {n : Nat} {l : List A5} (h : AsIn w a n l) (hm : Mod No w w') : AsIn w' a n l :=
  ⟨h.len, fun i hi => by
    obtain ⟨b, o, e, c0, c1, c2⟩ := h.at_ i hi
    exact ⟨b, o, e, hm.cell c0 (fun f => f), hm.cell c1 (fun f => f), c2.stay hm⟩⟩

/-- One pair that is put, into the store and into the map. -/
theorem Lv.one {w0 w : World} {N sz b s mb n cnt : Nat} {M : Mt} (h : Lv w0 w N sz b s mb M n cnt) (hN : 64 ≤ N) (hs : 256 ≤ sz) (hc : cnt ≤ 1000000000) {k v : List UInt8} (hk : k ∈ sevenK) (hv : v.length ≤ 300) (hn : n + 1 ≤ 100000) {g : Nat}
    (hg : w.heap[g]? = some (.cells #[.string ⟨k.toArray⟩, .string ⟨v.toArray⟩, .bool false] 32 (0, 0))) :
    Calls Tryz.prog 14 #[.pointer (some ⟨s, 0, none⟩), .slice (some ⟨g, 0, none⟩) 1 1] w fun e w' => e = .returned (.int .i64 0) ∧
      ∃ W, (Instr.mapUpdate 40 (.map (some mb)) (.string ⟨k.toArray⟩) (.string ⟨v.toArray⟩)).run Tryz.prog w' = .ok () W ∧ Lv w0 W N sz b s mb (M.put k v) (n + 1) (cnt + 1) := by
  obtain ⟨O, n1, c1, e1, e2, h1, h2⟩ := h.has
  obtain ⟨n2, e3, h3⟩ := h.map
  have hkl := seven_len k hk
  have hp : Prs w No (some ⟨g, 0, none⟩) [⟨k, v, false⟩] := prs_one hg (fun f => f)
  have hmid : MidP [⟨k, v, false⟩] := fun p hp => by
    obtain rfl := List.mem_singleton.1 hp
    exact ⟨by show k.length ≤ _; omega, by show v.length ≤ _; omega⟩
  have h7 : Seven (M.changes [⟨k, v, false⟩]) := h.seven.change (p := ⟨k, v, false⟩) ⟨hk, hv⟩
  refine (h1.apply (c := 1) hp hmid h7.mid (h7.fits hN hs) (by show 1 ≤ _; omega) (by show n1 + 1 ≤ _; omega) (by omega)).mono ?_
  rintro e w' ⟨rfl, O', h4, h5, hm2⟩
  replace h4 : Sto w0 w' N sz b s O' (n1 + 1) (M.put k v) (c1 + 1) := h4
  have h7 : Seven (M.put k v) := h7
  have h3' := h3.keep hm2 h2
  have hO' : ¬ O' mb := fun e => h2 (h5 mb h3.lt e)
  obtain ⟨D, d1, d2, d3⟩ := h3'.row
  obtain ⟨W, hst, hmp, hm3, -⟩ := d1.store key_str (t := 40) (val := .string ⟨v.toArray⟩) Tryz.underlying40 (by unfold maxLen; omega) (keyOf_str k (by omega))
  have hE := SMp.putD (v := v) (d1.tidy key_str) d2 d3 hmp
  exact ⟨rfl, W, hst, ⟨O', n1 + 1, c1 + 1, by omega, by omega, h4.keepM hm3 (fun q e f => by have f : q = mb := f; subst f; exact hO' e) (fun q cur fz e => by have e : q = mb := e; subst e; exact h3'.not_cells cur _ fz) (fun q hq e => by have e : q = mb := e; have := h.new; omega), hO'⟩, ⟨n2 + 1, by omega, hE⟩, h.new, h7⟩

theorem Lv.more {w0 w : World} {N sz b s mb n m cnt : Nat} {M : Mt} (h : Lv w0 w N sz b s mb M n cnt) (hn : n ≤ m) : Lv w0 w N sz b s mb M m cnt := by
  obtain ⟨⟨O, n1, c1, e1, e2, r⟩, ⟨n2, e3, r2⟩, r3, r4⟩ := h
  exact ⟨⟨O, n1, c1, by omega, e2, r⟩, ⟨n2, by omega, r2⟩, r3, r4⟩

end Go.Proofs.YtkeopmfmlciadaaGreat
namespace Go.Proofs.YtkeopmfmlciadaaGreat
open Go.RowKit Go.Maps Go.Sort Go.ChangeShapes Go.WideShapes Go.ChangeAt

/-- The keys of a list, each with its value. -/
def PM (f : List UInt8 → List UInt8) (ls : List (List UInt8)) : Mt := fun k => if k ∈ ls then some (f k) else none

theorem PM_nil (f : List UInt8 → List UInt8) : PM f [] = fun _ => none := by funext k; simp [PM]

theorem PM_put (f : List UInt8 → List UInt8) (ls : List (List UInt8)) (s : List UInt8) : (PM f ls).put s (f s) = PM f (ls ++ [s]) := by
  funext k
  unfold Mt.put PM
  by_cases h : k = s
  · subst h; simp
  · simp [h]

theorem PM_changes (f : List UInt8 → List UInt8) (ls : List (List UInt8)) : ∀ (ms : List (List UInt8)), (PM f ls).changes (ms.map fun s => ⟨s, f s, false⟩) = PM f (ls ++ ms) := fun ms => by
  induction ms generalizing ls with
  | nil => simp [Mt.changes]
  | cons s ms ih =>
    show ((PM f ls).put s (f s)).changes (ms.map fun s => ⟨s, f s, false⟩) = _
    rw [PM_put, ih]; simp

theorem PM_congr (f : List UInt8 → List UInt8) {ls ms : List (List UInt8)} (h : ∀ k, k ∈ ls ↔ k ∈ ms) : PM f ls = PM f ms := by
  funext k; unfold PM; simp only [h k]

theorem PM_in {f : List UInt8 → List UInt8} {ls : List (List UInt8)} {k : List UInt8} (h : k ∈ ls) : PM f ls k = some (f k) := if_pos h

theorem PM_mid {f : List UInt8 → List UInt8} {ls : List (List UInt8)} (h : ∀ s ∈ ls, s.length ≤ 60 ∧ (f s).length ≤ 60) : MidM (PM f ls) := fun k v e => by
  unfold PM at e
  split at e
  · rename_i hk; cases e; have := h k hk; omega
  · cases e

theorem PM_keys {f : List UInt8 → List UInt8} {ls ks : List (List UInt8)} (hk : KeysOfM (PM f ls) ks) (k : List UInt8) : k ∈ ks ↔ k ∈ ls := by
  rw [hk.mem]; unfold PM; split <;> simp [*]

theorem PM_few {f : List UInt8 → List UInt8} {ls ks : List (List UInt8)} (hk : KeysOfM (PM f ls) ks) : ks.length ≤ ls.length :=
  hk.nodup.length_le_of_subset fun k h => (PM_keys hk k).1 h

theorem PM_fits {f : List UInt8 → List UInt8} {ls : List (List UInt8)} (h : ∀ s ∈ ls, s.length ≤ 60 ∧ (f s).length ≤ 60) (hl : ls.length ≤ 20) : Fits 400 512 (PM f ls) := fun ks hk => by
  have h1 := body_le2 (l := prB (recsOf (PM f ls) ks)) (m := 400) (fun r hr => by
    obtain ⟨p, hp, rfl⟩ := List.mem_map.1 hr
    obtain ⟨k, hkm, rfl⟩ := List.mem_map.1 hp
    have hkl := (PM_keys hk k).1 hkm
    have h3 := h k hkl
    have e : ((PM f ls k).getD []).length ≤ 60 := by rw [PM_in hkl]; exact h3.2
    have := pairB_len ⟨k, (PM f ls k).getD [], false⟩ (show k.length ≤ _ by omega) (show ((PM f ls k).getD []).length ≤ _ by omega)
    have e2 : (⟨k, (PM f ls k).getD [], false⟩ : Pr).key.length = k.length := rfl
    have e3 : (⟨k, (PM f ls k).getD [], false⟩ : Pr).value.length = ((PM f ls k).getD []).length := rfl
    omega)
  have h2 : (prB (recsOf (PM f ls) ks)).length ≤ 20 := by
    have := PM_few hk
    simp only [prB, recsOf, List.length_map]; omega
  omega

theorem PM_sum {f : List UInt8 → List UInt8} {ls ks : List (List UInt8)} (h : ∀ s ∈ ls, s.length ≤ 60 ∧ (f s).length ≤ 60) (hl : ls.length ≤ 20) (hk : KeysOfM (PM f ls) ks) : (ks.map (wt (PM f ls))).sum ≤ 2400 := by
  have hs : ∀ (l : List (List UInt8)), (∀ k ∈ l, k ∈ ls) → (l.map (wt (PM f ls))).sum ≤ 120 * l.length := by
    intro l
    induction l with
    | nil => intro _; simp
    | cons x l ih =>
      intro hk
      have h1 := ih fun k hk' => hk k (by simp [hk'])
      have hx := hk x (by simp)
      have h2 := h x hx
      have h3 : wt (PM f ls) x ≤ 120 := by unfold wt; rw [PM_in hx]; simp; omega
      simp only [List.map_cons, List.sum_cons, List.length_cons]
      omega
  have := hs ks fun k h => (PM_keys hk k).1 h
  have := PM_few hk
  omega

/-- Rising, each once, in a list whose members are picked. -/
theorem rising {M : Mt} {ks : List (List UInt8)} (h : KeysOfM M ks) (p : List UInt8 → Bool) (i : Nat) (hi : i + 1 < (ks.filter p).length) : (ks.filter p)[i] < (ks.filter p)[i + 1] := by
  have h1 := List.pairwise_iff_getElem.1 (h.sorted.filter p) i (i + 1) (by omega) hi (by omega)
  have h2 := List.pairwise_iff_getElem.1 (h.nodup.filter p) i (i + 1) (by omega) hi (by omega)
  simp only [leB, decide_eq_true_eq] at h1
  exact Std.lt_of_le_of_ne h1 h2

/-- Texts that came in. -/
structure SsIn (w : World) (a : Option Addr) (n : Nat) (ls : List (List UInt8)) : Prop where
  len : ls.length = n
  at_ : ∀ i (hi : i < ls.length), ∃ b o, a = some ⟨b, o, none⟩ ∧ w.cell? ⟨b, o + i, none⟩ = some (.string ⟨ls[i].toArray⟩)
  low : ∀ s ∈ ls, s.length ≤ maxLen

theorem SsIn.stay {w w' : World} {a : Option Addr} {n : Nat} {ls : List (List UInt8)} (h : SsIn w a n ls) (hm : Mod No w w') : SsIn w' a n ls :=
  ⟨h.len, fun i hi => by
    obtain ⟨b, o, e, c⟩ := h.at_ i hi
    exact ⟨b, o, e, hm.cell c (fun f => f)⟩, h.low⟩

theorem str_back (s : ByteArray) : (⟨s.data.toList.toArray⟩ : ByteArray) = s := by
  apply ByteArray.ext; simp

set_option maxRecDepth 100000 in
theorem ss_open {H : Type} {enc : TypeId × Value → H} {w : World} {base : Nat} {held : Bool} {fuel : Nat} {cs : List Value} {x : DataW H × List MemPlace}
    (h : DataW.trod enc Tryz.prog w base (fun _ => true) held fuel 22 cs = some x) : ∃ a len cap, ∃ l : List (List UInt8), cs = [.slice a len cap] ∧ SsIn w a len l := by
  rcases Go.Deep.open_slice Tryz.underlying22 h with ⟨hcs, _⟩ | ⟨ad, len, cap, m, n, D, Pl, hcs, _, hl, _, hm, _, hx⟩
  · exact ⟨none, 0, 0, [], hcs, rfl, fun i hi => absurd hi (Nat.not_lt_zero i), fun p hp => by cases hp⟩
  · have hlm : len ≤ m := by rw [hm]; split <;> omega
    obtain ⟨b, o, sp⟩ := ad
    have e7 : Tryz.prog.cellsOf 9 = 1 := by kernel_rfl
    have hsp : 0 < len → sp = none := fun h0 => by
      obtain ⟨cs', h1, _⟩ := hx 0 (by omega)
      rw [e7] at h1
      obtain ⟨_, hlen, hcell⟩ := World.cells?_some h1
      have h2 := hcell 0 (by omega)
      rw [List.getElem?_eq_getElem (by omega)] at h2
      simpa [Addr.add] using World.cell?_spot h2
    have key : ∀ i, i < len → ∃ v : List UInt8, sp = none ∧ w.cell? ⟨b, o + i, none⟩ = some (.string ⟨v.toArray⟩) ∧ v.length ≤ maxLen := fun i hi => by
      obtain ⟨cs', h1, h2⟩ := hx i (by omega)
      have hs := hsp (by omega)
      subst hs
      rw [e7, add_atS, Nat.mul_one] at h1
      obtain ⟨s, rfl, -, hn⟩ := DataW.trod_string Tryz.underlying9 h2
      exact ⟨s.data.toList, rfl, by rw [str_back]; exact (cellsS h1).2 0 _ rfl, by simpa using hn⟩
    obtain ⟨f, hf⟩ := Go.Deep.choose_lt key
    refine ⟨some ⟨b, o, sp⟩, len, cap, (List.range len).map f, hcs, by simp, fun i hi => ?_, fun p hp => ?_⟩
    · have hi' : i < len := by simpa using hi
      obtain ⟨hs, hc0, _⟩ := hf i hi'
      refine ⟨b, o, by rw [hs], ?_⟩
      simpa using hc0
    · obtain ⟨i, hi, rfl⟩ := List.mem_map.1 hp
      exact (hf i (List.mem_range.1 hi)).2.2

/-- Those of the first i that are met for the first time and begin so. -/
def firsts (q : List UInt8) (ls : List (List UInt8)) : Nat → List (List UInt8)
  | 0 => []
  | i + 1 => firsts q ls i ++ match ls[i]? with
    | some s => if (pref q s && !(ls.take i).contains s) = true then [s] else []
    | none => []

theorem firsts_mem (q : List UInt8) (ls : List (List UInt8)) : ∀ i, i ≤ ls.length → (firsts q ls i).Nodup ∧ ∀ k, k ∈ firsts q ls i ↔ k ∈ ls.take i ∧ pref q k = true
  | 0, _ => by simp [firsts]
  | i + 1, h => by
    obtain ⟨h1, h2⟩ := firsts_mem q ls i (by omega)
    unfold firsts
    rw [List.getElem?_eq_getElem (by omega), List.take_succ_eq_append_getElem (by omega)]
    dsimp only
    generalize ls[i] = s
    by_cases hp : pref q s = true
    · by_cases hc : s ∈ ls.take i
      · have e : (pref q s && !(ls.take i).contains s) = false := by simp [hc]
        rw [e]
        refine ⟨by simpa using h1, fun k => ?_⟩
        simp only [Bool.false_eq_true, if_false, List.append_nil, h2, List.mem_append, List.mem_singleton]
        constructor
        · rintro ⟨a, b⟩; exact ⟨.inl a, b⟩
        · rintro ⟨a | rfl, b⟩
          · exact ⟨a, b⟩
          · exact ⟨hc, b⟩
      · have e : (pref q s && !(ls.take i).contains s) = true := by simp [hc, hp]
        rw [if_pos e]
        refine ⟨?_, fun k => ?_⟩
        · rw [List.nodup_append]
          refine ⟨h1, by simp, fun a ha b hb => ?_⟩
          obtain rfl : b = s := by simpa using hb
          rintro rfl
          exact hc ((h2 _).1 ha).1
        · simp only [List.mem_append, h2, List.mem_singleton]
          constructor
          · rintro (⟨a, b⟩ | rfl)
            · exact ⟨.inl a, b⟩
            · exact ⟨.inr rfl, hp⟩
          · rintro ⟨a | rfl, b⟩
            · exact .inl ⟨a, b⟩
            · exact .inr rfl
    · have e : (pref q s && !(ls.take i).contains s) = false := by simp [hp]
      rw [e]
      refine ⟨by simpa using h1, fun k => ?_⟩
      simp only [Bool.false_eq_true, if_false, List.append_nil, h2, List.mem_append, List.mem_singleton]
      constructor
      · rintro ⟨a, b⟩; exact ⟨.inl a, b⟩
      · rintro ⟨a | rfl, b⟩
        · exact ⟨a, b⟩
        · exact absurd b hp

theorem firsts_len {q : List UInt8} {f : List UInt8 → List UInt8} {ls ks : List (List UInt8)} (hk : KeysOfM (PM f ls) ks) : (firsts q ls ls.length).length = (ks.filter (pref q)).length := by
  obtain ⟨h1, h2⟩ := firsts_mem q ls ls.length (Nat.le_refl _)
  refine ((List.perm_ext_iff_of_nodup h1 (hk.nodup.filter _)).2 fun k => ?_).length_eq
  rw [h2, List.take_length, List.mem_filter, PM_keys hk]

theorem firsts_le (q : List UInt8) (ls : List (List UInt8)) : ∀ i, (firsts q ls i).length ≤ i
  | 0 => by simp [firsts]
  | i + 1 => by
    have := firsts_le q ls i
    unfold firsts
    rw [List.length_append]
    split
    · split <;> simp <;> omega
    · simp; omega

end Go.Proofs.YtkeopmfmlciadaaGreat
