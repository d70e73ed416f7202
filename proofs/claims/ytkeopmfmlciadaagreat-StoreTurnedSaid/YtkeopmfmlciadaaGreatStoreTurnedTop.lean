/-
  StoreTurned: for every input the law returns true, and its arguments read as they did. No conditions beyond the given statement's own.
-/
import Derived.Test.YtkeopmfmlciadaaGreatJLawFive
import Derived.ProofKit
import Derived.OpenShut
import Derived.ShutString
import Derived.ChangeOld
namespace Go.Proofs.YtkeopmfmlciadaaGreat
open Go.RowKit Go.Maps Go.Sort

/-- What a store owns, and nothing else; none of it is a row of bytes. -/
theorem Sto.tight {w0 w : World} {N sz b s n cnt : Nat} {O : Nat → Prop} {M : Mt} (h : Sto w0 w N sz b s O n M cnt) :
    ∃ O', Sto w0 w N sz b s O' n M cnt ∧ (∀ q, O' q → O q) ∧ ∀ q cur fz, O' q → w.heap[q]? ≠ some (.cells cur 5 fz) := by
  obtain ⟨p, m, sb, mb, ub, d, L, rs, h1, h2, h3, h4, h5, h6, h7, h8, h9, h10⟩ := h.has
  refine ⟨fun q => LOwn p b sb mb ub q ∨ q = s ∨ q = m, ⟨⟨p, m, sb, mb, ub, d, L, rs, h1, h2, h3, h4, h5, h6, h7, h8, fun q e => e, h10⟩, fun q e => h.low q (h9 q e), fun q e => h.high q (h9 q e), h.mod⟩, h9, fun q cur fz e => ?_⟩
  rcases e with (e | e | e) | e | e
  · exact h1.disk.not_bytes e cur fz
  · subst e
    intro f
    obtain ⟨es, c, hb⟩ := h1.at_.undone.heap
    rw [hb] at f; cases f
  · subst e
    intro f
    have := h1.at_.obj
    rw [this] at f
    unfold LgObj at f
    cases f
  · subst e
    intro f
    rw [h4.obj] at f; cases f
  · subst e
    exact h4.map.not_cells cur _ fz

theorem Sto.base {w0 w1 w : World} {N sz b s n cnt : Nat} {O : Nat → Prop} {M : Mt} (h : Sto w1 w N sz b s O n M cnt) (hm : Mod No w0 w1) : Sto w0 w N sz b s O n M cnt :=
  ⟨h.has, fun q e => Nat.le_trans hm.size (h.low q e), h.high, hm.trans h.mod⟩

/-- Two stores beside each other; neither owns a block of X. -/
structure Tw (w0 w : World) (s1 s2 b1 b2 n1 n2 c1 c2 : Nat) (M1 M2 : Mt) (X : Nat → Prop) : Prop where
  has : ∃ O1 O2, Sto w0 w 400 512 b1 s1 O1 n1 M1 c1 ∧ Sto w0 w 400 512 b2 s2 O2 n2 M2 c2 ∧ (∀ q, O1 q → ¬ O2 q) ∧ ∀ q, X q → ¬ O1 q ∧ ¬ O2 q

theorem Tw.swap {w0 w : World} {s1 s2 b1 b2 n1 n2 c1 c2 : Nat} {M1 M2 : Mt} {X : Nat → Prop} (h : Tw w0 w s1 s2 b1 b2 n1 n2 c1 c2 M1 M2 X) : Tw w0 w s2 s1 b2 b1 n2 n1 c2 c1 M2 M1 X := by
  obtain ⟨O1, O2, h1, h2, h3, h4⟩ := h.has
  exact ⟨O2, O1, h2, h1, fun q e f => h3 q f e, fun q e => ⟨(h4 q e).2, (h4 q e).1⟩⟩

theorem Tw.stay {w0 w w' : World} {s1 s2 b1 b2 n1 n2 c1 c2 : Nat} {M1 M2 : Mt} {X : Nat → Prop} (h : Tw w0 w s1 s2 b1 b2 n1 n2 c1 c2 M1 M2 X) (hm : Mod No w w') : Tw w0 w' s1 s2 b1 b2 n1 n2 c1 c2 M1 M2 X := by
  obtain ⟨O1, O2, h1, h2, h3⟩ := h.has
  exact ⟨O1, O2, h1.stay hm, h2.stay hm, h3⟩

/-- New blocks are nobody's. -/
theorem Tw.new {w0 w : World} {s1 s2 b1 b2 n1 n2 c1 c2 : Nat} {M1 M2 : Mt} {X Y : Nat → Prop} {w' : World} (h : Tw w0 w s1 s2 b1 b2 n1 n2 c1 c2 M1 M2 X) (hm : Mod No w w') (hY : ∀ q, Y q → w.heap.size ≤ q) : Tw w0 w' s1 s2 b1 b2 n1 n2 c1 c2 M1 M2 Y := by
  obtain ⟨O1, O2, h1, h2, h3, h4⟩ := h.has
  exact ⟨O1, O2, h1.stay hm, h2.stay hm, h3, fun q e => ⟨fun f => by have := h1.high q f; have := hY q e; omega, fun f => by have := h2.high q f; have := hY q e; omega⟩⟩

theorem Tw.mod {w0 w : World} {s1 s2 b1 b2 n1 n2 c1 c2 : Nat} {M1 M2 : Mt} {X : Nat → Prop} (h : Tw w0 w s1 s2 b1 b2 n1 n2 c1 c2 M1 M2 X) : Mod No w0 w := by
  obtain ⟨O1, O2, h1, -⟩ := h.has
  exact h1.mod

theorem Tw.apply {w0 w : World} {s1 s2 b1 b2 n1 n2 c1 c2 : Nat} {M1 M2 : Mt} {X : Nat → Prop} {a : Option Addr} {c : Nat} {l : List Pr} (h : Tw w0 w s1 s2 b1 b2 n1 n2 c1 c2 M1 M2 X) (hX : ∀ q, X q → q < w.heap.size) (hp : Prs w No a l) (hl : MidP l) (hM : MidM (M1.changes l)) (hfit : Fits 400 512 (M1.changes l)) (hln : l.length ≤ 10000) (hnn : n1 + l.length ≤ 100000) (hcnt : c1 ≤ 1000000000) :
    Calls Tryz.prog 14 #[.pointer (some ⟨s1, 0, none⟩), .slice a l.length c] w fun e w' => e = .returned (.int .i64 0) ∧ Tw w0 w' s1 s2 b1 b2 (n1 + l.length) n2 (c1 + 1) c2 (M1.changes l) M2 X ∧ Mod (fun q => ¬ X q) w w' := by
  obtain ⟨O1, O2, h1, h2, h3, h4⟩ := h.has
  obtain ⟨T, t1, t2, t3⟩ := h1.tight
  refine (t1.apply (c := c) hp hl hM hfit hln hnn hcnt).mono ?_
  rintro e w' ⟨rfl, O', k1, k2, km⟩
  have k3 := h2.keepM km (fun q e f => h3 q (t2 q f) e) t3 (fun q hq e => by have := t1.low q e; omega)
  exact ⟨rfl, ⟨O', O2, k1, k3, fun q e f => h3 q (t2 q (k2 q (h2.high q f) e)) f, fun q e => ⟨fun f => (h4 q e).1 (t2 q (k2 q (hX q e) f)), (h4 q e).2⟩⟩, km.weaken fun q _ e f => (h4 q f).1 (t2 q e)⟩

theorem Tw.keys {w0 w : World} {s1 s2 b1 b2 n1 n2 c1 c2 : Nat} {M1 M2 : Mt} {X : Nat → Prop} (h : Tw w0 w s1 s2 b1 b2 n1 n2 c1 c2 M1 M2 X) (hn : n1 ≤ 100000) (q : List UInt8) :
    Calls Tryz.prog 15 #[.pointer (some ⟨s1, 0, none⟩), .string ⟨q.toArray⟩] w fun e w' => ∃ v ks, e = .returned v ∧ KeysOfM M1 ks ∧ w'.ownsRow w.heap.size 9 1 v (ks.filter (pref q)).length ((ks.filter (pref q)).map encStr) ∧ Mod No w w' := by
  obtain ⟨O1, O2, h1, -⟩ := h.has
  exact h1.keys hn q

theorem Tw.size {w0 w : World} {s1 s2 b1 b2 n1 n2 c1 c2 : Nat} {M1 M2 : Mt} {X : Nat → Prop} {ks : List (List UInt8)} (h : Tw w0 w s1 s2 b1 b2 n1 n2 c1 c2 M1 M2 X) (hks : KeysOfM M1 ks) (hb : (ks.map (wt M1)).sum ≤ 1000000000000) :
    Calls Tryz.prog 16 #[.pointer (some ⟨s1, 0, none⟩)] w fun e w' => e = .returned (.int .i64 ((ks.map (wt M1)).sum : Nat)) ∧ Mod No w w' := by
  obtain ⟨O1, O2, h1, -⟩ := h.has
  exact h1.size hks hb

theorem Tw.get {w0 w : World} {s1 s2 b1 b2 n1 n2 c1 c2 : Nat} {M1 M2 : Mt} {X : Nat → Prop} (h : Tw w0 w s1 s2 b1 b2 n1 n2 c1 c2 M1 M2 X) (k : List UInt8) (hk : k.length ≤ 1000000000) :
    Calls Tryz.prog 17 #[.pointer (some ⟨s1, 0, none⟩), .string ⟨k.toArray⟩] w fun e w' => e = .returned (getV M1 k) ∧ w' = w := by
  obtain ⟨O1, O2, h1, -⟩ := h.has
  exact h1.get k hk

/-- The keys' value in StoreTurned. -/
def fT : List UInt8 → List UInt8 := fun k => k ++ [33]

/-- The first i of a list, from t on, round and round. -/
def rotL (ls : List (List UInt8)) (t i : Nat) : List (List UInt8) := (List.range i).map fun j => ls.getD ((j + t) % ls.length) []

theorem rotL_succ (ls : List (List UInt8)) (t i r : Nat) (hr : r = (i + t) % ls.length) (h : r < ls.length) : rotL ls t (i + 1) = rotL ls t i ++ [ls[r]] := by
  unfold rotL
  rw [List.range_succ, List.map_append, List.map_singleton, ← hr]
  simp [List.getD, h]

theorem rotL_sub {ls : List (List UInt8)} {t i : Nat} (h : 0 < ls.length) : ∀ k ∈ rotL ls t i, k ∈ ls := fun k hk => by
  obtain ⟨j, hj, rfl⟩ := List.mem_map.1 hk
  have : (j + t) % ls.length < ls.length := Nat.mod_lt _ h
  simp [List.getD, this]

theorem rotL_all (ls : List (List UInt8)) (t : Nat) (k : List UInt8) : k ∈ ls ↔ k ∈ rotL ls t ls.length := by
  constructor
  · intro h
    obtain ⟨x, hx, rfl⟩ := List.getElem_of_mem h
    have hn : 0 < ls.length := by omega
    refine List.mem_map.2 ⟨(x + (ls.length - t % ls.length)) % ls.length, List.mem_range.2 (Nat.mod_lt _ hn), ?_⟩
    have ht : t % ls.length < ls.length := Nat.mod_lt _ hn
    have e : ((x + (ls.length - t % ls.length)) % ls.length + t) % ls.length = x := by
      rw [Nat.mod_add_mod]
      have h1 : x + (ls.length - t % ls.length) + t = x + ls.length * (t / ls.length + 1) := by
        have := Nat.div_add_mod t ls.length
        rw [Nat.mul_add, Nat.mul_one]; omega
      rw [h1, Nat.add_mul_mod_self_left, Nat.mod_eq_of_lt hx]
    rw [e]; simp [List.getD, hx]
  · intro h
    by_cases hn : 0 < ls.length
    · exact rotL_sub hn k h
    · have : ls.length = 0 := by omega
      rw [this] at h
      simp [rotL] at h

end Go.Proofs.YtkeopmfmlciadaaGreat
namespace Go.Proofs.YtkeopmfmlciadaaGreat
open Go.RowKit Go.Maps Go.Sort

/-- The pairs of a list of keys. -/
def prT (ls : List (List UInt8)) : List Pr := ls.map fun s => ⟨s, fT s, false⟩

theorem prT_len (ls : List (List UInt8)) : (prT ls).length = ls.length := by simp [prT]

theorem prT_take (ls : List (List UInt8)) (i : Nat) (h : i < ls.length) : prCells (prT (ls.take (i + 1))) = prCells (prT (ls.take i)) ++ [.string ⟨ls[i].toArray⟩, .string ⟨(fT ls[i]).toArray⟩, .bool false] := by
  rw [List.take_succ_eq_append_getElem h]
  unfold prT
  rw [List.map_append, prCells_append]; rfl

theorem str_app (t : List UInt8) : (⟨t.toArray⟩ : ByteArray) ++ (⟨#[33]⟩ : ByteArray) = ⟨(fT t).toArray⟩ := by
  apply ByteArray.ext
  apply Array.toList_inj.1
  unfold fT
  simp

set_option maxRecDepth 100000 in
set_option maxHeartbeats 8000000 in
theorem turned5_walk (aa : Option Addr) (la ca : Nat) (ls : List (List UInt8)) {w : World} (hin : SsIn w aa la ls) (a0 : Int) (h0 : (Lit.int .u8 a0).wf = true) :
    Calls Tryz.prog 3 #[.slice aa la ca, .int .u8 a0] w fun e w' => e = .returned (.bool true) ∧ Mod No w w' := by
  obtain ⟨i0, hi0, hz0, hz1, hz2⟩ := info_parts info_pair
  refine calls_hide fun R hR => ?_
  obtain ⟨xb, rfl⟩ := byte_of a0 h0
  have hx := UInt8.toNat_lt xb
  generalize xb.toNat = tn at *
  have HA := Lib.hid hin
  obtain rfl := hin.len
  clear hin h0
  go_enter Tryz.func3, Tryz.ntmps3
  go_wp2_with fail
  with_reducible refine (known5_any w).mono ?_
  rintro e w1 ⟨rfl, hm1⟩
  have HM1 := Lib.hid hm1
  clear hm1
  by_cases h12 : 12 < ls.length
  · have q12 : (12 : Int) < (ls.length : Int) := by omega
    go_wp2_with fail
    exact fin hR ⟨rfl, HM1.out⟩
  have q12 : (ls.length : Int) ≤ 12 := by omega
  go_wp2_with fail
  with_reducible refine (disk_new No 400 512 w1 (no_lt5 w1)).mono ?_
  rintro e w3 ⟨b, sb, mb, rfl, hb1, hb2, hb3, hd3, hm3⟩
  have HD3 := Lib.hid (show DkAt w3 No b sb mb (Dk.new 400 512) ∧ (w.heap.size ≤ b ∧ w.heap.size ≤ sb ∧ w.heap.size ≤ mb) ∧ Mod No w w3 from ⟨hd3, by have := HM1.out.size; omega, HM1.out.trans hm3⟩)
  clear hb1 hb2 hb3 hd3 hm3
  go_wp2_with fail
  with_reducible refine (Sto.first (w0 := w) (n := 400) (z := 512) (N := 400) (sz := 512) (by decide) (by decide) (by decide) (by decide) HD3.out.1 HD3.out.2.1 HD3.out.2.2).mono ?_
  rintro e w4 ⟨s1, O1, rfl, hs4, -, -⟩
  have HS4 := Lib.hid hs4
  clear hs4 HD3 HM1
  go_wp2_with fail
  with_reducible refine (disk_new No 400 512 w4 (no_lt5 w4)).mono ?_
  rintro e w5 ⟨b2, sb2, mb2, rfl, hb1, hb2, hb3, hd3, hm3⟩
  have HD5 := Lib.hid (show DkAt w5 No b2 sb2 mb2 (Dk.new 400 512) ∧ (w4.heap.size ≤ b2 ∧ w4.heap.size ≤ sb2 ∧ w4.heap.size ≤ mb2) ∧ Mod No w4 w5 from ⟨hd3, ⟨hb1, hb2, hb3⟩, hm3⟩)
  clear hb1 hb2 hb3 hd3 hm3
  go_wp2_with fail
  with_reducible refine (Sto.first (w0 := w4) (n := 400) (z := 512) (N := 400) (sz := 512) (by decide) (by decide) (by decide) (by decide) HD5.out.1 HD5.out.2.1 HD5.out.2.2).mono ?_
  rintro e w6 ⟨s2, O2, rfl, hs6, -, hm6⟩
  have HT6 := Lib.hid (show Tw w w6 s1 s2 b b2 0 0 0 0 (fun _ => none) (fun _ => none) No from ⟨O1, O2, HS4.out.stay hs6.mod, hs6.base HS4.out.mod, fun q e f => by have := HS4.out.high q e; have := hs6.low q f; omega, fun q f => f.elim⟩)
  clear hs6 hm6 HD5 HS4
  go_wp2_with fail
  obtain ⟨base, hbase⟩ : ∃ base, base = w6.heap.size := ⟨_, rfl⟩
  have HBASE := Lib.hid hbase
  clear hbase
  go_loopw [9, 10] (fun u x wr => ∃ (i : Nat), i ≤ ls.length ∧ x = .int .i64 i ∧ wr.ownsRow base 32 3 u i (prCells (prT (ls.take i))) ∧ Mod No w6 wr ∧ ∀ t ∈ ls.take i, t.length ≤ 50) (fun _ x _ => 13 - (intOf x).toNat)
  case atStart => exact ⟨0, by omega, rfl, World.ownsRow_nil _ _ _ _, Mod.refl _ _, fun t ht => by cases ht⟩
  case round =>
    obtain ⟨i, hi, rfl, hown, hmod, h50⟩ := hrel
    have hi0' : (0 : Int) ≤ (i : Int) := Int.natCast_nonneg _
    have HOWN := Lib.hid hown
    have HMOD := Lib.hid hmod
    have H50 := Lib.hid h50
    obtain ⟨ua, uc, rfl⟩ := own_len hown
    clear hown hmod h50
    by_cases hlt : i < ls.length
    · have hi1 : (i : Int) < (ls.length : Int) := by omega
      obtain ⟨ab, ao, rfl, c0⟩ := HA.out.at_ i hlt
      have hab : ab < base := by have h1 := lt_of_cell c0; dsimp only at h1; have := HT6.out.mod.size; have := HBASE.out; omega
      have c0 := HMOD.out.cell (HT6.out.mod.cell c0 (fun f => f)) (fun f => f)
      have HTK := Lib.hid (prT_take ls i hlt)
      have HTL := Lib.hid (show ls.take (i + 1) = ls.take i ++ [ls[i]] from List.take_succ_eq_append_getElem hlt)
      have HV := Lib.hid (str_app ls[i])
      have hts := str_size_list ls[i]
      generalize ls[i] = t at *
      by_cases h51 : 50 < t.length
      · generalize (⟨t.toArray⟩ : ByteArray) = T at *
        have q50 : (50 : Int) < (T.size : Int) := by omega
        clear hts
        go_wp2_with fail
        have HMZ := Lib.hid (HT6.out.mod.trans HMOD.out)
        exact fin hR ⟨rfl, HMZ.out⟩
      · have H51 := Lib.hid (show ∀ u ∈ ls.take (i + 1), u.length ≤ 50 by
          rw [HTL.out]
          intro u hu
          rcases List.mem_append.1 hu with hu | hu
          · exact H50.out u hu
          · obtain rfl := List.mem_singleton.1 hu; omega)
        generalize (⟨(fT t).toArray⟩ : ByteArray) = V at *
        generalize (⟨t.toArray⟩ : ByteArray) = T at *
        have q50 : (T.size : Int) ≤ 50 := by omega
        clear hts
        go_upto_region 15 with fail
        obtain ⟨wA, hwA⟩ : ∃ wA, wA = wr := ⟨_, rfl⟩
        rw [← hwA] at c0 HOWN HMOD ⊢
        clear hwA
        obtain ⟨wB, hwB⟩ : ∃ wB, wB = wA.drew := ⟨_, rfl⟩
        have hmB : Mod No wA wB := by rw [hwB]; exact (Mod.refl No wA).drew
        obtain ⟨w3, hw3⟩ : ∃ w3, w3 = wB.alloc (.cells #[.string T, .string V, .bool false] 32) := ⟨_, rfl⟩
        obtain ⟨r, hr⟩ : ∃ r, r = wB.heap.size := ⟨_, rfl⟩
        have hm3 : Mod No wA w3 := by rw [hw3]; exact hmB.alloc _
        have HBX := Lib.hid (show Sl w3 No 32 (.slice (some ⟨r, 0, none⟩) 1 1) 1 [.string T, .string V, .bool false] from
          .inr ⟨r, 0, 1, #[.string T, .string V, .bool false], (0, 0), rfl, Nat.le_refl _, by unfold maxLen; omega, fun f => f, by rw [hw3, hr]; exact heap_alloc_new wB _, Nat.le_refl _, fun i hi => by simp⟩)
        have HO3 := Lib.hid (own_keepM HOWN.out hm3 (fun _ _ f => f))
        have H1C := Lib.hid (show ∀ y ∈ [Value.string T, .string V, .bool false], y.oneCell' = true by
          intro y hy
          simp at hy
          rcases hy with rfl | rfl | rfl <;> rfl)
        have HB3 := Lib.hid (show base ≤ w3.heap.size by have := HMOD.out.size; have := hm3.size; have := HBASE.out; omega)
        have HM3 := Lib.hid hm3
        have hS0 : wB.cell? ⟨ab, ao + i, none⟩ = some (.string T) := hmB.cell c0 (fun f => f)
        have HS1 := Lib.hid (show w3.cell? ⟨ab, ao + i, none⟩ = some (.string T) from hm3.cell c0 (fun f => f))
        have HGM := Lib.hid (show ∀ w6', w3.grownBy w6' (Value.ownBlock (.slice ua i uc)) → Mod (fun q => base ≤ q) w3 w6' from fun w6' hg => Mod.of_grown hg (fun q e _ => (HO3.out.lt _ e).1))
        have HS2 := Lib.hid (show ∀ w6', w3.grownBy w6' (Value.ownBlock (.slice ua i uc)) → w6'.cell? ⟨ab, ao + i, none⟩ = some (.string T) from fun w6' hg => (HGM.out w6' hg).cell HS1.out (fun e => by have e : base ≤ ab := e; omega))
        have HR3 := Lib.hid hr
        have HW3 := Lib.hid hw3
        have hV := HV.out
        clear hw3 hr hm3 hmB
        refine wp_region_T (fun w' => w'.cell? ⟨ab, ao + i, none⟩ = some (.string T)) 99 (by kernel_rfl) ?_
        rw [← hwB]
        clear hwB
        refine wpAnyT_takeV 0 (some 50) ?_ rfl rfl (by kernel_rfl) (fun _ _ _ h => h) hS0 (Or.inl ⟨by rfl, ?_⟩) ?_
        rotate_left
        · (intro w' hSw; (try dsimp only at hSw); go_simp; try with_reducible rfl)
        simp only [Act.put, List.setIfInBounds_toArray, List.set_cons_zero, List.set_cons_succ]
        refine wpAnyT_takeV 1 (some 51) ?_ rfl rfl (by kernel_rfl) (fun _ _ _ h => h) hS0 (Or.inl ⟨by rfl, ?_⟩) ?_
        rotate_left
        · (intro w' hSw; (try dsimp only at hSw); go_simp; try with_reducible rfl)
        simp only [Act.put, List.setIfInBounds_toArray, List.set_cons_zero, List.set_cons_succ]
        refine wpAnyT_takeV 2 (some 52) ?_ rfl rfl (by kernel_rfl) (fun _ _ _ h => h) hS0 (Or.inl ⟨by rfl, ?_⟩) ?_
        rotate_left
        · (intro w' hSw; (try dsimp only at hSw); go_simp; try with_reducible rfl)
        simp only [Act.put, List.setIfInBounds_toArray, List.set_cons_zero, List.set_cons_succ]
        refine wpAnyT_takeV 3 (some 53) ?_ rfl rfl (by kernel_rfl) (fun _ _ _ h => h) hS0 (Or.inl ⟨by rfl, ?_⟩) ?_
        rotate_left
        · (intro w' hSw; (try dsimp only at hSw); go_simp; try with_reducible rfl)
        simp only [Act.put, List.setIfInBounds_toArray, List.set_cons_zero, List.set_cons_succ]
        refine wpAnyT_takeV 4 (some 54) ?_ rfl rfl (by kernel_rfl) (fun _ _ _ h => h) hS0 (Or.inl ⟨by rfl, ?_⟩) ?_
        rotate_left
        · (intro w' hSw; (try dsimp only at hSw); go_simp; try with_reducible rfl)
        simp only [Act.put, List.setIfInBounds_toArray, List.set_cons_zero, List.set_cons_succ]
        refine wpAnyT_takeV 5 (some 55) ?_ rfl rfl (by kernel_rfl) (fun _ _ _ h => h) hS0 (Or.inl ⟨by rfl, ?_⟩) ?_
        rotate_left
        · (intro w' hSw; (try dsimp only at hSw); go_simp; try with_reducible rfl)
        simp only [Act.put, List.setIfInBounds_toArray, List.set_cons_zero, List.set_cons_succ]
        refine wpAnyT_takeV 6 (some 56) ?_ rfl rfl (by kernel_rfl) (fun _ _ _ h => h) hS0 (Or.inl ⟨by rfl, ?_⟩) ?_
        rotate_left
        · (intro w' hSw; (try dsimp only at hSw); go_simp; try with_reducible rfl)
        simp only [Act.put, List.setIfInBounds_toArray, List.set_cons_zero, List.set_cons_succ]
        refine wpAnyT_takeV 7 (some 57) ?_ rfl rfl (by kernel_rfl) (fun _ _ _ h => h) hS0 (Or.inl ⟨by rfl, ?_⟩) ?_
        rotate_left
        · (intro w' hSw; (try dsimp only at hSw); go_simp; try with_reducible rfl)
        simp only [Act.put, List.setIfInBounds_toArray, List.set_cons_zero, List.set_cons_succ]
        refine wpAnyT_takeV 8 (some 58) ?_ rfl rfl (by kernel_rfl) (fun _ _ _ h => h) hS0 (Or.inl ⟨by rfl, ?_⟩) ?_
        rotate_left
        · (intro w' hSw; (try dsimp only at hSw); go_simp; try with_reducible rfl)
        simp only [Act.put, List.setIfInBounds_toArray, List.set_cons_zero, List.set_cons_succ]
        refine wpAnyT_takeV 9 (some 59) (.string V) rfl rfl (by kernel_rfl) (fun _ _ _ h => h) hS0 (Or.inl ⟨by rfl, ?_⟩) ?_
        · (intro w' hSw; (try dsimp only at hSw); go_simp; omega)
        simp only [Act.put, List.setIfInBounds_toArray, List.set_cons_zero, List.set_cons_succ]
        refine wpAnyT_takeV 10 (some 60) ?_ rfl rfl (by kernel_rfl) (fun _ _ _ h => h) hS0 (Or.inl ⟨by rfl, ?_⟩) ?_
        rotate_left
        · (intro w' hSw; (try dsimp only at hSw); go_simp; try with_reducible rfl)
        simp only [Act.put, List.setIfInBounds_toArray, List.set_cons_zero, List.set_cons_succ]
        refine wpAnyT_one 11 rfl (by kernel_rfl) rfl ?_
        intro K hK
        go_simp
        rw [← HR3.out, ← HW3.out]
        show K _ _
        have hS1 := HS1.out
        refine hK.out _ _ (fun _ => hS1) ?_
        clear hK K
        refine wpAnyT_one 12 rfl (by kernel_rfl) rfl ?_
        intro K hK
        refine wp_app_sl w3 _ _ 30 rfl base 32 i0 (.agg #[.string ⟨#[]⟩, .string ⟨#[]⟩, .bool false]) 3 40 Tryz.underlying30 hi0 hz0 hz1 hz2 rfl (by decide) _ _ _ rfl HO3.out No 32 _ _ _ rfl HBX.out rfl H1C.out (by unfold maxLen; omega) (by omega) HB3.out ?_
        intro v' w7 hown7 hg7 _
        show K _ _
        have hS2 := HS2.out w7 hg7
        refine hK.out _ _ (fun _ => hS2) ?_
        clear hK K
        refine wpAnyT_takeV 13 (some 9) ?_ rfl rfl (by kernel_rfl) (fun _ _ _ h => h) hS2 (Or.inl ⟨by rfl, ?_⟩) ?_
        rotate_left
        · (intro w' hSw; (try dsimp only at hSw); go_simp; try with_reducible rfl)
        simp only [Act.put]
        refine wpAnyT_done (by kernel_rfl) ?_ _
        have HR7 := Lib.hid (show w7.ownsRow base 32 3 v' (i + 1) (prCells (prT (ls.take (i + 1)))) by rw [HTK.out]; exact hown7)
        have HM7 := Lib.hid (HMOD.out.then ((HM3.out.weaken fun _ _ f => f.elim).trans (HGM.out _ hg7)) (fun q h1 e => by have e : base ≤ q := e; have := HBASE.out; omega))
        clear hS0 hS1 hS2 hown7 hg7 HS1 HS2 HGM HM3 HO3 HBX H1C HB3 HR3 HW3 hV HV
        go_wp2_with fail
        exact ⟨⟨i + 1, by omega, by go_num, HR7.out, HM7.out, H51.out⟩, by go_light; simp only [intOf]; omega⟩
    · have hil : i = ls.length := by omega
      subst hil
      rw [List.take_length] at HOWN H50
      clear hlt hi hi0'
      have HTA := Lib.hid (show Tw w wr s1 s2 b b2 0 0 0 0 (fun _ => none) (fun _ => none) (fun q => ∃ o, ua = some ⟨q, o, none⟩) from HT6.out.new HMOD.out fun q hq => by
        obtain ⟨o, rfl⟩ := hq
        have := (HOWN.out.lt q rfl).1
        rw [← HBASE.out]; exact this)
      have hXw : ∀ q, (∃ o, ua = some ⟨q, o, none⟩) → q < wr.heap.size := fun q hq => by
        obtain ⟨o, rfl⟩ := hq
        exact (HOWN.out.lt q rfl).2
      have hpo : wr.ownsRow base 32 3 (.slice ua (prT ls).length uc) (prT ls).length (prCells (prT ls)) := by rw [prT_len]; exact HOWN.out
      have hprs := prs_own hpo
      have hall : ∀ u ∈ ls, u.length ≤ 60 ∧ (fT u).length ≤ 60 := fun u hu => by
        have := H50.out u hu
        refine ⟨by omega, ?_⟩
        unfold fT; rw [List.length_append]; simp; omega
      have hmid : MidP (prT ls) := fun p hp => by
        obtain ⟨u, hu, rfl⟩ := List.mem_map.1 hp
        have := hall u hu
        exact ⟨by show u.length ≤ _; omega, by show (fT u).length ≤ _; omega⟩
      have hch : Mt.changes (fun _ => none) (prT ls) = PM fT ls := by
        have := PM_changes fT [] ls
        rw [PM_nil] at this; exact this
      have hAP := HTA.out.apply (c := uc) hXw hprs hmid (by rw [hch]; exact PM_mid hall) (by rw [hch]; exact PM_fits hall (by omega)) (by rw [prT_len]; omega) (by rw [prT_len]; omega) (by omega)
      rw [hch, prT_len] at hAP
      have HAP := Lib.hid hAP
      have HPRS := Lib.hid hprs
      have HALL := Lib.hid hall
      have HXW := Lib.hid hXw
      clear hpo hprs hall hmid hch hAP hXw H50
      generalize wr = wL at HPRS HAP HOWN HXW ⊢
      go_wp2_with fail
      with_reducible refine HAP.out.mono ?_
      rintro e w8 ⟨rfl, h8, hm8⟩
      have HT8 := Lib.hid h8
      have HM8 := Lib.hid hm8
      clear h8 hm8 HAP
      go_wp2_with fail
      go_loopw [11] (fun x W => ∃ (i : Nat), i ≤ ls.length ∧ x = .int .i64 i ∧ Tw w W s1 s2 b b2 (0 + ls.length) i (0 + 1) i (PM fT ls) (PM fT (rotL ls tn i)) (fun q => ∃ o, ua = some ⟨q, o, none⟩) ∧ Mod (fun q => ¬ ∃ o, ua = some ⟨q, o, none⟩) wL W) (fun x _ => 13 - (intOf x).toNat)
      case atStart => exact ⟨0, by omega, rfl, by rw [show rotL ls tn 0 = [] from rfl, PM_nil]; exact HT8.out, HM8.out⟩
      case round =>
        obtain ⟨i, hi, rfl, ht, hmod⟩ := hrel
        have hi0' : (0 : Int) ≤ (i : Int) := Int.natCast_nonneg _
        have HT := Lib.hid ht
        have HMO := Lib.hid hmod
        clear ht hmod
        by_cases hlt : i < ls.length
        · have hi1 : (i : Int) < (ls.length : Int) := by omega
          obtain ⟨r, hr⟩ : ∃ r, r = (i + tn) % ls.length := ⟨_, rfl⟩
          have hrl : r < ls.length := by rw [hr]; exact Nat.mod_lt _ (by omega)
          have HRS := Lib.hid (rotL_succ ls tn i r hr hrl)
          have hE : ((i : Int) + (tn : Int)).tmod (ls.length : Int) = (r : Int) := by
            rw [Int.tmod_eq_emod_of_nonneg (by omega), hr, Int.natCast_emod, Int.natCast_add]
          have hr1 : (r : Int) < (ls.length : Int) := by omega
          have hr0 : (0 : Int) ≤ (r : Int) := Int.natCast_nonneg _
          clear hr
          have HE := Lib.hid hE
          obtain ⟨g, go, rfl, -, k0, k1, k2⟩ := HPRS.out.at_ r (by rw [prT_len]; exact hrl)
          have hpr : (prT ls)[r]'(by rw [prT_len]; exact hrl) = ⟨ls[r], fT ls[r], false⟩ := by simp [prT]
          rw [hpr] at k0 k1 k2
          have k0 := HMO.out.cell k0 (fun f => f ⟨go, rfl⟩)
          have k1 := HMO.out.cell k1 (fun f => f ⟨go, rfl⟩)
          have k2 := HMO.out.cell k2 (fun f => f ⟨go, rfl⟩)
          dsimp only at k0 k1 k2
          have hin := List.getElem_mem hrl
          generalize ls[r] = t at *
          clear hpr
          obtain ⟨w9, hw9⟩ : ∃ w9, w9 = wr.alloc (.cells #[.string ⟨t.toArray⟩, .string ⟨(fT t).toArray⟩, .bool false] 32) := ⟨_, rfl⟩
          obtain ⟨y, hy⟩ : ∃ y, y = wr.heap.size := ⟨_, rfl⟩
          have h9 : w9.heap[y]? = some (.cells #[.string ⟨t.toArray⟩, .string ⟨(fT t).toArray⟩, .bool false] 32 (0, 0)) := by rw [hw9, hy]; exact heap_alloc_new _ _
          have hm9 : Mod No wr w9 := by rw [hw9]; exact (Mod.refl No _).alloc _
          have hp : Prs w9 No (some ⟨y, 0, none⟩) [⟨t, fT t, false⟩] := prs_one (p := ⟨t, fT t, false⟩) h9 (fun f => f)
          have hlt2 := HALL.out t hin
          have hmid : MidP [⟨t, fT t, false⟩] := fun p hp => by
            obtain rfl := List.mem_singleton.1 hp
            exact ⟨by show t.length ≤ _; omega, by show (fT t).length ≤ _; omega⟩
          have hch : (PM fT (rotL ls tn i)).changes [⟨t, fT t, false⟩] = PM fT (rotL ls tn (i + 1)) := by
            rw [HRS.out]; exact PM_changes fT _ [t]
          have hall2 : ∀ u ∈ rotL ls tn (i + 1), u.length ≤ 60 ∧ (fT u).length ≤ 60 := fun u hu => HALL.out u (rotL_sub (by omega) u hu)
          have hAP := (HT.out.stay hm9).swap.apply (c := 1) (fun q hq => by have := HXW.out q hq; have := HMO.out.size; have := hm9.size; omega) hp hmid (by rw [hch]; exact PM_mid hall2) (by rw [hch]; exact PM_fits hall2 (by unfold rotL; rw [List.length_map, List.length_range]; omega)) (by show (1 : Nat) ≤ _; omega) (by show i + 1 ≤ _; omega) (by omega)
          rw [hch] at hAP
          have HAP : Hid (Calls Tryz.prog 14 #[.pointer (some ⟨s2, 0, none⟩), .slice (some ⟨y, 0, none⟩) 1 1] w9 fun e w' => e = .returned (.int .i64 0) ∧ Tw w w' s2 s1 b2 b (i + 1) (0 + ls.length) (i + 1) (0 + 1) (PM fT (rotL ls tn (i + 1))) (PM fT ls) (fun q => ∃ o, some (⟨g, go, none⟩ : Addr) = some ⟨q, o, none⟩) ∧ Mod (fun q => ¬ ∃ o, some (⟨g, go, none⟩ : Addr) = some ⟨q, o, none⟩) w9 w') := Lib.hid hAP
          have HM9 := Lib.hid hm9
          have HY := Lib.hid hy
          have HW9 := Lib.hid hw9
          clear h9 hp hmid hch hall2 hAP hm9 hy hw9 hlt2 hin
          generalize (⟨t.toArray⟩ : ByteArray) = T at *
          generalize (⟨(fT t).toArray⟩ : ByteArray) = V at *
          go_wp2_with (rw [← HW9.out, ← HY.out])
          with_reducible refine HAP.out.mono ?_
          rintro e w10 ⟨rfl, h10, hm10⟩
          have HT10 := Lib.hid h10.swap
          have HM10 := Lib.hid (HMO.out.trans ((HM9.out.weaken fun _ _ f => f.elim).trans hm10))
          clear h10 hm10 HAP HW9 HY k0 k1 k2
          go_wp2_with fail
          exact ⟨⟨i + 1, by omega, by go_num, HT10.out, HM10.out⟩, by go_light; simp only [intOf]; omega⟩
        · have hil : i = ls.length := by omega
          subst hil
          have HRA := Lib.hid (show PM fT (rotL ls tn ls.length) = PM fT ls from (PM_congr fT fun k => rotL_all ls tn k).symm)
          rw [HRA.out] at HT
          clear HMO HRA HM8 HPRS HXW
          have HKA := Lib.hid (HT.out.keys (by omega) [])
          go_wp2_with fail
          with_reducible refine HKA.out.mono ?_
          rintro e w11 ⟨v1, ks, rfl, hks, ho1, hm11⟩
          rw [filter_nil] at ho1
          obtain ⟨x1, y1, rfl⟩ := own_len ho1
          have HKS := Lib.hid hks
          have HO1 := Lib.hid (Sl.of_own (X := No) ho1 (fun _ _ f => f))
          have HT11 := Lib.hid (HT.out.stay hm11)
          have HKB := Lib.hid (HT11.out.swap.keys (by omega) [])
          clear hks ho1 hm11 HKA HT
          go_wp2_with fail
          with_reducible refine HKB.out.mono ?_
          rintro e w12 ⟨v2, ks2, rfl, hks2, ho2, hm12⟩
          obtain rfl := hks2.unique HKS.out
          rw [filter_nil] at ho2
          obtain ⟨x2, y2, rfl⟩ := own_len ho2
          have HO2 := Lib.hid (Sl.of_own (X := No) ho2 (fun _ _ f => f))
          have HO1 := Lib.hid (HO1.out.keep hm12 (fun _ _ _ f => f.elim))
          have HT12 := Lib.hid (HT11.out.stay hm12)
          have hsum := PM_sum HALL.out (by omega) HKS.out
          have hkl : ks2.length ≤ 12 := by have := PM_few HKS.out; omega
          have HSA := Lib.hid (HT12.out.size HKS.out (by omega))
          generalize hsm : (ks2.map (wt (PM fT ls))).sum = sm at *
          have HSM := Lib.hid hsm
          clear hsm
          clear hks2 ho2 hm12 HKB HT11
          go_wp2_with fail
          with_reducible refine HSA.out.mono ?_
          rintro e w13 ⟨rfl, hm13⟩
          have HT13 := Lib.hid (HT12.out.stay hm13)
          have HO1 := Lib.hid (HO1.out.keep hm13 (fun _ _ _ f => f.elim))
          have HO2 := Lib.hid (HO2.out.keep hm13 (fun _ _ _ f => f.elim))
          have hSB := HT13.out.swap.size HKS.out (by have := PM_sum HALL.out (by omega) HKS.out; omega)
          rw [HSM.out] at hSB
          have HSB := Lib.hid hSB
          clear hm13 HSA HT12 hSB
          go_wp2_with fail
          with_reducible refine HSB.out.mono ?_
          rintro e w14 ⟨rfl, hm14⟩
          have HT14 := Lib.hid (HT13.out.stay hm14)
          have HO1 := Lib.hid (HO1.out.keep hm14 (fun _ _ _ f => f.elim))
          have HO2 := Lib.hid (HO2.out.keep hm14 (fun _ _ _ f => f.elim))
          clear hm14 HSB HT13
          go_wp2_with fail
          go_loopw [14] (fun x W => ∃ (i : Nat), i ≤ ks2.length ∧ x = .int .i64 i ∧ Mod No w14 W) (fun x _ => 13 - (intOf x).toNat)
          case atStart => exact ⟨0, by omega, rfl, Mod.refl _ _⟩
          case round =>
            obtain ⟨i, hi, rfl, hmod⟩ := hrel
            have hi0' : (0 : Int) ≤ (i : Int) := Int.natCast_nonneg _
            by_cases hlt : i < ks2.length
            · have hi1 : (i : Int) < (ks2.length : Int) := by omega
              obtain ⟨b1, o1, k1, hv1, hc1⟩ := str_cell HO1.out hlt
              cases hv1
              obtain ⟨b3, o3, k3, hv3, hc3⟩ := str_cell HO2.out hlt
              cases hv3
              have hc1 := hmod.cell hc1 (fun f => f)
              have hc3 := hmod.cell hc3 (fun f => f)
              have hin := (PM_keys HKS.out ks2[i]).1 (List.getElem_mem hlt)
              have hl60 := (HALL.out _ hin).1
              have hGE := (HT14.out.stay hmod).swap.get ks2[i] (by omega)
              rw [getV_some (PM_in hin)] at hGE
              have hV := str_app ks2[i]
              have hsz := str_size_list ks2[i]
              have HGE := Lib.hid hGE
              have HMO2 := Lib.hid hmod
              clear hGE hmod hin
              generalize ks2[i] = t at *
              generalize (⟨t.toArray⟩ : ByteArray) = T at *
              generalize (⟨(fT t).toArray⟩ : ByteArray) = V at *
              have hs60 : T.size ≤ 60 := by omega
              clear hsz
              go_wp2_with fail
              with_reducible refine HGE.out.mono ?_
              rintro e w15 ⟨rfl, h2⟩
              subst h2
              go_wp2_with fail
              go_quiet (fail)
              go_wp2_with fail
              exact ⟨⟨i + 1, by omega, by go_num, HMO2.out.drewN _⟩, by go_light; simp only [intOf]; omega⟩
            · have hi1 : (ks2.length : Int) ≤ (i : Int) := by omega
              have HMZ := Lib.hid (HT14.out.mod.trans hmod)
              clear hmod
              go_wp2_with fail
              exact fin hR ⟨rfl, HMZ.out⟩

end Go.Proofs.YtkeopmfmlciadaaGreat
namespace Go.Proofs.YtkeopmfmlciadaaGreat.lawStoreTurned
open Go.ChangeShapes Go.WideShapes Go.ChangeAt Go.RowKit
open Go.ChangeMaps (open_string shut_string)

theorem own : ownKnob Tryz.prog.godebug = none := by kernel_rfl
theorem laidOut : laidOutB Tryz.prog = true := by kernel_rfl

set_option maxRecDepth 100000 in
theorem lifted (os : Os) (started : os.Started) (H : Type) (enc : TypeId × Value → H) :
    ReturnsInHanded {} Tryz.checked os 3 .any (Rows.storeTurnedSpec.pre6 enc Tryz.prog Tryz.f3 Rows.storeTurnedRow.domain false) (Rows.storeTurnedSpec.post enc Tryz.prog Tryz.f3 false true false false) := by
  refine returnsInHanded_of_change (C := Tryz.checked) own started (by kernel_rfl) Tryz.func3
    (ChangeSpec.witness6 (enc := enc) (C := Tryz.checked) false ⟨#[], #[.slice none 0 0, .int .u8 0], []⟩ 8 (by kernel_rfl) (by kernel_rfl) (by kernel_rfl) (by kernel_rfl)) ?_
  intro W base args ds gs before hval0 hW _ _
  have hval : ∀ (j : Nat) t v, Tryz.f3.params[j]? = some t → args[j]? = some v → Value.okWide Tryz.prog W .any base t v := hval0
  have hW' := hW
  obtain ⟨p, q, hA0, hV, rfl, hfz, hnd⟩ := hW
  have hA : DataW.TrodAll enc Tryz.prog W 0 (fun _ => true) true Tryz.f3.params.toList args.toList ds p := hA0
  rw [Tryz.params3] at hA hval
  obtain ⟨v0, vs0, d0, ds0, p0, q0, hargs, rfl, rfl, h0, r0⟩ := trodAll_cons hA
  obtain ⟨v1, vs1, d1, ds1, p1, q1, rfl, rfl, rfl, h1, r1⟩ := trodAll_cons r0
  obtain ⟨rfl, rfl, rfl⟩ := trodAll_nil r1
  obtain rfl : args = #[v0, v1] := by cases args; simp_all
  obtain ⟨rfl, rfl⟩ := trodVars_none hV
  obtain ⟨a0, len0, cap0, rfl⟩ := okWide_slice Tryz.underlying22 (hval 0 22 v0 rfl rfl)
  have k0 := h0
  have lt0 : ∀ x ∈ p0, x.block < W.heap.size := by obtain ⟨m, hm⟩ := k0; exact DataW.trod_lt m _ _ _ hm
  obtain ⟨z0, w0⟩ : ∃ l, SsIn W a0 len0 l := by
    obtain ⟨fuel, hf⟩ := h0
    obtain ⟨a', len', cap', l', hcs, hl'⟩ := ss_open hf
    simp [Value.cells] at hcs
    obtain ⟨rfl, rfl, rfl⟩ := hcs
    exact ⟨l', hl'⟩
  obtain ⟨a1, rfl, rfl, rfl, w1⟩ := open_int Tryz.underlying5 (hval 1 5 v1 rfl rfl) h1
  clear hA0 hval0
  refine (turned5_walk a0 len0 cap0 z0 w0 a1 w1).mono fun e W' ⟨he, hm⟩ => ?_
  have bel := hm.below
  subst he
  exact ⟨_, rfl, _, _, _, [], _, [], hW', trodAll_mk1 (shut_bool Tryz.underlying4 _), (trodAll_cons_mk (Below.trod laidOut (by kernel_rfl) (of_decide_eq_true (by kernel_rfl)) k0 bel lt0) (trodAll_cons_mk (shut_int Tryz.underlying5 w1) trodAll_mk0)), rfl, bel.frame _, fun h => by cases h⟩

/-- The statement. -/
theorem proved : Rows.StoreTurnedSaid :=
  OpenClaim.holds_of_wide 3 Tryz.f3 rfl rfl rfl rfl rfl rfl rfl ⟨rfl, rfl, rfl, rfl, rfl⟩ rfl rfl rfl rfl rfl (by kernel_rfl) Tryz.func3 (by kernel_rfl)
    (of_decide_eq_true (by kernel_rfl)) (by unfold Func.isWrapper; first | (rw [if_pos (by decide +kernel)]; kernel_rfl) | (rw [if_neg (by decide +kernel)]; exact ⟨rfl, rfl⟩))
    (fun os started H enc _ => lifted os started H enc)

end Go.Proofs.YtkeopmfmlciadaaGreat.lawStoreTurned
