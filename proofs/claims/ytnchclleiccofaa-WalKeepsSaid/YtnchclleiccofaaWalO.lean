/-
  Layer 4, the log: a frame is laid. No statement is proved here; no condition.
-/
import Derived.Test.YtnchclleiccofaaWalN
import Derived.Test.YtnchclleiccofaaRegU
namespace Go.Proofs.Ytnchclleiccofaa
open Go.RowKit

/-- lay's loop: sectors from k on are laid. -/
structure LayInv (w wr : World) (b sb mb ub F K m turn next : Nat) (B : List UInt8) (d : Dk) (k : Nat) : Prop where
  disk : ∃ d', d'.n = d.n ∧ d'.sz = d.sz ∧ Well d' ∧ DkAt wr No b sb mb d' ∧ (∀ j, k ≤ j → j < K → d'.last (F + j) = laidAt m turn next B j) ∧ ∀ q, q < F + k ∨ F + K ≤ q → d'.last q = d.last q
  undone : ∃ D, Mp wr 3 ub D ∧ (0 < k → D = .map [])
  mod : Mod (fun q => Own3 b sb mb q ∨ q = ub) w wr

theorem mp_not_cells {w : World} {k : TypeId} {b : Nat} {D : DataW Value} (h : Mp w k b D) (cur : Array Value) (t : TypeId) (fz : Nat × Nat) : w.heap[b]? ≠ some (.cells cur t fz) := fun e => by
  obtain ⟨es, c, hb⟩ := h.heap
  rw [hb] at e; cases e

theorem obj_not_own {w : World} {p b sb mb : Nat} {d : Dk} {X : Nat → Prop} {cur : Array Value} {t : TypeId} (h : DkAt w X b sb mb d) (hp : w.heap[p]? = some (.cells cur t (0, 0))) (h1 : t ≠ 31) (h2 : t ≠ 33) : ¬ Own3 b sb mb p := by
  obtain ⟨sc, ho, _⟩ := h.obj
  obtain ⟨cur', hc⟩ := h.sure
  obtain ⟨D, hD⟩ := h.dirty
  obtain ⟨es, clock, hm⟩ := hD.mp.heap
  rintro (e | e | e)
  · subst e; rw [ho] at hp; cases hp; exact h1 rfl
  · subst e; rw [hc.heap] at hp; cases hp; exact h2 rfl
  · subst e; rw [hm] at hp; cases hp

theorem LayInv.next {w0 wr : World} {b sb mb ub F K m turn next k : Nat} {B : List UInt8} {d d2 : Dk} (hk : k < K) (n2 : d2.n = d.n) (s2 : d2.sz = d.sz) (w2 : Well d2) (hFK : F + K ≤ d.n) (hl : d.sz = m + 16) (hd : DkAt wr No b sb mb (d2.write ((F + k : Nat) : Int) (laidAt m turn next B k)))
    (h1 : ∀ j, k + 1 ≤ j → j < K → d2.last (F + j) = laidAt m turn next B j) (h2 : ∀ q, q < F + (k + 1) ∨ F + K ≤ q → d2.last q = d.last q) (hmp : ∃ D, Mp wr 3 ub D ∧ (0 < k → D = .map [])) (hmod : Mod (fun q => Own3 b sb mb q ∨ q = ub) w0 wr) : LayInv w0 wr b sb mb ub F K m turn next B d k := by
  obtain ⟨e1, e2, e3, -, e5⟩ := Dk.write_well (i := F + k) (l := laidAt m turn next B k) w2 (by omega) (by rw [laidAt_len, s2, hl])
  refine ⟨⟨_, e2.trans n2, e3.trans s2, e1, hd, fun j a1 a2 => ?_, fun q a => ?_⟩, hmp, hmod⟩
  · rw [e5]
    by_cases e : j = k
    · subst e; rw [if_pos rfl]
    · rw [if_neg (by omega)]; exact h1 j (by omega) a2
  · rw [e5, if_neg (by omega)]; exact h2 q (by omega)

theorem Sl.of_cells {w : World} {g n : Nat} {cur : Array Value} {t : TypeId} {l : List UInt8} (hg : w.heap[g]? = some (.cells cur t (0, 0))) (h : cur.toList = bv l) (_ : l.length = n) (hc : n ≤ maxLen) : Sl w No t (.slice (some ⟨g, 0, none⟩) n n) n (bv l) := by
  refine .inr ⟨g, 0, n, cur, (0, 0), rfl, Nat.le_refl _, hc, fun f => f, hg, ?_, fun i hi => ?_⟩
  · rw [← h, Array.length_toList]; omega
  · rw [Nat.zero_add, ← Array.getElem?_toList, h]

set_option maxRecDepth 100000 in
set_option maxHeartbeats 4000000 in
theorem lay_any {b sb mb p ub : Nat} {d : Dk} {w : World} {v : Value} {B : List UInt8} {turn0 next0 at0 c0 : Nat} (turn next at_ m H F K Z : Nat) (hZ : d.sz = Z) (hm : Z = m + 16) (hH : d.n / 2 = H) (hF : F = turn % 2 * H + at_) (hK : K = secs m B.length) (hz : 112 ≤ m) (hw : Well d) (h : DkAt w No b sb mb d)
    (hp : w.heap[p]? = some (LgObj b ub turn0 next0 at0 c0)) (hub : Mp w 3 ub (.map [])) (hne : ub ≠ mb) (hB : Sl w No 5 v B.length (bv B)) (hB1 : 0 < B.length) (hB2 : B.length ≤ 1000000000) (hk : at_ + K ≤ H) (ht : turn < 4611686018427387904) (hn : next + 1 < 4611686018427387904) :
    Calls Try.prog 65 #[.pointer (some ⟨p, 0, none⟩), .int .u64 (turn : Int), .int .u64 (next : Int), .int .i64 (at_ : Int), v] w fun e w' => e = .returned (.int .i64 0) ∧
      (∃ d', d'.n = d.n ∧ d'.sz = d.sz ∧ Well d' ∧ DkAt w' No b sb mb d' ∧ Laid d.last d'.last m turn next F K B) ∧ Mp w' 3 ub (.map []) ∧ Mod (fun q => Own3 b sb mb q ∨ q = ub) w w' := by
  refine calls_hide fun R hR => ?_
  obtain ⟨blk, o, c, rfl, hcl, hcm, -⟩ := hB.shape hB1
  have hn2 : d.n ≤ 4096 := h.n2
  have hz2 : d.sz ≤ 4096 := h.s2
  have hH2 : H ≤ 2048 := by omega
  have hm2 : m ≤ 4080 := by omega
  have ht2 : turn % 2 < 2 := Nat.mod_lt _ (by omega)
  have c00 := cell_of (i := 0) hp rfl
  have c05 := cell_of (i := 5) hp rfl
  have HH := half_any h c00
  rw [hH] at HH
  have HU := undo_any c05 hub
  have HS := lsecs_any B.length (by omega) h c00
  rw [show d.sz - 16 = m by omega, ← hK] at HS
  have hpo : ¬ Own3 b sb mb p := obj_not_own h hp (by decide) (by decide)
  have hbo : ¬ Own3 b sb mb ub := fun e => by
    rcases e with e | e | e
    · obtain ⟨sc, ho, _⟩ := h.obj
      exact mp_not_cells hub _ _ _ (by rw [e]; exact ho)
    · obtain ⟨cur, hc⟩ := h.sure
      exact mp_not_cells hub _ _ _ (by rw [e]; exact hc.heap)
    · exact hne e
  have hpu : p ≠ ub := fun e => by subst e; exact mp_not_cells hub _ _ _ hp
  have hFb : F + K ≤ d.n := by
    have h1 : turn % 2 = 0 ∨ turn % 2 = 1 := by omega
    rcases h1 with g | g
    · rw [g, Nat.zero_mul] at hF; omega
    · rw [g, Nat.one_mul] at hF; omega
  have hK1 : 0 < K := by rw [hK]; exact secs_pos hB1
  have hKup : (K - 1) * m < B.length := by
    rcases Nat.lt_or_ge ((K - 1) * m) B.length with g | g
    · exact g
    · have := secs_le (size := m) (by omega) g
      omega
  have e1 : (turn : Int) % 2 = ((turn % 2 : Nat) : Int) := (Int.natCast_emod turn 2).symm
  have e2 : (turn : Int) % 2 * (H : Int) = ((turn % 2 * H : Nat) : Int) := by rw [e1, Int.natCast_mul]
  have e3 : (turn : Int) % 2 * (H : Int) + (at_ : Int) = (F : Int) := by rw [e2, hF, Int.natCast_add]
  have HE3 := Lib.hid e3
  have r0 : (0 : Int) ≤ (turn : Int) % 2 := by rw [e1]; exact Int.natCast_nonneg _
  have r1 : (turn : Int) % 2 ≤ 1 := by rw [e1]; omega
  have r2 : (0 : Int) ≤ (turn : Int) % 2 * (H : Int) := by rw [e2]; exact Int.natCast_nonneg _
  have r3 : (turn : Int) % 2 * (H : Int) ≤ 4096 := by omega
  have hat : (at_ : Int) ≤ 2048 := by omega
  have HH := Lib.hid HH
  have HU := Lib.hid HU
  have HS := Lib.hid HS
  have HST := Lib.hid (show LayInv w w b sb mb ub F K m turn next B d K from ⟨⟨d, rfl, rfl, hw, h, fun j h1 h2 => by omega, fun _ _ => rfl⟩, ⟨_, hub, fun _ => rfl⟩, Mod.refl _ _⟩)
  have HP := Lib.hid hp
  have HUB := Lib.hid hub
  have HSL := Lib.hid hB
  have HNO := Lib.hid (And.intro hpo (And.intro hbo hpu))
  have HZ := Lib.hid (And.intro hZ (And.intro hm (And.intro hH hFb)))
  have HKU := Lib.hid hKup
  have HDN := Lib.hid (fun q (e : Own3 b sb mb q) (cur : Array Value) (fz : Nat × Nat) => h.not_bytes e cur fz)
  have HUN := Lib.hid (fun (cur : Array Value) (t : TypeId) (fz : Nat × Nat) => mp_not_cells hub cur t fz)
  clear hw h hp hub hB c00 c05 hpo hbo hpu hKup e1 e2 e3 hF hm hH hK hZ hFb ht2
  go_enter Try.func65, Try.ntmps65
  go_wp2_with fail
  with_reducible refine HH.out.mono ?_
  rintro e w' ⟨rfl, h2⟩
  subst h2
  clear HH
  go_wp2_with fail
  rw [HE3.out]
  with_reducible refine HU.out.mono ?_
  rintro e w' ⟨rfl, h2⟩
  subst h2
  clear HU
  go_wp2_with fail
  with_reducible refine HS.out.mono ?_
  rintro e w1 ⟨rfl, hm1⟩
  clear HS
  have HST1 := Lib.hid (show LayInv w' w1 b sb mb ub F K m turn next B d K from by
    obtain ⟨⟨d', q1, q2, q3, q4, q5, q6⟩, ⟨D, q7, q8⟩, q9⟩ := HST.out
    exact ⟨⟨d', q1, q2, q3, q4.stay hm1, q5, q6⟩, ⟨D, q7.keep hm1 (fun f => f), q8⟩, q9.then hm1 fun _ _ f => f.elim⟩)
  clear HST hm1
  go_wp2_with fail
  go_loopw [13] (fun x wr => ∃ i : Int, -1 ≤ i ∧ i < K ∧ x = .int .i64 i ∧ LayInv w' wr b sb mb ub F K m turn next B d (i + 1).toNat) (fun x _ => (intOf x + 1).toNat)
  case atStart => exact ⟨(K : Int) - 1, by omega, by omega, rfl, by rw [show ((K : Int) - 1 + 1).toNat = K by omega]; exact HST1.out⟩
  case round =>
    clear HST1
    obtain ⟨i, hi1, hi2, rfl, hinv⟩ := hrel
    by_cases hi0 : 0 ≤ i
    · obtain ⟨k, rfl⟩ := Int.eq_ofNat_of_zero_le hi0
      rw [show ((k : Int) + 1).toNat = k + 1 by omega] at hinv
      obtain ⟨⟨d', q1, q2, q3, q4, q5, q6⟩, ⟨D, q7, q8⟩, q9⟩ := hinv
      obtain rfl := q8 (by omega)
      have hkm : k * m < B.length := Nat.lt_of_le_of_lt (Nat.mul_le_mul_right m (show k ≤ K - 1 by omega)) HKU.out
      obtain ⟨Q, hQ⟩ : ∃ Q, Q = k * m := ⟨_, rfl⟩
      rw [← hQ] at hkm
      have hmul : (k : Int) * (m : Int) = (Q : Int) := by rw [hQ, Int.natCast_mul]
      have b1 : (-9223372036854775808 : Int) ≤ (k : Int) * (m : Int) := by rw [hmul]; omega
      have b2 : (k : Int) * (m : Int) ≤ 9223372036854775807 := by rw [hmul]; omega
      have HMUL := Lib.hid hmul
      have hpr := q9.keep HP.out (fun e => e.elim HNO.out.1 HNO.out.2.2)
      have c00 := cell_of (i := 0) hpr rfl
      have c05 := cell_of (i := 5) hpr rfl
      have HPR := Lib.hid hpr
      have HSZ := size_ok q4
      rw [q2, HZ.out.1] at HSZ
      have HSZ := Lib.hid HSZ
      have HSL1 := Lib.hid (HSL.out.keep q9 (fun q cur fz e _ => e.elim (fun e => HDN.out q e cur fz) (fun e => by subst e; exact HUN.out cur _ fz)))
      obtain ⟨ZB, hZB⟩ : ∃ ZB : Array Value, ZB = (bv (List.replicate Z 0)).toArray := ⟨_, rfl⟩
      have hZ4 : Z ≤ 4096 := by have := HZ.out.2.1; omega
      have hmk : ∀ w, (Instr.makeSlice 33 (.int .i64 (Z : Int)) (.int .i64 (Z : Int))).run Try.prog w = .ok (.slice (some ⟨w.heap.size, 0, none⟩) Z Z) (w.alloc (.cells ZB 5)) := fun w => by
        rw [hZB, ← madeBytes]
        exact run_make_row' (P := Try.prog) 33 5 (.int .u8 0) 1 Try.underlying33 info_u8 rfl .i64 .i64 Z (by omega) (by omega) w
      have HDK := Lib.hid (show (d'.n = d.n ∧ d'.sz = d.sz ∧ Well d' ∧ DkAt wr No b sb mb d' ∧ (∀ j, k + 1 ≤ j → j < K → d'.last (F + j) = laidAt m turn next B j) ∧ ∀ q, q < F + (k + 1) ∨ F + K ≤ q → d'.last q = d.last q) ∧ Mp wr 3 ub (.map []) ∧ Mod (fun q => Own3 b sb mb q ∨ q = ub) w' wr from ⟨⟨q1, q2, q3, q4, q5, q6⟩, q7, q9⟩)
      have HZB := Lib.hid hZB
      have HQ := Lib.hid hQ
      clear q1 q2 q3 q4 q5 q6 q7 q8 q9 hmul hpr hZB hQ
      go_wp2_with fail
      with_reducible refine HSZ.out.mono ?_
      rintro e w3 ⟨rfl, h2⟩
      subst h2
      clear HSZ
      go_upto_region 9 with fail
      obtain ⟨g, hg⟩ : ∃ g, g = wr.heap.size := ⟨_, rfl⟩
      obtain ⟨w2, hw2⟩ : ∃ w2, w2 = wr.alloc (.cells ZB 5) := ⟨_, rfl⟩
      rw [← hg, ← hw2]
      have m2 : Mod No wr w2 := by rw [hw2]; exact (Mod.refl No wr).alloc _
      have hg2 : w2.heap[g]? = some (.cells ZB 5 (0, 0)) := by rw [hw2, hg]; exact heap_alloc_new wr _
      have HLS := lsize_any ((HDK.out.1.2.2.2.1.stay m2).stay (Mod.refl No w2).drew) ((Mod.refl No w2).drew.cell (m2.cell c00 (fun f => f)) (fun f => f))
      rw [HDK.out.1.2.1, show d.sz - 16 = m by have := HZ.out; omega] at HLS
      have HLS := Lib.hid HLS
      have hsl2 := (HSL1.out.keep m2 (fun _ _ _ f => f.elim)).keep (Mod.refl No w2).drew (fun _ _ _ f => f.elim)
      obtain ⟨N, hN⟩ : ∃ N, N = ((B.drop Q).take m).length := ⟨_, rfl⟩
      have hN2 := hN
      rw [List.length_take, List.length_drop] at hN2
      obtain ⟨cur1, hcur1⟩ : ∃ cur1 : Array Value, cur1 = (bv ((B.drop Q).take m) ++ bv (List.replicate (Z - N) 0)).toArray := ⟨_, rfl⟩
      have hcp : ∀ ty, (Builtin.copy_ #[33, 33] ty #[.slice (some ⟨g, 0, none⟩) m Z, .slice (some ⟨blk, o + Q, none⟩) (B.length - Q) (c - Q)]).run Try.prog w2.drew = .ok (goInt N) (w2.drew.setRow g cur1) := fun ty => by
        have h := run_copy_row (P := Try.prog) w2.drew 33 33 ty 5 g 0 m Z ⟨blk, o + Q, none⟩ (B.length - Q) (c - Q) ZB 5 (bv ((B.drop Q).take m)) Try.underlying33 (by kernel_rfl) hg2
          (by rw [bv_length, List.length_take, List.length_drop]; exact Nat.min_comm _ _) (fun j u hu => by
            have hj := (List.getElem?_eq_some_iff.1 hu).1
            rw [bv_length, List.length_take, List.length_drop] at hj
            have hc := hsl2.cell (i := Q + j) (by rw [bv_length]; omega)
            rw [Addr.add_lit]
            dsimp only at hc
            rw [show o + Q + j = o + (Q + j) by omega, hc, ← hu, bv_get?, bv_get?, List.getElem?_take, if_pos (by omega), List.getElem?_drop]) (by
            rw [bv_length, List.length_take, List.length_drop, HZB.out]; simp; have := HZ.out; omega) (bv_one _)
        rw [h, bv_length, ← hN, hcur1, HZB.out]
        simp [bv]
      have HG2 := Lib.hid hg2
      have HC1 := Lib.hid hcur1
      have HNN := Lib.hid (And.intro hN hN2)
      have M2 := Lib.hid m2
      have HGG := Lib.hid (And.intro hg hw2)
      have hmZ : (m : Int) ≤ (Z : Int) := by have := HZ.out; omega
      clear hg2 hcur1 hN hN2 m2 hg hw2 hsl2 hmk
      have hQle : Q ≤ B.length := by omega
      have hcQ : ¬ c = Q := by omega
      refine wp_region_T (fun _ => True) 0 (by kernel_rfl) ?_
      refine wpAnyT_takeU 0 (some 48) ?_ rfl rfl (by kernel_rfl) (fun _ _ _ h => h) (Or.inl ⟨by rfl, ?_⟩) ?_
      rotate_left
      · (intro w' hSw; go_simp; try with_reducible rfl)
      simp only [Act.put, List.setIfInBounds_toArray, List.set_cons_zero, List.set_cons_succ]
      refine wpAnyT_takeU 1 (some 49) ?_ rfl rfl (by kernel_rfl) (fun _ _ _ h => h) (Or.inl ⟨by rfl, ?_⟩) ?_
      rotate_left
      · (intro w' hSw; go_simp; try with_reducible rfl)
      simp only [Act.put, List.setIfInBounds_toArray, List.set_cons_zero, List.set_cons_succ]
      refine wpAnyT_takeU 4 (some 52) ?_ rfl rfl (by kernel_rfl) (fun _ _ _ h => h) (Or.inl ⟨by rfl, ?_⟩) ?_
      rotate_left
      · (intro w' hSw; go_simp; try with_reducible rfl)
      simp only [Act.put, List.setIfInBounds_toArray, List.set_cons_zero, List.set_cons_succ]
      refine wpAnyT_takeU 5 (some 53) ?_ rfl rfl (by kernel_rfl) (fun _ _ _ h => h) (Or.inl ⟨by rfl, ?_⟩) ?_
      rotate_left
      · (intro w' hSw; go_simp; try with_reducible rfl)
      simp only [Act.put, List.setIfInBounds_toArray, List.set_cons_zero, List.set_cons_succ]
      refine wpAnyT_takeU 6 (some 54) ?_ rfl rfl (by kernel_rfl) (fun _ _ _ h => h) (Or.inl ⟨by rfl, ?_⟩) ?_
      rotate_left
      · (intro w' hSw; go_simp; try with_reducible rfl)
      simp only [Act.put, List.setIfInBounds_toArray, List.set_cons_zero, List.set_cons_succ]
      refine wpAnyT_one 2 rfl (by kernel_rfl) rfl ?_
      intro K hK
      go_simp
      (go_at_call 59; with_reducible refine HLS.out.mono ?_; rintro e w' ⟨rfl, rfl⟩)
      show K _ _
      refine hK.out _ _ (fun _ => trivial) ?_
      clear hK K
      refine wpAnyT_takeU 3 (some 51) ?_ rfl rfl (by kernel_rfl) (fun _ _ _ h => h) (Or.inl ⟨by rfl, ?_⟩) ?_
      rotate_left
      · (intro w' hSw; go_simp; try with_reducible rfl)
      simp only [Act.put, List.setIfInBounds_toArray, List.set_cons_zero, List.set_cons_succ]
      refine wpAnyT_one 7 rfl (by kernel_rfl) rfl ?_
      intro K hK
      go_simp
      (go_at_call 59; with_reducible refine HLS.out.mono ?_; rintro e w' ⟨rfl, rfl⟩)
      show K _ _
      refine hK.out _ _ (fun _ => trivial) ?_
      clear hK K
      refine wpAnyT_takeU 8 (some 56) (.int .i64 (Q : Int)) rfl rfl (by kernel_rfl) (fun _ _ _ h => h) (Or.inl ⟨by rfl, ?_⟩) ?_
      · (intro w' hSw; go_simp; rw [HMUL.out, IntKind.wrap_i64]; omega)
      simp only [Act.put, List.setIfInBounds_toArray, List.set_cons_zero, List.set_cons_succ]
      refine wpAnyT_takeU 9 (some 57) (.slice (some ⟨blk, o + Q, none⟩) (B.length - Q) (c - Q)) rfl rfl (by kernel_rfl) (fun _ _ _ h => h) (Or.inl ⟨by rfl, ?_⟩) ?_
      · (intro w' hSw; go_simp)
      simp only [Act.put, List.setIfInBounds_toArray, List.set_cons_zero, List.set_cons_succ]
      refine wpAnyT_one 10 rfl (by kernel_rfl) rfl ?_
      intro K hK
      go_simp
      show K _ _
      refine hK.out _ _ (fun _ => trivial) ?_
      clear hK K
      refine wpAnyT_done (by kernel_rfl) ?_ _
      obtain ⟨w4, hw4⟩ : ∃ w4, w4 = w2.drew.setRow g cur1 := ⟨_, rfl⟩
      rw [← hw4]
      have hg4 : w4.heap[g]? = some (.cells cur1 5 (0, 0)) := by rw [hw4]; exact setRow_heap w2.drew g ZB cur1 5 (0, 0) HG2.out
      have m4 : Mod No wr w4 := by
        refine M2.out.drew.then (T := fun q => q = g) ?_ (fun q hq e => by have := HGG.out.1; omega)
        rw [hw4]
        exact ⟨rfl, rfl, rfl, by simp, fun j hj hn => setRow_other w2.drew g j cur1 hn⟩
      have hc1l : cur1.toList = bv ((B.drop (k * m)).take m) ++ bv (List.replicate (m + 16 - ((B.drop (k * m)).take m).length) 0) := by
        rw [HC1.out, ← HQ.out, ← HNN.out.1, ← HZ.out.2.1]
      have hc1s : cur1.size = Z := by
        rw [← Array.length_toList, hc1l, List.length_append, bv_length, bv_length, List.length_replicate, List.length_take, List.length_drop]
        have := HZ.out; omega
      have hgo : ¬ Own3 b sb mb g := fun e => by have := HDK.out.1.2.2.2.1.lt e; have := HGG.out.1; omega
      have hgu : g ≠ ub := fun e => by
        obtain ⟨es, cc, hx⟩ := HDK.out.2.1.heap
        have := lt_of_heap hx; have := HGG.out.1; omega
      have HGO := Lib.hid (And.intro hgo hgu)
      have HG4 := Lib.hid hg4
      have M4 := Lib.hid m4
      have HCL := Lib.hid hc1l
      have HCS := Lib.hid hc1s
      have c04 := m4.cell c00 (fun f => f)
      have c54 := m4.cell c05 (fun f => f)
      clear hw4 hg4 m4 hc1l hc1s hgo hgu c00 c05 hcp HLS HG2 HC1 HNN M2 HSL1 HZB
      by_cases hk0 : k = 0
      · subst hk0
        have HLS := lsize_any (HDK.out.1.2.2.2.1.stay M4.out) c04
        rw [HDK.out.1.2.1, show d.sz - 16 = m by have := HZ.out; omega] at HLS
        have HLS := Lib.hid HLS
        have HP1 := Lib.hid (put_row g m 8 (Z - m) turn cur1 5 w4 HG4.out (by omega) (by rw [HCS.out]; have := HZ.out; omega))
        have hm8 : (m : Int) + 8 ≤ (Z : Int) := by have := HZ.out; omega
        go_wp2_with fail
        with_reducible refine HLS.out.mono ?_
        rintro e w' ⟨rfl, h2⟩
        subst h2
        go_wp2_with fail
        with_reducible refine HLS.out.mono ?_
        rintro e w' ⟨rfl, h2⟩
        subst h2
        clear HLS
        go_wp2_with fail
        with_reducible refine HP1.out.mono ?_
        clear HP1
        rintro e w5 ⟨rfl, ⟨cur2, hg5, hpa2⟩, hm5⟩
        have m5 : Mod No wr w5 := M4.out.then hm5 fun i hi e => by have := HGG.out.1; omega
        have HLS := lsize_any (HDK.out.1.2.2.2.1.stay m5) (m5.cell (cell_of (i := 0) HPR.out rfl) (fun f => f))
        rw [HDK.out.1.2.1, show d.sz - 16 = m by have := HZ.out; omega] at HLS
        have HLS := Lib.hid HLS
        have hz5 : cur2.size = Z := by rw [hpa2.size, HCS.out]
        have HP2 := put_row g (m + 8) 8 (Z - (m + 8)) (next + 1) cur2 5 w5 hg5 (by omega) (by rw [hz5]; have := HZ.out; omega)
        rw [show ((next + 1 : Nat) : Int) = (next : Int) + 1 from rfl] at HP2
        have HP2 := Lib.hid HP2
        have HPA2 := Lib.hid hpa2
        have HZ5 := Lib.hid hz5
        clear hg5 hpa2 hm5 hz5 M4 c04 c54
        have c05 := cell_of (i := 5) HPR.out rfl
        have c05 := m5.cell c05 (fun f => f)
        have M5 := Lib.hid m5
        clear m5
        have hzm : ¬ Z = m + 8 := by have := HZ.out; omega
        have HE8 := Lib.hid (show Z - (m + 8) = 8 by have := HZ.out; omega)
        rw [HE8.out] at HP2
        go_wp2_with fail
        with_reducible refine HLS.out.mono ?_
        rintro e w' ⟨rfl, h2⟩
        subst h2
        clear HLS
        go_wp2_with fail
        rw [HE8.out]
        with_reducible refine HP2.out.mono ?_
        clear HP2
        rintro e w6 ⟨rfl, ⟨cur3, hg6, hpa3⟩, hm6⟩
        have m6 : Mod No wr w6 := M5.out.then hm6 fun i hi e => by have := HGG.out.1; omega
        have hlc := laid_cells1 (turn := turn) (next := next) HCL.out HPA2.out hpa3
        have HFL := Lib.hid (flush_any No b sb mb d' w6 (HDK.out.1.2.2.2.1.stay m6))
        have c06 := m6.cell (cell_of (i := 0) HPR.out rfl) (fun f => f)
        have HLC := Lib.hid hlc
        have HG6 := Lib.hid hg6
        have M6 := Lib.hid m6
        clear hg6 hpa3 hm6 m6 hlc c05
        go_wp2_with fail
        with_reducible refine HFL.out.mono ?_
        clear HFL
        rintro e w7 ⟨rfl, hd7, hm7⟩
        have f := Dk.flush_well d' HDK.out.1.2.2.1
        rw [f.2.2.2]
        have hp7 := hm7.keep (M6.out.keep HPR.out (fun f => f)) HNO.out.1
        have c07 := cell_of (i := 0) hp7 rfl
        have c57 := cell_of (i := 5) hp7 rfl
        have hmp7 := (HDK.out.2.1.keep M6.out (fun f => f)).keep hm7 HNO.out.2.1
        obtain ⟨w8, hst, hmp8, hm8, -⟩ := hmp7.store (t := 82) (val := .int .u64 (turn : Int)) key_int Try.underlying82 (by show (0 : Nat) < maxLen; unfold maxLen; omega) (keyOf_nat F (by have := HZ.out; omega))
        have c08 := hm8.cell c07 HNO.out.2.2
        have hd8 := hd7.keep hm8 (fun e => HNO.out.2.1 (.inl e.symm)) (fun e => HNO.out.2.1 (.inr (.inl e.symm))) (fun e => HNO.out.2.1 (.inr (.inr e.symm))) (fun q e => .inr fun cur fz => by
          subst e
          exact fun hx => mp_not_cells hmp7 _ _ _ hx)
        have hll : (laidAt m turn next B 0).length = Z := by rw [laidAt_len, ← HZ.out.2.1]
        have hg8 := hm8.keep (hm7.keep HG6.out HGO.out.1) HGO.out.2
        have HWR := write_any No No b sb mb d'.flush (F : Int) (.slice (some ⟨g, 0, none⟩) Z Z) (laidAt m turn next B 0) w8 hd8 (by rw [hll]; exact Sl.of_cells hg8 HLC.out hll (by unfold maxLen; omega)) (by rw [hll]; omega) (fun _ f => f.elim)
        have hwe := Dk.write_well (i := F) (l := laidAt m turn next B 0) f.1 (by rw [f.2.1, HDK.out.1.1]; have := HZ.out; omega) (by rw [hll, f.2.2.1, HDK.out.1.2.1, HZ.out.1])
        rw [hwe.2.2.2.1] at HWR
        have HWR := Lib.hid HWR
        have HEND := Lib.hid (And.intro f (And.intro hmp8 (((M6.out.weaken fun _ _ f => f.elim : Mod (fun q => Own3 b sb mb q ∨ q = ub) wr w6).trans (hm7.weaken fun _ _ e => .inl e)).trans (hm8.weaken fun _ _ e => .inr e))))
        have hF4 : (F : Int) ≤ 4096 := by have := HZ.out; omega
        clear hd7 hm7 hp7 hmp7 hmp8 hm8 hd8 hll hg8 hwe f c07
        go_wp2_with fail
        with_reducible refine HWR.out.mono ?_
        clear HWR
        rintro e w9 ⟨rfl, hd9, hm9⟩
        have HFIN := Lib.hid (LayInv.next (k := 0) hK1 (HEND.out.1.2.1.trans HDK.out.1.1) (HEND.out.1.2.2.1.trans HDK.out.1.2.1) HEND.out.1.1 HZ.out.2.2.2 (by rw [HZ.out.1, HZ.out.2.1]) hd9 (fun j h1 h2 => by rw [Dk.flush_last _ HDK.out.1.2.2.1]; exact HDK.out.1.2.2.2.2.1 j h1 h2) (fun q h => by rw [Dk.flush_last _ HDK.out.1.2.2.1]; exact HDK.out.1.2.2.2.2.2 q h) ⟨_, HEND.out.2.1.keep hm9 (fun e => HNO.out.2.1 (e.elim .inl fun e => .inr (.inr e))), fun h => by omega⟩
          ((HDK.out.2.2.trans HEND.out.2.2).trans (hm9.weaken fun _ _ e => .inl (e.elim .inl fun e => .inr (.inr e)))))
        clear hd9 hm9
        go_wp2_with fail
        exact ⟨⟨-1, by omega, by omega, rfl, HFIN.out⟩, by go_light; simp only [intOf]; omega⟩
      · have hk1 : ¬ (k : Int) = 0 := by omega
        have hFk : (F : Int) + (k : Int) ≤ 4096 := by have := HZ.out; omega
        have hll : (laidAt m turn next B k).length = Z := by rw [laidAt_len, ← HZ.out.2.1]
        have HWR := write_any No No b sb mb d' ((F + k : Nat) : Int) (.slice (some ⟨g, 0, none⟩) Z Z) (laidAt m turn next B k) w4 (HDK.out.1.2.2.2.1.stay M4.out) (by rw [hll]; exact Sl.of_cells HG4.out (by rw [HCL.out, laid_cells0 hk0]) hll (by unfold maxLen; omega)) (by rw [hll]; omega) (fun _ f => f.elim)
        have hwe := Dk.write_well (i := F + k) (l := laidAt m turn next B k) HDK.out.1.2.2.1 (by rw [HDK.out.1.1]; have := HZ.out; omega) (by rw [hll, HDK.out.1.2.1, HZ.out.1])
        rw [hwe.2.2.2.1, Int.natCast_add] at HWR
        have HWR := Lib.hid HWR
        clear hwe hll
        go_wp2_with fail
        with_reducible refine HWR.out.mono ?_
        clear HWR
        rintro e w9 ⟨rfl, hd9, hm9⟩
        rw [← Int.natCast_add] at hd9
        have HFIN := Lib.hid (LayInv.next (k := k) (by omega) HDK.out.1.1 HDK.out.1.2.1 HDK.out.1.2.2.1 HZ.out.2.2.2 (by rw [HZ.out.1, HZ.out.2.1]) hd9 HDK.out.1.2.2.2.2.1 HDK.out.1.2.2.2.2.2 ⟨_, (HDK.out.2.1.keep M4.out (fun f => f)).keep hm9 (fun e => HNO.out.2.1 (e.elim .inl fun e => .inr (.inr e))), fun _ => rfl⟩
          ((HDK.out.2.2.trans (M4.out.weaken fun _ _ f => f.elim)).trans (hm9.weaken fun _ _ e => .inl (e.elim .inl fun e => .inr (.inr e)))))
        clear hd9 hm9
        go_wp2_with fail
        exact ⟨⟨(k : Int) - 1, by omega, by omega, rfl, by rw [show ((k : Int) - 1 + 1).toNat = k by omega]; exact HFIN.out⟩, by go_light; simp only [intOf]; omega⟩
    · have him : i = -1 := by omega
      subst him
      obtain ⟨⟨d', q1, q2, q3, q4, q5, q6⟩, ⟨D, q7, q8⟩, q9⟩ := hinv
      have hpr := q9.keep HP.out (fun e => e.elim HNO.out.1 HNO.out.2.2)
      have c00 := cell_of (i := 0) hpr rfl
      have HFL := Lib.hid (flush_any No b sb mb d' wr q4)
      have HPR := Lib.hid hpr
      have HDK := Lib.hid (And.intro (show d'.n = d.n ∧ d'.sz = d.sz ∧ Well d' ∧ (∀ j, ((-1 : Int) + 1).toNat ≤ j → j < K → d'.last (F + j) = laidAt m turn next B j) ∧ (∀ q, q < F + ((-1 : Int) + 1).toNat ∨ F + K ≤ q → d'.last q = d.last q) from ⟨q1, q2, q3, q5, q6⟩) (And.intro q7 q9))
      clear q1 q2 q3 q4 q5 q6 q7 q8 q9 hpr
      go_wp2_with fail
      with_reducible refine HFL.out.mono ?_
      clear HFL
      rintro e w5 ⟨rfl, hd5, hm5⟩
      obtain ⟨f1, f2, f3, f4⟩ := Dk.flush_well d' HDK.out.1.2.2.1
      rw [f4]
      have c05 := cell_of (i := 5) (hm5.keep HPR.out HNO.out.1) rfl
      obtain ⟨w6, hclr, hmp6, hm6, -⟩ := (HDK.out.2.1.keep hm5 HNO.out.2.1).clear (t := 82) Try.underlying82
      have HEND := Lib.hid (And.intro hd5 (And.intro hm5 (And.intro hmp6 hm6)))
      clear hd5 hm5 hmp6 hm6 f1 f2 f3 f4
      go_wp2_with fail
      have hd5 := HEND.out.1
      have f := Dk.flush_well d' HDK.out.1.2.2.1
      have hm6 := HEND.out.2.2.2
      refine fin hR ⟨rfl, ⟨d'.flush, f.2.1.trans HDK.out.1.1, f.2.2.1.trans HDK.out.1.2.1, f.1, hd5.keep hm6 (fun e => HNO.out.2.1 (.inl e.symm)) (fun e => HNO.out.2.1 (.inr (.inl e.symm))) (fun e => HNO.out.2.1 (.inr (.inr e.symm))) (fun q e => .inr fun cur fz => by
        subst e
        exact fun hx => mp_not_cells (HDK.out.2.1.keep HEND.out.2.1 HNO.out.2.1) _ _ _ hx), ⟨fun j hj => ?_, fun j hj => ?_⟩⟩, HEND.out.2.2.1, (HDK.out.2.2.trans (HEND.out.2.1.weaken fun _ _ e => .inl e)).trans (hm6.weaken fun _ _ e => .inr e)⟩
      · rw [Dk.flush_last _ HDK.out.1.2.2.1]; exact HDK.out.1.2.2.2.1 j (by omega) hj
      · rw [Dk.flush_last _ HDK.out.1.2.2.1]; exact HDK.out.1.2.2.2.2 j (by omega)

end Go.Proofs.Ytnchclleiccofaa
