/-
  The law DiskPlays: crash of the model. No statement is proved here; no condition.
-/
import Derived.Test.YtjmnpfbinjlegaaPlayM
namespace Go.Proofs.Ytjmnpfbinjlegaa
open Go.RowKit Go.Maps

theorem bit0_is (keep m : Nat) (h : keep < 18446744073709551616) : (bits BinOp.and IntKind.u64 ((keep : Int) / 2 ^ m) 1 == 0) = !keep.testBit m := by
  have e : (keep : Int) / 2 ^ m = ((keep / 2 ^ m : Nat) : Int) := by
    rw [Int.natCast_ediv, Int.natCast_pow]; rfl
  rw [e, and_one_u64 _ (Int.natCast_nonneg _) (by have := Nat.div_le_self keep (2 ^ m); omega)]
  rw [Nat.testBit_eq_decide_div_mod_eq]
  rw [Bool.eq_iff_iff]
  simp
  omega

theorem rank_succ (dirty : Nat → Option (List UInt8)) (j : Nat) : rank dirty (j + 1) = rank dirty j + if (dirty j).isSome then 1 else 0 := by
  unfold rank
  rw [dirtyList_succ]
  by_cases h : (dirty j).isSome = true <;> simp [h]

theorem rank_le (dirty : Nat → Option (List UInt8)) (j : Nat) : rank dirty j ≤ j := by
  unfold rank dirtyList
  have := List.length_filter_le (fun i => (dirty i).isSome) (List.range j)
  rwa [List.length_range] at this

/-- One sector settled. -/
def Dk.soon (d : Dk) (g : Nat → List UInt8 → List UInt8 → List UInt8) (i : Nat) : List UInt8 := match d.dirty i with | some l => g (rank d.dirty i) (d.sure i) l | none => d.sure i

/-- The first j sectors are settled. -/
def Dk.upTo (d : Dk) (g : Nat → List UInt8 → List UInt8 → List UInt8) (j : Nat) : Dk :=
  { d with sure := fun i => if i < j then d.soon g i else d.sure i, dirty := fun i => if i < j then none else d.dirty i }

theorem upTo_zero (d : Dk) (g) : d.upTo g 0 = d := by simp [Dk.upTo]
theorem upTo_sure (d : Dk) (g) (j k : Nat) : (d.upTo g (j + 1)).sure k = if k = j then d.soon g j else (d.upTo g j).sure k := by
  unfold Dk.upTo
  by_cases h : k = j
  · subst h; simp
  · by_cases h2 : k < j
    · simp [h, h2, show k < j + 1 by omega]
    · simp [h, h2, show ¬ k < j + 1 by omega]
theorem upTo_fresh (d : Dk) (g) (j k : Nat) : fresh (d.upTo g (j + 1)) k = if k = j then false else fresh (d.upTo g j) k := by
  unfold fresh Dk.upTo
  by_cases h : k = j
  · subst h; simp
  · by_cases h2 : k < j
    · simp [h, h2, show k < j + 1 by omega]
    · simp [h, h2, show ¬ k < j + 1 by omega]
theorem upTo_last (d : Dk) (g) (j k : Nat) : (d.upTo g (j + 1)).last k = if k = j then d.soon g j else (d.upTo g j).last k := by
  unfold Dk.last Dk.upTo
  by_cases h : k = j
  · subst h; simp
  · by_cases h2 : k < j
    · simp [h, h2, show k < j + 1 by omega]
    · simp [h, h2, show ¬ k < j + 1 by omega]
theorem upTo_at (d : Dk) (g) (j : Nat) : (d.upTo g j).sure j = d.sure j ∧ (d.upTo g j).last j = d.last j ∧ fresh (d.upTo g j) j = fresh d j := by
  unfold Dk.last fresh Dk.upTo
  simp

abbrev MObj (w : World) (q lb sb fb : Nat) (d : Dk) : Prop :=
  ∃ lc sc fc nn, w.heap[q]? = some (.cells #[.slice (some ⟨lb, 0, none⟩) d.n lc, .slice (some ⟨sb, 0, none⟩) d.n sc, .slice (some ⟨fb, 0, none⟩) d.n fc, .bool d.dead, .bool (decide (d.cut ≠ -1)), .int .i64 nn] 48 (0, 0)) ∧ (d.cut ≠ -1 → nn = d.cut) ∧ d.n ≤ lc ∧ lc ≤ maxLen ∧ d.n ≤ sc ∧ sc ≤ maxLen ∧ d.n ≤ fc ∧ fc ≤ maxLen

/-- Within a round: sector j holds L already. -/
structure MidAt (w : World) (q lb sb fb : Nat) (d : Dk) (j : Nat) (L : List UInt8) : Prop where
  obj : MObj w q lb sb fb d
  l : ∃ cur, SureAt w No lb d.n d.sz (fun k => if k = j then L else d.last k) cur
  s : ∃ cur, SureAt w No sb d.n d.sz d.sure cur
  f : ∃ cur, FlAt w fb d.n (fresh d) cur

theorem MObj.keep {S : Nat → Prop} {w w' : World} {q lb sb fb : Nat} {d : Dk} (h : MObj w q lb sb fb d) (hm : Mod S w w') (hs : ¬ S q) : MObj w' q lb sb fb d := by
  obtain ⟨lc, sc, fc, nn, ho, r⟩ := h
  exact ⟨lc, sc, fc, nn, hm.keep ho hs, r⟩

/-- The loop of crash. -/
structure CrInv (w0 wr : World) (q lb sb fb : Nat) (d : Dk) (g : Nat → List UInt8 → List UInt8 → List UInt8) (j : Nat) : Prop where
  md : MdAt wr q lb sb fb (d.upTo g j)
  mod : Mod (Own4 q lb sb fb) w0 wr

/-- Within a round of it. -/
structure CrMid (w0 wr : World) (q lb sb fb : Nat) (d : Dk) (g : Nat → List UInt8 → List UInt8 → List UInt8) (j : Nat) : Prop where
  md : MidAt wr q lb sb fb (d.upTo g j) j (d.soon g j)
  mod : Mod (Own4 q lb sb fb) w0 wr

theorem MdAt.mid {w : World} {q lb sb fb : Nat} {d : Dk} {g} {j : Nat} (h : MdAt w q lb sb fb (d.upTo g j)) (e : d.soon g j = d.last j) : MidAt w q lb sb fb (d.upTo g j) j (d.soon g j) := by
  obtain ⟨cur, hl⟩ := h.l
  refine ⟨h.obj, ⟨cur, hl.congr fun i _ => ?_⟩, h.s, h.f⟩
  by_cases hi : i = j
  · subst hi; rw [if_pos rfl, e, (upTo_at d g i).2.1]
  · rw [if_neg hi]

theorem bytes_ne_bs : (5 : TypeId) ≠ 33 := by decide

/-- l[j] is stored. -/
theorem MdAt.put_mid {w wd : World} {q lb sb fb : Nat} {d : Dk} {g} {j : Nat} {v : Value} (h : MdAt w q lb sb fb (d.upTo g j)) (hj : j < d.n) (hm : Mod No w wd) (hv : Sl wd No 5 v d.sz (bv (d.soon g j))) :
    MidAt (wd.setCell ⟨lb, j, none⟩ v) q lb sb fb (d.upTo g j) j (d.soon g j) := by
  obtain ⟨e1, e2, e3, e4, e5, e6⟩ := h.diff
  have h' := h.stay hm
  obtain ⟨cur, hl⟩ := h'.l
  obtain ⟨cus, hs⟩ := h'.s
  obtain ⟨cuf, hf⟩ := h'.f
  have hm2 : Mod (· = lb) wd (wd.setCell ⟨lb, j, none⟩ v) := (Mod.refl (· = lb) wd).setCell (fun _ => rfl) _
  have hb : Beside wd No (· = lb) := fun k hk => .inr fun cur' fz e => by subst hk; rw [hl.heap] at e; cases e
  exact ⟨MObj.keep h'.obj hm2 e1, ⟨_, hl.set (i := j) hj hv⟩, ⟨_, hs.keep hm2 (Ne.symm e4) hb⟩, ⟨_, hf.keep hm2 (Ne.symm e5)⟩⟩

/-- The round's end: sure[j], fresh[j] are stored. -/
theorem MidAt.done {w0 w wd : World} {q lb sb fb : Nat} {d : Dk} {g} {j : Nat} {v : Value} (h : MidAt w q lb sb fb (d.upTo g j) j (d.soon g j)) (h0 : MdAt w0 q lb sb fb (d.upTo g j)) (hj : j < d.n) (hm : Mod No w wd)
    (hv : Sl wd No 5 v d.sz (bv (d.soon g j))) (hL : (d.soon g j).length = d.sz) : MdAt ((wd.setCell ⟨sb, j, none⟩ v).setCell ⟨fb, j, none⟩ (.bool false)) q lb sb fb (d.upTo g (j + 1)) := by
  obtain ⟨e1, e2, e3, e4, e5, e6⟩ := h0.diff
  obtain ⟨cur, hl⟩ := h.l
  obtain ⟨cus, hs⟩ := h.s
  obtain ⟨cuf, hf⟩ := h.f
  have hl := hl.keep hm (fun f => f) (beside_no _ _)
  have hs := hs.keep hm (fun f => f) (beside_no _ _)
  have hf := hf.keep hm (fun f => f)
  have ho := MObj.keep h.obj hm (fun f => f)
  have m1 : Mod (· = sb) wd (wd.setCell ⟨sb, j, none⟩ v) := (Mod.refl (· = sb) wd).setCell (fun _ => rfl) _
  have b1 : Beside wd No (· = sb) := fun k hk => .inr fun cur' fz e => by subst hk; rw [hs.heap] at e; cases e
  have hs1 := hs.set (i := j) hj hv
  have hl1 := hl.keep m1 e4 b1
  have hf1 := hf.keep m1 (Ne.symm e6)
  have ho1 := MObj.keep ho m1 e2
  have m2 : Mod (· = fb) (wd.setCell ⟨sb, j, none⟩ v) ((wd.setCell ⟨sb, j, none⟩ v).setCell ⟨fb, j, none⟩ (.bool false)) := (Mod.refl (· = fb) _).setCell (fun _ => rfl) _
  have b2 : Beside (wd.setCell ⟨sb, j, none⟩ v) No (· = fb) := fun k hk => .inr fun cur' fz e => by subst hk; rw [hf1.heap] at e; cases e
  refine ⟨MObj.keep ho1 m2 e3, ⟨_, (hl1.keep m2 e5 b2).congr fun k _ => ?_⟩, ⟨_, (hs1.keep m2 e6 b2).congr fun k _ => ?_⟩, ⟨_, (hf1.set (i := j) hj false).congr fun k _ => ?_⟩, e4, fun k hk => ?_, fun k hk => ?_, h0.n1, h0.n2, h0.s1, h0.s2, h0.c1, h0.c2⟩
  · rw [upTo_last]
  · rw [upTo_sure]
  · rw [upTo_fresh]
  · rw [upTo_last]
    split
    · exact hL
    · exact h0.lenL k hk
  · rw [upTo_sure]
    split
    · exact hL
    · exact h0.lenS k hk

theorem MdAt.congr {w : World} {q lb sb fb : Nat} {d d' : Dk} (h : MdAt w q lb sb fb d) (h1 : d'.n = d.n) (h2 : d'.sz = d.sz) (h3 : d'.cut = d.cut) (h4 : d'.dead = d.dead) (h5 : ∀ i, i < d.n → d'.sure i = d.sure i) (h6 : ∀ i, i < d.n → d'.dirty i = d.dirty i) : MdAt w q lb sb fb d' := by
  obtain ⟨cur, hl⟩ := h.l
  obtain ⟨cus, hs⟩ := h.s
  obtain ⟨cuf, hf⟩ := h.f
  have e1 : ∀ i, i < d.n → d.last i = d'.last i := fun i hi => by unfold Dk.last; rw [h5 i hi, h6 i hi]
  have e2 : ∀ i, i < d.n → fresh d i = fresh d' i := fun i hi => by unfold fresh; rw [h6 i hi]
  refine ⟨?_, ⟨cur, ?_⟩, ⟨cus, ?_⟩, ⟨cuf, ?_⟩, h.ne, ?_, ?_, by rw [h1]; exact h.n1, by rw [h1]; exact h.n2, by rw [h2]; exact h.s1, by rw [h2]; exact h.s2, by rw [h3]; exact h.c1, by rw [h3]; exact h.c2⟩
  · rw [h1, h3, h4]; exact h.obj
  · rw [h1, h2]; exact hl.congr e1
  · rw [h1, h2]; exact hs.congr fun i hi => (h5 i hi).symm
  · rw [h1]; exact hf.congr e2
  · rw [h1, h2]; exact fun i hi => by rw [← e1 i hi]; exact h.lenL i hi
  · rw [h1, h2]; exact fun i hi => by rw [h5 i hi]; exact h.lenS i hi

theorem crashG_len (keep : Nat) (torn : Int) (t k n : Nat) (s l : List UInt8) (hs : s.length = n) (hl : l.length = n) (ht : t ≤ n) : (crashG keep torn t k s l).length = n := by
  unfold crashG
  split
  · rw [List.length_append, List.length_take, List.length_drop]; omega
  · split <;> assumption


set_option maxRecDepth 100000 in
set_option maxHeartbeats 4000000 in
theorem mcrash_any (q lb sb fb : Nat) (d : Dk) (keep : Nat) (torn at_ : Int) (w : World) (h : MdAt w q lb sb fb d) (hkp : keep < 18446744073709551616) :
    Calls Try.prog 19 #[.pointer (some ⟨q, 0, none⟩), .int .u64 (keep : Int), .int .i64 torn, .int .i64 at_] w fun e w' => e = .returned (.tuple #[]) ∧ MdAt w' q lb sb fb (d.crash keep torn at_) ∧ Mod (Own4 q lb sb fb) w w' := by
  obtain ⟨i0, hi, hz0, hz1, hz2⟩ := info_parts info_u8
  obtain ⟨t, ht⟩ : ∃ t : Nat, min (max at_ 0) (d.sz : Int) = (t : Int) := Int.eq_ofNat_of_zero_le (by omega)
  have ht1 : t ≤ d.sz := by omega
  have ht2 : (min (max at_ 0) (d.sz : Int)).toNat = t := by omega
  have hcr : d.crash keep torn at_ = { d.settle (crashG keep torn t) with cut := -1, dead := false } := by unfold Dk.crash; rw [ht2]
  rw [hcr]
  clear hcr ht2
  have HT0 := Lib.hid ht
  clear ht
  have hn2 : d.n ≤ 4096 := h.n2
  have hs1 : 64 ≤ d.sz := h.s1
  have hs2 : d.sz ≤ 4096 := h.s2
  have H0 := Lib.hid (show CrInv w w q lb sb fb d (crashG keep torn t) 0 from ⟨by rw [upTo_zero]; exact h, Mod.refl _ _⟩)
  have hLen : ∀ i, i < d.n → (d.soon (crashG keep torn t) i).length = d.sz := fun i hi => by
    have h1 := h.lenS i hi
    have h2 := h.lenL i hi
    unfold Dk.last at h2
    unfold Dk.soon
    cases hd : d.dirty i with
    | none => exact h1
    | some l => rw [hd] at h2; exact crashG_len keep torn t _ d.sz _ _ h1 h2 ht1
  have HLN := Lib.hid hLen
  have HLS := Lib.hid h.lenS
  have HLL := Lib.hid h.lenL
  clear h hLen
  refine calls_hide fun R hR => ?_
  go_enter Try.func19, Try.ntmps19
  go_wp2_with fail
  go_loopw [8, 9] (fun kk i wr => ∃ j : Nat, j ≤ d.n ∧ i = .int .i64 j ∧ kk = .int .i64 (rank d.dirty j) ∧ CrInv w wr q lb sb fb d (crashG keep torn t) j) (fun _ i _ => d.n - (intOf i).toNat)
  case atStart => exact ⟨0, by omega, rfl, rfl, H0.out⟩
  case round =>
    obtain ⟨j, hj, rfl, rfl, hinv⟩ := hrel
    have HI := Lib.hid hinv
    obtain ⟨lc, sc, fc, nn, (ho : wr.heap[q]? = some (.cells #[.slice (some ⟨lb, 0, none⟩) d.n lc, .slice (some ⟨sb, 0, none⟩) d.n sc, .slice (some ⟨fb, 0, none⟩) d.n fc, .bool d.dead, .bool (decide (d.cut ≠ -1)), .int .i64 nn] 48 (0, 0))), hnn, hcaps⟩ := hinv.md.obj
    have q0 := cell_of (i := 0) ho rfl
    have q1 := cell_of (i := 1) ho rfl
    have q2 := cell_of (i := 2) ho rfl
    have q3 := cell_of (i := 3) ho rfl
    have q4 := cell_of (i := 4) ho rfl
    have fz3 := frozen_of 3 ho
    have fz4 := frozen_of 4 ho
    have HO := Lib.hid ho
    have HCP := Lib.hid hcaps
    clear hinv ho hnn hcaps
    have hj0 : (0 : Int) ≤ (j : Int) := Int.natCast_nonneg _
    by_cases hlt : j < d.n
    · have hj1 : (j : Int) < (d.n : Int) := by omega
      have hrs := rank_succ d.dirty j
      have hrl := rank_le d.dirty j
      obtain ⟨cul, hcl⟩ := HI.out.md.l
      obtain ⟨cus, hcs⟩ := HI.out.md.s
      obtain ⟨cuf, hcf⟩ := HI.out.md.f
      obtain ⟨vl, hvl, (hsl : Sl wr No 5 vl d.sz (bv ((d.upTo (crashG keep torn t) j).last j)))⟩ := hcl.cell j hlt
      obtain ⟨vs, hvs, (hss : Sl wr No 5 vs d.sz (bv ((d.upTo (crashG keep torn t) j).sure j)))⟩ := hcs.cell j hlt
      obtain ⟨lb1, lo1, lc1, rfl, hlc1, hlc2, _⟩ := hsl.shape (show 0 < d.sz by omega)
      obtain ⟨sb1, so1, sc1, rfl, hsc1, hsc2, _⟩ := hss.shape (show 0 < d.sz by omega)
      have cl := cell_ofA hcl.heap hvl
      have cs := cell_ofA hcs.heap hvs
      have cf := cell_ofA hcf.heap (hcf.cell j hlt)
      have ff := frozen_of j hcf.heap
      have fl := frozen_of j hcl.heap
      obtain ⟨u1, u2, u3⟩ := upTo_at d (crashG keep torn t) j
      rw [u2] at hsl
      rw [u1] at hss
      rw [u3] at cf
      have CL := Lib.hid hcl
      have SL := Lib.hid hsl
      have SS := Lib.hid hss
      have RS := Lib.hid hrs
      have hr0 : (0 : Int) ≤ (rank d.dirty j : Int) := Int.natCast_nonneg _
      have hr1 : (rank d.dirty j : Int) ≤ 4096 := by omega
      have LS := Lib.hid (HLS.out j hlt)
      have LL := Lib.hid (HLL.out j hlt)
      have HFR := Lib.hid (show fresh d j = (d.dirty j).isSome from rfl)
      have SOON := Lib.hid (show d.soon (crashG keep torn t) j = match d.dirty j with | some l => crashG keep torn t (rank d.dirty j) (d.sure j) l | none => d.sure j from rfl)
      have LAST := Lib.hid (show d.last j = (d.dirty j).getD (d.sure j) from rfl)
      clear hcl hcs hcf hvl hvs hsl hss hrs hrl u1 u2 u3
      generalize fresh d j = p at *
      generalize hrk : rank d.dirty j = r at *
      clear hrk
      go_upto_if 26 with fail
      go_cut [8] from 11 to 108 (fun kk wx => kk = .int .i64 (rank d.dirty (j + 1)) ∧ CrMid w wx q lb sb fb d (crashG keep torn t) j)
      case first =>
        cases hd : d.dirty j with
        | none =>
          rw [hd] at HFR
          have hp := HFR.out
          subst hp
          have e1 : rank d.dirty (j + 1) = r := by rw [RS.out, hd]; rfl
          have e2 : d.soon (crashG keep torn t) j = d.last j := by rw [SOON.out, LAST.out, hd]; rfl
          have E1 := Lib.hid e1
          have E2 := Lib.hid e2
          clear e1 e2
          go_wp2_with fail
          go_meet
          exact ⟨by rw [E1.out], HI.out.md.mid E2.out, HI.out.mod⟩
        | some l =>
          rw [hd] at HFR
          have hp := HFR.out
          subst hp
          have e1 : rank d.dirty (j + 1) = r + 1 := by rw [RS.out, hd]; rfl
          have E1 := Lib.hid e1
          have el : d.last j = l := by rw [LAST.out, hd]; rfl
          have es : d.soon (crashG keep torn t) j = crashG keep torn t r (d.sure j) l := by rw [SOON.out, hd]
          have EL := Lib.hid el
          have ES := Lib.hid es
          clear e1 el es hd
          have hb2 : (bits BinOp.and IntKind.u64 ((keep : Int) / 2 ^ (r % 64)) 1 == 0) = !keep.testBit (r % 64) := bit0_is keep (r % 64) hkp
          by_cases hrt : (r : Int) = torn
          · have htb : ((r : Int) == torn) = true := by simpa using hrt
            have G := Lib.hid (show crashG keep torn t r (d.sure j) l = l.take t ++ (d.sure j).drop t from if_pos hrt)
            have ht := HT0.out
            have t0 : (0 : Int) ≤ (t : Int) := Int.natCast_nonneg _
            have t1 : (t : Int) ≤ (d.sz : Int) := by omega
            rw [EL.out] at SL LL
            have HT := Lib.hid (show Sl wr No 5 (.slice (some ⟨lb1, lo1, none⟩) t lc1) t (bv (l.take t)) from by rw [bv_take]; exact SL.out.takeN (by rw [bv_length, LL.out]) ht1)
            have HD := Lib.hid (show Sl wr No 5 (.slice (if sc1 = t then some ⟨sb1, so1, none⟩ else some ⟨sb1, so1 + t, none⟩) (d.sz - t) (sc1 - t)) (d.sz - t) (bv ((d.sure j).drop t)) from by rw [bv_drop]; exact SS.out.dropN (by rw [bv_length, LS.out]) ht1)
            have HLT := Lib.hid (show (l.take t).length = t from by rw [List.length_take, LL.out]; omega)
            have HLD := Lib.hid (show ((d.sure j).drop t).length = d.sz - t from by rw [List.length_drop, LS.out])
            have t2 : t ≤ lc1 := by omega
            have t3 : t ≤ sc1 := by omega
            generalize d.sure j = s at *
            clear hrt
            go_upto_region 7 with fail
            have hS0 : wr.drew.cell? ⟨q, 0, none⟩ = some (.slice (some ⟨lb, 0, none⟩) d.n lc) ∧ wr.drew.cell? ⟨q, 1, none⟩ = some (.slice (some ⟨sb, 0, none⟩) d.n sc) ∧ wr.drew.cell? ⟨q, 2, none⟩ = some (.slice (some ⟨fb, 0, none⟩) d.n fc) ∧ wr.drew.cell? ⟨lb, j, none⟩ = some (.slice (some ⟨lb1, lo1, none⟩) d.sz lc1) ∧ wr.drew.cell? ⟨sb, j, none⟩ = some (.slice (some ⟨sb1, so1, none⟩) d.sz sc1) := ⟨q0, q1, q2, cl, cs⟩
            refine wp_region_T (fun w' => w'.cell? ⟨q, 0, none⟩ = some (.slice (some ⟨lb, 0, none⟩) d.n lc) ∧ w'.cell? ⟨q, 1, none⟩ = some (.slice (some ⟨sb, 0, none⟩) d.n sc) ∧ w'.cell? ⟨q, 2, none⟩ = some (.slice (some ⟨fb, 0, none⟩) d.n fc) ∧ w'.cell? ⟨lb, j, none⟩ = some (.slice (some ⟨lb1, lo1, none⟩) d.sz lc1) ∧ w'.cell? ⟨sb, j, none⟩ = some (.slice (some ⟨sb1, so1, none⟩) d.sz sc1)) 26 (by kernel_rfl) ?_
            refine wpAnyT_take 0 (some 42) ?_ rfl rfl (by kernel_rfl) (fun _ _ _ h => h) hS0 (Or.inl ⟨by rfl, ?_⟩) ?_
            rotate_left
            · (intro w' hSw; (try dsimp only at hSw); go_simp; try with_reducible rfl)
            simp only [Act.put, List.setIfInBounds_toArray, List.set_cons_zero, List.set_cons_succ]
            refine wpAnyT_take 1 (some 43) ?_ rfl rfl (by kernel_rfl) (fun _ _ _ h => h) hS0 (Or.inl ⟨by rfl, ?_⟩) ?_
            rotate_left
            · (intro w' hSw; (try dsimp only at hSw); go_simp; try with_reducible rfl)
            simp only [Act.put, List.setIfInBounds_toArray, List.set_cons_zero, List.set_cons_succ]
            refine wpAnyT_take 2 (some 44) ?_ rfl rfl (by kernel_rfl) (fun _ _ _ h => h) hS0 (Or.inl ⟨by rfl, ?_⟩) ?_
            rotate_left
            · (intro w' hSw; (try dsimp only at hSw); go_simp; try with_reducible rfl)
            simp only [Act.put, List.setIfInBounds_toArray, List.set_cons_zero, List.set_cons_succ]
            refine wpAnyT_take 3 (some 45) ?_ rfl rfl (by kernel_rfl) (fun _ _ _ h => h) hS0 (Or.inl ⟨by rfl, ?_⟩) ?_
            rotate_left
            · (intro w' hSw; (try dsimp only at hSw); go_simp; try with_reducible rfl)
            simp only [Act.put, List.setIfInBounds_toArray, List.set_cons_zero, List.set_cons_succ]
            refine wpAnyT_take 4 (some 46) ?_ rfl rfl (by kernel_rfl) (fun _ _ _ h => h) hS0 (Or.inl ⟨by rfl, ?_⟩) ?_
            rotate_left
            · (intro w' hSw; (try dsimp only at hSw); go_simp; try with_reducible rfl)
            simp only [Act.put, List.setIfInBounds_toArray, List.set_cons_zero, List.set_cons_succ]
            refine wpAnyT_take 5 (some 47) ?_ rfl rfl (by kernel_rfl) (fun _ _ _ h => h) hS0 (Or.inl ⟨by rfl, ?_⟩) ?_
            rotate_left
            · (intro w' hSw; (try dsimp only at hSw); go_simp; try with_reducible rfl)
            simp only [Act.put, List.setIfInBounds_toArray, List.set_cons_zero, List.set_cons_succ]
            refine wpAnyT_take 6 (some 48) ?_ rfl rfl (by kernel_rfl) (fun _ _ _ h => h) hS0 (Or.inl ⟨by rfl, ?_⟩) ?_
            rotate_left
            · (intro w' hSw; (try dsimp only at hSw); go_simp; try with_reducible rfl)
            simp only [Act.put, List.setIfInBounds_toArray, List.set_cons_zero, List.set_cons_succ]
            refine wpAnyT_take 7 (some 49) ?_ rfl rfl (by kernel_rfl) (fun _ _ _ h => h) hS0 (Or.inl ⟨by rfl, ?_⟩) ?_
            rotate_left
            · (intro w' hSw; (try dsimp only at hSw); go_simp; try with_reducible rfl)
            simp only [Act.put, List.setIfInBounds_toArray, List.set_cons_zero, List.set_cons_succ]
            refine wpAnyT_take 8 (some 50) ?_ rfl rfl (by kernel_rfl) (fun _ _ _ h => h) hS0 (Or.inl ⟨by rfl, ?_⟩) ?_
            rotate_left
            · (intro w' hSw; (try dsimp only at hSw); go_simp; try with_reducible rfl)
            simp only [Act.put, List.setIfInBounds_toArray, List.set_cons_zero, List.set_cons_succ]
            refine wpAnyT_take 9 (some 51) ?_ rfl rfl (by kernel_rfl) (fun _ _ _ h => h) hS0 (Or.inl ⟨by rfl, ?_⟩) ?_
            rotate_left
            · (intro w' hSw; (try dsimp only at hSw); go_simp; try with_reducible rfl)
            simp only [Act.put, List.setIfInBounds_toArray, List.set_cons_zero, List.set_cons_succ]
            refine wpAnyT_take 10 (some 52) ?_ rfl rfl (by kernel_rfl) (fun _ _ _ h => h) hS0 (Or.inl ⟨by rfl, ?_⟩) ?_
            rotate_left
            · (intro w' hSw; (try dsimp only at hSw); go_simp; try with_reducible rfl)
            simp only [Act.put, List.setIfInBounds_toArray, List.set_cons_zero, List.set_cons_succ]
            refine wpAnyT_take 11 (some 53) ?_ rfl rfl (by kernel_rfl) (fun _ _ _ h => h) hS0 (Or.inl ⟨by rfl, ?_⟩) ?_
            rotate_left
            · (intro w' hSw; (try dsimp only at hSw); go_simp; try with_reducible rfl)
            simp only [Act.put, List.setIfInBounds_toArray, List.set_cons_zero, List.set_cons_succ]
            refine wpAnyT_take 12 (some 54) ?_ rfl rfl (by kernel_rfl) (fun _ _ _ h => h) hS0 (Or.inl ⟨by rfl, ?_⟩) ?_
            rotate_left
            · (intro w' hSw; (try dsimp only at hSw); go_simp; try with_reducible rfl)
            simp only [Act.put, List.setIfInBounds_toArray, List.set_cons_zero, List.set_cons_succ]
            refine wpAnyT_take 13 (some 55) ?_ rfl rfl (by kernel_rfl) (fun _ _ _ h => h) hS0 (Or.inl ⟨by rfl, ?_⟩) ?_
            rotate_left
            · (intro w' hSw; (try dsimp only at hSw); go_simp; try with_reducible rfl)
            simp only [Act.put, List.setIfInBounds_toArray, List.set_cons_zero, List.set_cons_succ]
            refine wpAnyT_take 15 (some 57) ?_ rfl rfl (by kernel_rfl) (fun _ _ _ h => h) hS0 (Or.inl ⟨by rfl, ?_⟩) ?_
            rotate_left
            · (intro w' hSw; (try dsimp only at hSw); go_simp; try with_reducible rfl)
            simp only [Act.put, List.setIfInBounds_toArray, List.set_cons_zero, List.set_cons_succ]
            refine wpAnyT_take 16 (some 58) ?_ rfl rfl (by kernel_rfl) (fun _ _ _ h => h) hS0 (Or.inl ⟨by rfl, ?_⟩) ?_
            rotate_left
            · (intro w' hSw; (try dsimp only at hSw); go_simp; try with_reducible rfl)
            simp only [Act.put, List.setIfInBounds_toArray, List.set_cons_zero, List.set_cons_succ]
            refine wpAnyT_take 17 (some 59) ?_ rfl rfl (by kernel_rfl) (fun _ _ _ h => h) hS0 (Or.inl ⟨by rfl, ?_⟩) ?_
            rotate_left
            · (intro w' hSw; (try dsimp only at hSw); go_simp; try with_reducible rfl)
            simp only [Act.put, List.setIfInBounds_toArray, List.set_cons_zero, List.set_cons_succ]
            refine wpAnyT_take 18 (some 60) ?_ rfl rfl (by kernel_rfl) (fun _ _ _ h => h) hS0 (Or.inl ⟨by rfl, ?_⟩) ?_
            rotate_left
            · (intro w' hSw; (try dsimp only at hSw); go_simp; try with_reducible rfl)
            simp only [Act.put, List.setIfInBounds_toArray, List.set_cons_zero, List.set_cons_succ]
            refine wpAnyT_take 19 (some 61) ?_ rfl rfl (by kernel_rfl) (fun _ _ _ h => h) hS0 (Or.inl ⟨by rfl, ?_⟩) ?_
            rotate_left
            · (intro w' hSw; (try dsimp only at hSw); go_simp; try with_reducible rfl)
            simp only [Act.put, List.setIfInBounds_toArray, List.set_cons_zero, List.set_cons_succ]
            refine wpAnyT_take 20 (some 62) ?_ rfl rfl (by kernel_rfl) (fun _ _ _ h => h) hS0 (Or.inl ⟨by rfl, ?_⟩) ?_
            rotate_left
            · (intro w' hSw; (try dsimp only at hSw); go_simp; try with_reducible rfl)
            simp only [Act.put, List.setIfInBounds_toArray, List.set_cons_zero, List.set_cons_succ]
            refine wpAnyT_take 21 (some 63) ?_ rfl rfl (by kernel_rfl) (fun _ _ _ h => h) hS0 (Or.inl ⟨by rfl, ?_⟩) ?_
            rotate_left
            · (intro w' hSw; (try dsimp only at hSw); go_simp; try with_reducible rfl)
            simp only [Act.put, List.setIfInBounds_toArray, List.set_cons_zero, List.set_cons_succ]
            refine wpAnyT_take 22 (some 64) ?_ rfl rfl (by kernel_rfl) (fun _ _ _ h => h) hS0 (Or.inl ⟨by rfl, ?_⟩) ?_
            rotate_left
            · (intro w' hSw; (try dsimp only at hSw); go_simp; try with_reducible rfl)
            simp only [Act.put, List.setIfInBounds_toArray, List.set_cons_zero, List.set_cons_succ]
            refine wpAnyT_take 23 (some 65) ?_ rfl rfl (by kernel_rfl) (fun _ _ _ h => h) hS0 (Or.inl ⟨by rfl, ?_⟩) ?_
            rotate_left
            · (intro w' hSw; (try dsimp only at hSw); go_simp; try with_reducible rfl)
            simp only [Act.put, List.setIfInBounds_toArray, List.set_cons_zero, List.set_cons_succ]
            generalize (if sc1 = t then some (⟨sb1, so1, none⟩ : Addr) else some ⟨sb1, so1 + t, none⟩) = ao at *
            refine wpAnyT_one 14 rfl (by kernel_rfl) rfl ?_
            intro K hK
            refine wp_app_sl _ (.const (.slice none 0 0)) (.tmp 55) 33 (by rfl) wr.heap.size 5 i0 (.int .u8 0) 1 1 Try.underlying33 hi hz0 hz1 hz2 rfl (by decide) (.slice none 0 0) 0 [] (by rfl) (World.ownsRow_nil _ _ _ _) No 5 _ t (bv (l.take t)) (by rfl) (HT.out.keep (S := No) (Mod.refl No wr).drew (fun _ _ _ f => f.elim)) (by rw [bv_length, HLT.out, Nat.mul_one]) (bv_one _) (by unfold maxLen; omega) (by omega) (Nat.le_refl _) ?_
            intro v4 w4 hown4 hgr4 _
            have hm4 : Mod No wr w4 := (Mod.refl No wr).drew.trans (Mod.of_grown hgr4 (by rintro k ⟨⟩))
            have hS4 : w4.cell? ⟨q, 0, none⟩ = some (.slice (some ⟨lb, 0, none⟩) d.n lc) ∧ w4.cell? ⟨q, 1, none⟩ = some (.slice (some ⟨sb, 0, none⟩) d.n sc) ∧ w4.cell? ⟨q, 2, none⟩ = some (.slice (some ⟨fb, 0, none⟩) d.n fc) ∧ w4.cell? ⟨lb, j, none⟩ = some (.slice (some ⟨lb1, lo1, none⟩) d.sz lc1) ∧ w4.cell? ⟨sb, j, none⟩ = some (.slice (some ⟨sb1, so1, none⟩) d.sz sc1) := ⟨hm4.cell q0 (fun f => f), hm4.cell q1 (fun f => f), hm4.cell q2 (fun f => f), hm4.cell cl (fun f => f), hm4.cell cs (fun f => f)⟩
            have HO4 := Lib.hid hown4
            have M4 := Lib.hid hm4
            have HG4 := Lib.hid hgr4
            clear hown4 hm4 hgr4
            show K _ _
            refine hK.out _ _ (fun _ => hS4) ?_
            clear hK K
            refine wpAnyT_one 24 rfl (by kernel_rfl) rfl ?_
            intro K hK
            refine wp_app_sl _ (.tmp 56) (.tmp 65) 33 (by rfl) wr.heap.size 5 i0 (.int .u8 0) 1 1 Try.underlying33 hi hz0 hz1 hz2 rfl (by decide) v4 (0 + t) _ (by rfl) HO4.out No 5 _ (d.sz - t) (bv (s.drop t)) (by rfl) (HD.out.keep M4.out (fun _ _ _ f => f.elim)) (by rw [bv_length, HLD.out, Nat.mul_one]) (bv_one _) (by unfold maxLen; omega) (by omega) (by have := M4.out.size; omega) ?_
            intro v5 w5 hown5 hgr5 _
            obtain ⟨g5, cap5, rfl, hg5⟩ := own_shape hown5 (by omega)
            have hm5 : Mod No wr w5 := M4.out.then (Mod.of_grown (S := fun k => v4.ownBlock = some k) hgr5 (fun k e _ => e)) (fun k hk e => by have := (HO4.out.lt _ e).1; omega)
            have hS5 : w5.cell? ⟨q, 0, none⟩ = some (.slice (some ⟨lb, 0, none⟩) d.n lc) ∧ w5.cell? ⟨q, 1, none⟩ = some (.slice (some ⟨sb, 0, none⟩) d.n sc) ∧ w5.cell? ⟨q, 2, none⟩ = some (.slice (some ⟨fb, 0, none⟩) d.n fc) ∧ w5.cell? ⟨lb, j, none⟩ = some (.slice (some ⟨lb1, lo1, none⟩) d.sz lc1) ∧ w5.cell? ⟨sb, j, none⟩ = some (.slice (some ⟨sb1, so1, none⟩) d.sz sc1) := ⟨hm5.cell q0 (fun f => f), hm5.cell q1 (fun f => f), hm5.cell q2 (fun f => f), hm5.cell cl (fun f => f), hm5.cell cs (fun f => f)⟩
            have fl5 := frozen_of j (hm5.keep CL.out.heap (fun f => f))
            have HO5 := Lib.hid hown5
            have M5 := Lib.hid hm5
            clear hown5 hm5 hgr5
            show K _ _
            refine hK.out _ _ (fun _ => hS5) ?_
            clear hK K
            refine wpAnyT_one 25 rfl (by kernel_rfl) rfl ?_
            intro K hK
            go_simp
            show K _ _
            refine hK.out _ _ (fun _ => hS5) ?_
            clear hK K
            refine wpAnyT_one 26 rfl (by kernel_rfl) rfl ?_
            intro K hK
            go_simp
            show K _ _
            refine hK.out _ _ (fun h => absurd rfl h) ?_
            clear hK K
            refine wpAnyT_done (by kernel_rfl) ?_ _
            go_wp2_with fail
            go_meet
            have h5 : Sl w5 No 5 (.slice (some ⟨g5, 0, none⟩) d.sz cap5) d.sz (bv (l.take t ++ s.drop t)) := by
              have h1 := Sl.of_own (X := No) HO5.out (fun _ _ f => f)
              have e3 : 0 + t + (d.sz - t) = d.sz := by omega
              rw [e3] at h1
              simpa [bv] using h1
            exact ⟨by rw [E1.out]; go_num, HI.out.md.put_mid hlt M5.out (by rw [ES.out, G.out]; exact h5), (HI.out.mod.trans (M5.out.weaken fun _ _ f => f.elim)).setCell (fun _ => .inr (.inl rfl)) _⟩
          · have htb : ((r : Int) == torn) = false := by simpa using hrt
            cases hbit : keep.testBit (r % 64) with
            | true =>
              rw [hbit] at hb2
              have G := Lib.hid (show crashG keep torn t r (d.sure j) l = l from by unfold crashG; rw [if_neg hrt, if_pos hbit])
              go_wp2_with fail
              go_meet
              exact ⟨by rw [E1.out]; go_num, HI.out.md.mid (by rw [ES.out, G.out, EL.out]), HI.out.mod⟩
            | false =>
              rw [hbit] at hb2
              have G := Lib.hid (show crashG keep torn t r (d.sure j) l = d.sure j from by unfold crashG; rw [if_neg hrt, if_neg (by rw [hbit]; decide)])
              go_upto_region 9 with fail
              have hS0 : wr.drew.cell? ⟨q, 0, none⟩ = some (.slice (some ⟨lb, 0, none⟩) d.n lc) ∧ wr.drew.cell? ⟨q, 1, none⟩ = some (.slice (some ⟨sb, 0, none⟩) d.n sc) ∧ wr.drew.cell? ⟨q, 2, none⟩ = some (.slice (some ⟨fb, 0, none⟩) d.n fc) ∧ wr.drew.cell? ⟨lb, j, none⟩ = some (.slice (some ⟨lb1, lo1, none⟩) d.sz lc1) ∧ wr.drew.cell? ⟨sb, j, none⟩ = some (.slice (some ⟨sb1, so1, none⟩) d.sz sc1) := ⟨q0, q1, q2, cl, cs⟩
              refine wp_region_T (fun w' => w'.cell? ⟨q, 0, none⟩ = some (.slice (some ⟨lb, 0, none⟩) d.n lc) ∧ w'.cell? ⟨q, 1, none⟩ = some (.slice (some ⟨sb, 0, none⟩) d.n sc) ∧ w'.cell? ⟨q, 2, none⟩ = some (.slice (some ⟨fb, 0, none⟩) d.n fc) ∧ w'.cell? ⟨lb, j, none⟩ = some (.slice (some ⟨lb1, lo1, none⟩) d.sz lc1) ∧ w'.cell? ⟨sb, j, none⟩ = some (.slice (some ⟨sb1, so1, none⟩) d.sz sc1)) 13 (by kernel_rfl) ?_
              refine wpAnyT_take 0 (some 75) ?_ rfl rfl (by kernel_rfl) (fun _ _ _ h => h) hS0 (Or.inl ⟨by rfl, ?_⟩) ?_
              rotate_left
              · (intro w' hSw; (try dsimp only at hSw); go_simp; try with_reducible rfl)
              simp only [Act.put, List.setIfInBounds_toArray, List.set_cons_zero, List.set_cons_succ]
              refine wpAnyT_take 1 (some 76) ?_ rfl rfl (by kernel_rfl) (fun _ _ _ h => h) hS0 (Or.inl ⟨by rfl, ?_⟩) ?_
              rotate_left
              · (intro w' hSw; (try dsimp only at hSw); go_simp; try with_reducible rfl)
              simp only [Act.put, List.setIfInBounds_toArray, List.set_cons_zero, List.set_cons_succ]
              refine wpAnyT_take 2 (some 77) ?_ rfl rfl (by kernel_rfl) (fun _ _ _ h => h) hS0 (Or.inl ⟨by rfl, ?_⟩) ?_
              rotate_left
              · (intro w' hSw; (try dsimp only at hSw); go_simp; try with_reducible rfl)
              simp only [Act.put, List.setIfInBounds_toArray, List.set_cons_zero, List.set_cons_succ]
              refine wpAnyT_take 3 (some 78) ?_ rfl rfl (by kernel_rfl) (fun _ _ _ h => h) hS0 (Or.inl ⟨by rfl, ?_⟩) ?_
              rotate_left
              · (intro w' hSw; (try dsimp only at hSw); go_simp; try with_reducible rfl)
              simp only [Act.put, List.setIfInBounds_toArray, List.set_cons_zero, List.set_cons_succ]
              refine wpAnyT_take 4 (some 79) ?_ rfl rfl (by kernel_rfl) (fun _ _ _ h => h) hS0 (Or.inl ⟨by rfl, ?_⟩) ?_
              rotate_left
              · (intro w' hSw; (try dsimp only at hSw); go_simp; try with_reducible rfl)
              simp only [Act.put, List.setIfInBounds_toArray, List.set_cons_zero, List.set_cons_succ]
              refine wpAnyT_take 5 (some 80) ?_ rfl rfl (by kernel_rfl) (fun _ _ _ h => h) hS0 (Or.inl ⟨by rfl, ?_⟩) ?_
              rotate_left
              · (intro w' hSw; (try dsimp only at hSw); go_simp; try with_reducible rfl)
              simp only [Act.put, List.setIfInBounds_toArray, List.set_cons_zero, List.set_cons_succ]
              refine wpAnyT_take 6 (some 81) ?_ rfl rfl (by kernel_rfl) (fun _ _ _ h => h) hS0 (Or.inl ⟨by rfl, ?_⟩) ?_
              rotate_left
              · (intro w' hSw; (try dsimp only at hSw); go_simp; try with_reducible rfl)
              simp only [Act.put, List.setIfInBounds_toArray, List.set_cons_zero, List.set_cons_succ]
              refine wpAnyT_take 7 (some 82) ?_ rfl rfl (by kernel_rfl) (fun _ _ _ h => h) hS0 (Or.inl ⟨by rfl, ?_⟩) ?_
              rotate_left
              · (intro w' hSw; (try dsimp only at hSw); go_simp; try with_reducible rfl)
              simp only [Act.put, List.setIfInBounds_toArray, List.set_cons_zero, List.set_cons_succ]
              refine wpAnyT_take 8 (some 83) ?_ rfl rfl (by kernel_rfl) (fun _ _ _ h => h) hS0 (Or.inl ⟨by rfl, ?_⟩) ?_
              rotate_left
              · (intro w' hSw; (try dsimp only at hSw); go_simp; try with_reducible rfl)
              simp only [Act.put, List.setIfInBounds_toArray, List.set_cons_zero, List.set_cons_succ]
              refine wpAnyT_take 9 (some 84) ?_ rfl rfl (by kernel_rfl) (fun _ _ _ h => h) hS0 (Or.inl ⟨by rfl, ?_⟩) ?_
              rotate_left
              · (intro w' hSw; (try dsimp only at hSw); go_simp; try with_reducible rfl)
              simp only [Act.put, List.setIfInBounds_toArray, List.set_cons_zero, List.set_cons_succ]
              refine wpAnyT_take 10 (some 85) ?_ rfl rfl (by kernel_rfl) (fun _ _ _ h => h) hS0 (Or.inl ⟨by rfl, ?_⟩) ?_
              rotate_left
              · (intro w' hSw; (try dsimp only at hSw); go_simp; try with_reducible rfl)
              simp only [Act.put, List.setIfInBounds_toArray, List.set_cons_zero, List.set_cons_succ]
              refine wpAnyT_take 11 (some 86) ?_ rfl rfl (by kernel_rfl) (fun _ _ _ h => h) hS0 (Or.inl ⟨by rfl, ?_⟩) ?_
              rotate_left
              · (intro w' hSw; (try dsimp only at hSw); go_simp; try with_reducible rfl)
              simp only [Act.put, List.setIfInBounds_toArray, List.set_cons_zero, List.set_cons_succ]
              refine wpAnyT_take 12 (some 87) ?_ rfl rfl (by kernel_rfl) (fun _ _ _ h => h) hS0 (Or.inl ⟨by rfl, ?_⟩) ?_
              rotate_left
              · (intro w' hSw; (try dsimp only at hSw); go_simp; try with_reducible rfl)
              simp only [Act.put, List.setIfInBounds_toArray, List.set_cons_zero, List.set_cons_succ]
              refine wpAnyT_one 13 rfl (by kernel_rfl) rfl ?_
              intro K hK
              go_simp
              show K _ _
              refine hK.out _ _ (fun h => absurd rfl h) ?_
              clear hK K
              refine wpAnyT_done (by kernel_rfl) ?_ _
              go_wp2_with fail
              go_meet
              exact ⟨by rw [E1.out]; go_num, HI.out.md.put_mid hlt (Mod.refl No wr).drew (by rw [ES.out, G.out]; exact SS.out.keep (S := No) (Mod.refl No wr).drew (fun _ _ _ f => f.elim)), (HI.out.mod.drew).setCell (fun _ => .inr (.inl rfl)) _⟩
      case rest =>
        obtain ⟨rfl, hmid⟩ := hcut
        have HM := Lib.hid hmid
        clear q0 q1 q2 q3 q4 fz3 fz4 HO HCP cl cs cf ff fl CL SL SS
        obtain ⟨lc, sc, fc, nn, (ho : wc.heap[q]? = some (.cells #[.slice (some ⟨lb, 0, none⟩) d.n lc, .slice (some ⟨sb, 0, none⟩) d.n sc, .slice (some ⟨fb, 0, none⟩) d.n fc, .bool d.dead, .bool (decide (d.cut ≠ -1)), .int .i64 nn] 48 (0, 0))), hnn, hcaps⟩ := hmid.md.obj
        obtain ⟨cul, hcl⟩ := hmid.md.l
        obtain ⟨cus, hcs⟩ := hmid.md.s
        obtain ⟨cuf, hcf⟩ := hmid.md.f
        obtain ⟨vl, hvl, (hsl : Sl wc No 5 vl d.sz (bv (if j = j then d.soon (crashG keep torn t) j else (d.upTo (crashG keep torn t) j).last j)))⟩ := hcl.cell j hlt
        rw [if_pos rfl] at hsl
        obtain ⟨vs, hvs, hss⟩ := hcs.cell j hlt
        obtain ⟨vb, vo, vc, rfl, hlc1, hlc2, _⟩ := hsl.shape (show 0 < d.sz by omega)
        obtain ⟨e1, e2, e3, e4, e5, e6⟩ := HI.out.md.diff
        have q0 := cell_of (i := 0) ho rfl
        have q1 := cell_of (i := 1) ho rfl
        have q2 := cell_of (i := 2) ho rfl
        have cl := cell_ofA hcl.heap hvl
        have cs := cell_ofA hcs.heap hvs
        have cf := cell_ofA hcf.heap (hcf.cell j hlt)
        have ff := frozen_of j hcf.heap
        have fs := frozen_of j hcs.heap
        have HSL := Lib.hid hsl
        generalize fresh (d.upTo (crashG keep torn t) j) j = p at *
        have hm18 : Mod (· = sb) wc (wc.drew.setCell ⟨sb, j, none⟩ (.slice (some ⟨vb, vo, none⟩) d.sz vc)) := ((Mod.refl (· = sb) wc).drew).setCell (fun _ => rfl) _
        have HS18 := Lib.hid (show (wc.drew.setCell ⟨sb, j, none⟩ (.slice (some ⟨vb, vo, none⟩) d.sz vc)).cell? ⟨q, 0, none⟩ = some (.slice (some ⟨lb, 0, none⟩) d.n lc) ∧ (wc.drew.setCell ⟨sb, j, none⟩ (.slice (some ⟨vb, vo, none⟩) d.sz vc)).cell? ⟨q, 1, none⟩ = some (.slice (some ⟨sb, 0, none⟩) d.n sc) ∧ (wc.drew.setCell ⟨sb, j, none⟩ (.slice (some ⟨vb, vo, none⟩) d.sz vc)).cell? ⟨q, 2, none⟩ = some (.slice (some ⟨fb, 0, none⟩) d.n fc) ∧ (wc.drew.setCell ⟨sb, j, none⟩ (.slice (some ⟨vb, vo, none⟩) d.sz vc)).cell? ⟨lb, j, none⟩ = some (.slice (some ⟨vb, vo, none⟩) d.sz vc) ∧ (wc.drew.setCell ⟨sb, j, none⟩ (.slice (some ⟨vb, vo, none⟩) d.sz vc)).cell? ⟨fb, j, none⟩ = some (.bool p) from ⟨hm18.cell q0 e2, hm18.cell q1 e2, hm18.cell q2 e2, hm18.cell cl e4, hm18.cell cf (Ne.symm e6)⟩)
        have hm19 : Mod (· = sb) wc (wc.setCell ⟨sb, j, none⟩ (.slice (some ⟨vb, vo, none⟩) d.sz vc)) := (Mod.refl (· = sb) wc).setCell (fun _ => rfl) _
        have ff18 := frozen_of j (hm19.keep hcf.heap (Ne.symm e6))
        have cf18 := hm19.cell cf (Ne.symm e6)
        clear hmid ho hnn hcaps hcl hcs hcf hvl hvs hsl hss e1 e2 e3 e4 e5 e6 hm18 hm19
        go_upto_region 11 with fail
        have hS0 : wc.drew.cell? ⟨q, 0, none⟩ = some (.slice (some ⟨lb, 0, none⟩) d.n lc) ∧ wc.drew.cell? ⟨q, 1, none⟩ = some (.slice (some ⟨sb, 0, none⟩) d.n sc) ∧ wc.drew.cell? ⟨q, 2, none⟩ = some (.slice (some ⟨fb, 0, none⟩) d.n fc) ∧ wc.drew.cell? ⟨lb, j, none⟩ = some (.slice (some ⟨vb, vo, none⟩) d.sz vc) ∧ wc.drew.cell? ⟨fb, j, none⟩ = some (.bool p) := ⟨q0, q1, q2, cl, cf⟩
        refine wp_region_T (fun w' => w'.cell? ⟨q, 0, none⟩ = some (.slice (some ⟨lb, 0, none⟩) d.n lc) ∧ w'.cell? ⟨q, 1, none⟩ = some (.slice (some ⟨sb, 0, none⟩) d.n sc) ∧ w'.cell? ⟨q, 2, none⟩ = some (.slice (some ⟨fb, 0, none⟩) d.n fc) ∧ w'.cell? ⟨lb, j, none⟩ = some (.slice (some ⟨vb, vo, none⟩) d.sz vc) ∧ w'.cell? ⟨fb, j, none⟩ = some (.bool p)) 20 (by kernel_rfl) ?_
        refine wpAnyT_take 0 (some 90) ?_ rfl rfl (by kernel_rfl) (fun _ _ _ h => h) hS0 (Or.inl ⟨by rfl, ?_⟩) ?_
        rotate_left
        · (intro w' hSw; (try dsimp only at hSw); go_simp; try with_reducible rfl)
        simp only [Act.put, List.setIfInBounds_toArray, List.set_cons_zero, List.set_cons_succ]
        refine wpAnyT_take 1 (some 91) ?_ rfl rfl (by kernel_rfl) (fun _ _ _ h => h) hS0 (Or.inl ⟨by rfl, ?_⟩) ?_
        rotate_left
        · (intro w' hSw; (try dsimp only at hSw); go_simp; try with_reducible rfl)
        simp only [Act.put, List.setIfInBounds_toArray, List.set_cons_zero, List.set_cons_succ]
        refine wpAnyT_take 2 (some 92) ?_ rfl rfl (by kernel_rfl) (fun _ _ _ h => h) hS0 (Or.inl ⟨by rfl, ?_⟩) ?_
        rotate_left
        · (intro w' hSw; (try dsimp only at hSw); go_simp; try with_reducible rfl)
        simp only [Act.put, List.setIfInBounds_toArray, List.set_cons_zero, List.set_cons_succ]
        refine wpAnyT_take 3 (some 93) ?_ rfl rfl (by kernel_rfl) (fun _ _ _ h => h) hS0 (Or.inl ⟨by rfl, ?_⟩) ?_
        rotate_left
        · (intro w' hSw; (try dsimp only at hSw); go_simp; try with_reducible rfl)
        simp only [Act.put, List.setIfInBounds_toArray, List.set_cons_zero, List.set_cons_succ]
        refine wpAnyT_take 4 (some 94) ?_ rfl rfl (by kernel_rfl) (fun _ _ _ h => h) hS0 (Or.inl ⟨by rfl, ?_⟩) ?_
        rotate_left
        · (intro w' hSw; (try dsimp only at hSw); go_simp; try with_reducible rfl)
        simp only [Act.put, List.setIfInBounds_toArray, List.set_cons_zero, List.set_cons_succ]
        refine wpAnyT_take 5 (some 95) ?_ rfl rfl (by kernel_rfl) (fun _ _ _ h => h) hS0 (Or.inl ⟨by rfl, ?_⟩) ?_
        rotate_left
        · (intro w' hSw; (try dsimp only at hSw); go_simp; try with_reducible rfl)
        simp only [Act.put, List.setIfInBounds_toArray, List.set_cons_zero, List.set_cons_succ]
        refine wpAnyT_take 6 (some 96) ?_ rfl rfl (by kernel_rfl) (fun _ _ _ h => h) hS0 (Or.inl ⟨by rfl, ?_⟩) ?_
        rotate_left
        · (intro w' hSw; (try dsimp only at hSw); go_simp; try with_reducible rfl)
        simp only [Act.put, List.setIfInBounds_toArray, List.set_cons_zero, List.set_cons_succ]
        refine wpAnyT_take 7 (some 97) ?_ rfl rfl (by kernel_rfl) (fun _ _ _ h => h) hS0 (Or.inl ⟨by rfl, ?_⟩) ?_
        rotate_left
        · (intro w' hSw; (try dsimp only at hSw); go_simp; try with_reducible rfl)
        simp only [Act.put, List.setIfInBounds_toArray, List.set_cons_zero, List.set_cons_succ]
        refine wpAnyT_take 8 (some 98) ?_ rfl rfl (by kernel_rfl) (fun _ _ _ h => h) hS0 (Or.inl ⟨by rfl, ?_⟩) ?_
        rotate_left
        · (intro w' hSw; (try dsimp only at hSw); go_simp; try with_reducible rfl)
        simp only [Act.put, List.setIfInBounds_toArray, List.set_cons_zero, List.set_cons_succ]
        refine wpAnyT_take 9 (some 99) ?_ rfl rfl (by kernel_rfl) (fun _ _ _ h => h) hS0 (Or.inl ⟨by rfl, ?_⟩) ?_
        rotate_left
        · (intro w' hSw; (try dsimp only at hSw); go_simp; try with_reducible rfl)
        simp only [Act.put, List.setIfInBounds_toArray, List.set_cons_zero, List.set_cons_succ]
        refine wpAnyT_take 10 (some 100) ?_ rfl rfl (by kernel_rfl) (fun _ _ _ h => h) hS0 (Or.inl ⟨by rfl, ?_⟩) ?_
        rotate_left
        · (intro w' hSw; (try dsimp only at hSw); go_simp; try with_reducible rfl)
        simp only [Act.put, List.setIfInBounds_toArray, List.set_cons_zero, List.set_cons_succ]
        refine wpAnyT_take 11 (some 101) ?_ rfl rfl (by kernel_rfl) (fun _ _ _ h => h) hS0 (Or.inl ⟨by rfl, ?_⟩) ?_
        rotate_left
        · (intro w' hSw; (try dsimp only at hSw); go_simp; try with_reducible rfl)
        simp only [Act.put, List.setIfInBounds_toArray, List.set_cons_zero, List.set_cons_succ]
        refine wpAnyT_take 12 (some 102) ?_ rfl rfl (by kernel_rfl) (fun _ _ _ h => h) hS0 (Or.inl ⟨by rfl, ?_⟩) ?_
        rotate_left
        · (intro w' hSw; (try dsimp only at hSw); go_simp; try with_reducible rfl)
        simp only [Act.put, List.setIfInBounds_toArray, List.set_cons_zero, List.set_cons_succ]
        refine wpAnyT_take 13 (some 103) ?_ rfl rfl (by kernel_rfl) (fun _ _ _ h => h) hS0 (Or.inl ⟨by rfl, ?_⟩) ?_
        rotate_left
        · (intro w' hSw; (try dsimp only at hSw); go_simp; try with_reducible rfl)
        simp only [Act.put, List.setIfInBounds_toArray, List.set_cons_zero, List.set_cons_succ]
        refine wpAnyT_take 14 (some 104) ?_ rfl rfl (by kernel_rfl) (fun _ _ _ h => h) hS0 (Or.inl ⟨by rfl, ?_⟩) ?_
        rotate_left
        · (intro w' hSw; (try dsimp only at hSw); go_simp; try with_reducible rfl)
        simp only [Act.put, List.setIfInBounds_toArray, List.set_cons_zero, List.set_cons_succ]
        refine wpAnyT_take 15 (some 105) ?_ rfl rfl (by kernel_rfl) (fun _ _ _ h => h) hS0 (Or.inl ⟨by rfl, ?_⟩) ?_
        rotate_left
        · (intro w' hSw; (try dsimp only at hSw); go_simp; try with_reducible rfl)
        simp only [Act.put, List.setIfInBounds_toArray, List.set_cons_zero, List.set_cons_succ]
        refine wpAnyT_take 16 (some 106) ?_ rfl rfl (by kernel_rfl) (fun _ _ _ h => h) hS0 (Or.inl ⟨by rfl, ?_⟩) ?_
        rotate_left
        · (intro w' hSw; (try dsimp only at hSw); go_simp; try with_reducible rfl)
        simp only [Act.put, List.setIfInBounds_toArray, List.set_cons_zero, List.set_cons_succ]
        refine wpAnyT_take 17 (some 107) ?_ rfl rfl (by kernel_rfl) (fun _ _ _ h => h) hS0 (Or.inl ⟨by rfl, ?_⟩) ?_
        rotate_left
        · (intro w' hSw; (try dsimp only at hSw); go_simp; try with_reducible rfl)
        simp only [Act.put, List.setIfInBounds_toArray, List.set_cons_zero, List.set_cons_succ]
        refine wpAnyT_one 18 rfl (by kernel_rfl) rfl ?_
        intro K hK
        go_simp
        show K _ _
        refine hK.out _ _ (fun _ => HS18.out) ?_
        clear hK K
        refine wpAnyT_one 19 rfl (by kernel_rfl) rfl ?_
        intro K hK
        go_simp
        show K _ _
        refine hK.out _ _ (fun _ => HS18.out) ?_
        clear hK K
        refine wpAnyT_one 20 rfl (by kernel_rfl) rfl ?_
        intro K hK
        go_simp
        show K _ _
        refine hK.out _ _ (fun h => absurd rfl h) ?_
        clear hK K
        refine wpAnyT_done (by kernel_rfl) ?_ _
        go_wp2_with fail
        exact ⟨⟨j + 1, by omega, by go_num, rfl, MidAt.done HM.out.md HI.out.md hlt (Mod.refl No wc).drew (HSL.out.keep (S := No) (Mod.refl No wc).drew (fun _ _ _ f => f.elim)) (HLN.out j hlt), ((HM.out.mod.drew).setCell (fun _ => .inr (.inr (.inl rfl))) _).setCell (fun _ => .inr (.inr (.inr rfl))) _⟩, by go_light; simp only [intOf]; omega⟩
    · have hjn : j = d.n := by omega
      subst hjn
      have hs3 := heap_setCell HO.out (i := 3) (.bool false)
      have hm3 : Mod (· = q) wr (wr.setCell ⟨q, 3, none⟩ (.bool false)) := (Mod.refl (· = q) wr).setCell (fun _ => rfl) _
      have c34 := cell_of (i := 4) hs3 rfl
      have f34 := frozen_of 4 hs3
      have hs4 := heap_setCell hs3 (i := 4) (.bool false)
      have hm4 : Mod (· = q) wr ((wr.setCell ⟨q, 3, none⟩ (.bool false)).setCell ⟨q, 4, none⟩ (.bool false)) := hm3.setCell (fun _ => rfl) _
      have HS4 := Lib.hid hs4
      have HM4 := Lib.hid hm4
      clear hs3 hs4 hm3 hm4
      go_wp2_with fail
      go_end0
      refine fin hR ⟨rfl, ?_, HI.out.mod.trans (HM4.out.weaken fun _ _ e => .inl e)⟩
      refine (HI.out.md.turned (d' := { d.upTo (crashG keep torn t) d.n with cut := -1, dead := false }) HM4.out rfl rfl rfl rfl HS4.out (fun h => absurd rfl h) HCP.out (show (-1 : Int) ≤ -1 by decide) (show (-1 : Int) ≤ 9223372036854775807 by decide)).congr rfl rfl rfl rfl (fun i hi => ?_) (fun i hi => ?_)
      · show d.soon _ i = if i < d.n then d.soon _ i else d.sure i
        exact (if_pos hi).symm
      · show none = if i < d.n then none else d.dirty i
        exact (if_pos hi).symm

end Go.Proofs.Ytjmnpfbinjlegaa
