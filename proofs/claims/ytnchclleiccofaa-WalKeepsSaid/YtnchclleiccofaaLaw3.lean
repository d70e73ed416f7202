/-
  Layer 3's statements: what is known. No statement is proved here; no condition.
-/
import Derived.Test.YtnchclleiccofaaCrash
import Derived.Test.YtnchclleiccofaaCopy
import Derived.Test.YtnchclleiccofaaDiskD
namespace Go.Proofs.Ytnchclleiccofaa
open Go.RowKit Go.Maps

def knownB : List UInt8 := (List.replicate 64 0).set 0 7 |>.set 9 7
def knownD : Nat → Dk
  | 0 => Dk.new 4 64
  | k + 1 => (knownD k).write ((k + 1 : Nat) : Int) knownB

theorem knownD_e (k : Nat) (h : k < 3) : (knownD k).writeE ((k + 1 : Nat) : Int) 64 = 0 := by
  match k, h with
  | 0, _ => decide
  | 1, _ => decide
  | 2, _ => decide

def knownX : Dk := (knownD 3).crash 6 2 5
theorem knownX1 : knownX.last 1 = List.replicate 64 0 := by decide
theorem knownX2 : knownX.last 2 = knownB := by decide
theorem knownX3 : knownX.last 3 = (List.replicate 64 0).set 0 7 := by decide
theorem known_sz (k : Nat) : (knownD k).n = 4 ∧ (knownD k).sz = 64 := by
  induction k with
  | zero => decide
  | succ k ih =>
    have e : ∀ (d : Dk) i l, (d.write i l).n = d.n ∧ (d.write i l).sz = d.sz := fun d i l => by
      unfold Dk.write; split
      · exact ⟨rfl, rfl⟩
      · split <;> exact ⟨rfl, rfl⟩
    exact ⟨(e _ _ _).1.trans ih.1, (e _ _ _).2.trans ih.2⟩

theorem DkAt.not_bytes {w : World} {X : Nat → Prop} {b sb mb : Nat} {d : Dk} (h : DkAt w X b sb mb d) {q : Nat} (hq : Own3 b sb mb q) (cur : Array Value) (fz : Nat × Nat) : w.heap[q]? ≠ some (.cells cur 5 fz) := fun e => by
  obtain ⟨sc, ho, _⟩ := h.obj
  obtain ⟨cur', hc⟩ := h.sure
  obtain ⟨D, hD⟩ := h.dirty
  obtain ⟨es, clock, hm⟩ := hD.mp.heap
  have hs := hc.heap
  rcases hq with rfl | rfl | rfl
  · rw [ho] at e; cases e
  · rw [hs] at e; cases e
  · rw [hm] at e; cases e

/-- Read, where it is let: a new slice that reads so. -/
theorem read_ok {X : Nat → Prop} {b sb mb : Nat} {d : Dk} {i : Int} {w : World} {n : Nat} {L : List UInt8} (h : DkAt w X b sb mb d) (hE : atE d.dead i d.n = 0) (hn : d.sz = n) (hL : d.last i.toNat = L) :
    Calls Try.prog 20 #[.pointer (some ⟨b, 0, none⟩), .int .i64 i] w fun e w' => ∃ g c, e = .returned (.tuple #[.slice (some ⟨g, 0, none⟩) n c, .int .i64 0]) ∧ w'.ownsRow w.heap.size 5 1 (.slice (some ⟨g, 0, none⟩) n c) n (bv L) ∧
      (∀ j u, (bv L)[j]? = some u → w'.cell? ⟨g, j, none⟩ = some u) ∧ Mod No w w' ∧ w.heap.size ≤ g := by
  refine (read_any X b sb mb d i w h).mono ?_
  rintro e w' ⟨v, rfl, hm, _, ho⟩
  have h1 := ho hE
  rw [hn, hL] at h1
  obtain ⟨g, c, rfl, hg⟩ := own_shape h1 (by have := h.s1; omega)
  rw [hE]
  refine ⟨g, c, rfl, h1, fun j u hu => ?_, hm, hg⟩
  have h2 := h1.cells (g := g) rfl j u hu
  simpa [Addr.add_lit] using h2

theorem cut_ok {X : Nat → Prop} {b sb mb : Nat} {d : Dk} {n : Int} {w : World} (h : DkAt w X b sb mb d) (hn : n ≤ 9223372036854775807) :
    Calls Try.prog 23 #[.pointer (some ⟨b, 0, none⟩), .int .i64 n] w fun e w' => e = .returned (.tuple #[]) ∧ DkAt w' X b sb mb { d with cut := max n 0 } ∧ Mod (· = b) w w' := by
  obtain ⟨sc, ho, _⟩ := h.obj
  refine (cut_any b _ _ d.cut n d.dead w ho).mono ?_
  rintro e w' ⟨rfl, hb, hm, _⟩
  exact ⟨rfl, h.obj_eq ho hb hm (by omega) (by omega), hm⟩

theorem dead_ok {X : Nat → Prop} {b sb mb : Nat} {d : Dk} {w : World} (h : DkAt w X b sb mb d) :
    Calls Try.prog 26 #[.pointer (some ⟨b, 0, none⟩)] w fun e w' => e = .returned (.bool d.dead) ∧ w = w' := by
  obtain ⟨sc, ho, _⟩ := h.obj
  exact dead_any b _ _ _ d.dead w ho

theorem sectors_ok {X : Nat → Prop} {b sb mb : Nat} {d : Dk} {w : World} (h : DkAt w X b sb mb d) :
    Calls Try.prog 14 #[.pointer (some ⟨b, 0, none⟩)] w fun e w' => e = .returned (.int .i64 (d.n : Int)) ∧ w = w' := by
  obtain ⟨sc, ho, _⟩ := h.obj
  exact sectors_any ⟨b, 0, none⟩ _ _ _ w (cell_of (i := 0) ho rfl)

theorem size_ok {X : Nat → Prop} {b sb mb : Nat} {d : Dk} {w : World} (h : DkAt w X b sb mb d) :
    Calls Try.prog 15 #[.pointer (some ⟨b, 0, none⟩)] w fun e w' => e = .returned (.int .i64 (d.sz : Int)) ∧ w = w' := by
  obtain ⟨sc, ho, _⟩ := h.obj
  obtain ⟨cur, hc⟩ := h.sure
  obtain ⟨v0, hv0, hs0⟩ := hc.cell 0 h.n1
  obtain ⟨a0, o0, k0, rfl, _⟩ := hs0.shape (by have := h.s1; omega)
  exact size_any ⟨b, 0, none⟩ sb _ _ _ _ _ w h.n1 (cell_of (i := 0) ho rfl) (cell_ofA hc.heap hv0)

theorem own3_old {B b sb mb : Nat} (h : B ≤ b ∧ B ≤ mb ∧ B ≤ sb) : ∀ i, i < B → Own3 b sb mb i → No i := fun i hi e => by
  rcases e with e | e | e <;> omega

theorem DkAt.lt {w : World} {X : Nat → Prop} {b sb mb : Nat} {d : Dk} (h : DkAt w X b sb mb d) {q : Nat} (hq : Own3 b sb mb q) : q < w.heap.size := by
  obtain ⟨sc, ho, _⟩ := h.obj
  obtain ⟨cur', hc⟩ := h.sure
  obtain ⟨D, hD⟩ := h.dirty
  obtain ⟨es, clock, hm⟩ := hD.mp.heap
  rcases hq with rfl | rfl | rfl
  · exact lt_of_heap ho
  · exact lt_of_heap hc.heap
  · exact lt_of_heap hm

structure KnownInv (w0 wr : World) (r b sb mb k : Nat) : Prop where
  d : DkAt wr No b sb mb (knownD k)
  s : Sl wr No 5 (.slice (some ⟨r, 0, none⟩) 64 64) 64 (bv knownB)
  m : Mod No w0 wr

set_option maxRecDepth 100000 in
set_option maxHeartbeats 4000000 in
theorem known3_any (w : World) :
    Calls Try.prog 12 #[] w fun e w' => e = .returned (.bool true) ∧ Mod No w w' := by
  have hmk : ∀ w, (Instr.makeSlice 33 (.int .i64 64) (.int .i64 64)).run Try.prog w = .ok (.slice (some ⟨w.heap.size, 0, none⟩) 64 64) (w.alloc (.cells (madeCells #[.int .u8 0] 64) 5)) := fun w => run_make_row' (P := Try.prog) 33 5 (.int .u8 0) 1 Try.underlying33 info_u8 rfl .i64 .i64 64 (by omega) (by omega) w
  have hq0 : (madeCells #[.int .u8 0] 64)[0]? = some (.int .u8 0) := by rw [madeBytes]; rfl
  have hq9 : (madeCells #[.int .u8 0] 64)[9]? = some (.int .u8 0) := by rw [madeBytes]; rfl
  have hqz : (madeCells #[.int .u8 0] 64).size = 64 := by rw [madeBytes]; rfl
  refine calls_hide fun R hR => ?_
  go_enter Try.func12, Try.ntmps12
  go_wp2_with fail
  refine (disk_new No 4 64 w (fun _ f => f.elim)).mono ?_
  rintro e w1 ⟨b, sb, mb, rfl, hb0, hsb0, hmb0, hd1, hm1⟩
  obtain ⟨sc, ho, _, _⟩ := hd1.obj
  obtain ⟨cur, hc⟩ := hd1.sure
  obtain ⟨v0, hv0, hs0⟩ := hc.cell 0 (by decide)
  obtain ⟨a0, o0, k0, rfl, _⟩ := hs0.shape (by decide)
  have hS : Calls Try.prog 14 #[.pointer (some ⟨b, 0, none⟩)] w1 fun e w' => e = .returned (.int .i64 4) ∧ w1 = w' := sectors_any ⟨b, 0, none⟩ _ _ _ w1 (cell_of (i := 0) ho rfl)
  have HS := Lib.hid hS
  have hZ : Calls Try.prog 15 #[.pointer (some ⟨b, 0, none⟩)] w1 fun e w' => e = .returned (.int .i64 64) ∧ w1 = w' := size_any ⟨b, 0, none⟩ sb _ _ _ _ _ w1 (by decide) (cell_of (i := 0) ho rfl) (cell_ofA hc.heap hv0)
  have HZ := Lib.hid hZ
  have D1 := Lib.hid hd1
  have M1 := Lib.hid hm1
  clear ho hc hv0 hs0 hd1 hm1 hS hZ
  go_wp2_with (first | (go_at_call 14; refine HS.out.mono ?_; rintro e w' ⟨rfl, rfl⟩) | (go_at_call 15; refine HZ.out.mono ?_; rintro e w' ⟨rfl, rfl⟩))
  have hbl : (((madeCells #[.int .u8 0] 64).setIfInBounds 0 (.int .u8 7)).setIfInBounds 9 (.int .u8 7)) = (bv knownB).toArray := by
    rw [madeBytes]
    rfl
  rw [hbl]
  have hkl : knownB.length = 64 := by decide
  have hloop : KnownInv w (w1.alloc (.cells (bv knownB).toArray 5)) w1.heap.size b sb mb 0 := by
    refine ⟨D1.out.stay ((Mod.refl No _).alloc _), ?_, M1.out.alloc _⟩
    refine .inr ⟨w1.heap.size, 0, 64, (bv knownB).toArray, (0, 0), rfl, Nat.le_refl _, by unfold maxLen; omega, fun f => f, heap_at_new _ _ rfl, by simp, fun i hi => by simp⟩
  have HL := Lib.hid hloop
  have hb1 : w.heap.size ≤ b ∧ w.heap.size ≤ mb ∧ w.heap.size ≤ sb := ⟨hb0, hmb0, hsb0⟩
  clear hloop hbl hq0 hq9 hqz hmk
  generalize w1.heap.size = r at *
  go_loopw [3] (fun i wr => ∃ k : Nat, k ≤ 3 ∧ i = .int .i64 ((k : Int) + 1) ∧ KnownInv w wr r b sb mb k) (fun i _ => 4 - (intOf i).toNat)
  case atStart => exact ⟨0, by omega, rfl, HL.out⟩
  case round =>
    obtain ⟨k, hk, rfl, hinv⟩ := hrel
    by_cases hlt : k < 3
    · have HI := Lib.hid hinv
      clear hinv
      have HE := Lib.hid (knownD_e k hlt)
      have hW := write_any No No b sb mb (knownD k) ((k + 1 : Nat) : Int) (.slice (some ⟨r, 0, none⟩) 64 64) knownB wr HI.out.d (by rw [hkl]; exact HI.out.s) (by rw [hkl]; omega) (fun _ f => f.elim)
      rw [hkl, HE.out] at hW
      have HW := Lib.hid hW
      clear hW
      go_wp2_with (go_at_call 16; refine HW.out.mono ?_; rintro e w2 ⟨rfl, hd2, hm2⟩; have HD2 := Lib.hid hd2; have HM2 := Lib.hid hm2; clear hd2 hm2)
      refine ⟨⟨k + 1, by omega, by go_num, HD2.out, ?_, ?_⟩, by simp [intOf]; omega⟩
      · exact HI.out.s.keep HM2.out (fun q cur fz hq _ => HI.out.d.not_bytes (hq.elim .inl fun e => .inr (.inr e)) cur fz)
      · exact HI.out.m.then HM2.out (fun q hq e => e.elim (fun e => by omega) (fun e => by omega))
    · have hk3 : k = 3 := by omega
      subst hk3
      have HI := Lib.hid hinv
      clear hinv hk hlt
      go_wp2_with fail
      refine (crash_any No b sb mb (knownD 3) 6 2 5 wr HI.out.d (by omega) (fun _ f => f.elim)).mono ?_
      rintro e w3 ⟨rfl, hd3, hm3⟩
      have M3 := Lib.hid (HI.out.m.then hm3 (own3_old hb1))
      have hd3' : DkAt w3 No b sb mb knownX := hd3
      have D3 := Lib.hid hd3'
      clear hd3 hm3 hd3'
      go_wp2_with fail
      refine (read_ok (i := 1) (n := 64) (L := List.replicate 64 0) D3.out (by decide) (by decide) knownX1).mono ?_
      rintro e w4 ⟨g1, q1, rfl, _, hc4, hm4, hg1⟩
      have NG1 := Lib.hid (show ¬ Own3 b sb mb g1 from fun hq => by have := D3.out.lt hq; omega)
      clear hg1
      have x0 := hc4 0 (.int .u8 0) rfl
      have D4 := Lib.hid (D3.out.stay hm4)
      have M4 := Lib.hid (M3.out.trans hm4)
      clear hc4 hm4
      go_wp2_with fail
      refine (read_ok (i := 2) (n := 64) (L := knownX.last 2) D4.out (by decide) (by decide) rfl).mono ?_
      rintro e w5 ⟨g2, q2, rfl, _, hc5, hm5, hg2⟩
      have NG2 := Lib.hid (show ¬ Own3 b sb mb g2 from fun hq => by have := D4.out.lt hq; omega)
      clear hg2
      have y9 := hc5 9 (.int .u8 7) (by rw [knownX2]; rfl)
      have x0' := hm5.cell x0 (fun f => f)
      have D5 := Lib.hid (D4.out.stay hm5)
      have M5 := Lib.hid (M4.out.trans hm5)
      clear hc5 hm5 x0
      go_wp2_with fail
      refine (read_ok (i := 3) (n := 64) (L := knownX.last 3) D5.out (by decide) (by decide) rfl).mono ?_
      rintro e w6 ⟨g3, q3, rfl, _, hc6, hm6, hg3⟩
      have NG3 := Lib.hid (show ¬ Own3 b sb mb g3 from fun hq => by have := D5.out.lt hq; omega)
      clear hg3
      have z0 := hc6 0 (.int .u8 7) (by rw [knownX3]; rfl)
      have z9 := hc6 9 (.int .u8 0) (by rw [knownX3]; rfl)
      have x0 := hm6.cell x0' (fun f => f)
      have y9' := hm6.cell y9 (fun f => f)
      have D6 := Lib.hid (D5.out.stay hm6)
      have M6 := Lib.hid (M5.out.trans hm6)
      clear hc6 hm6 x0' y9
      go_wp2_with fail
      refine (cut_ok (n := 0) D6.out (by omega)).mono ?_
      rintro e w7 ⟨rfl, hd7, hm7⟩
      have x7 := hm7.cell x0 (fun e => NG1.out (.inl e))
      have y7 := hm7.cell y9' (fun e => NG2.out (.inl e))
      have z7 := hm7.cell z0 (fun e => NG3.out (.inl e))
      have t7 := hm7.cell z9 (fun e => NG3.out (.inl e))
      have D7 := Lib.hid hd7
      have M7 := Lib.hid (M6.out.then hm7 (fun i hi e => by have e' : i = b := e; omega))
      clear x0 y9' z0 z9 hd7 hm7
      go_wp2_with fail
      refine (flush_any No b sb mb _ w7 D7.out).mono ?_
      rintro e w8 ⟨rfl, hd8, hm8⟩
      rw [show Dk.flushE { knownX with cut := max 0 0 } = 32 from by decide]
      have x8 := hm8.cell x7 NG1.out
      have y8 := hm8.cell y7 NG2.out
      have z8 := hm8.cell z7 NG3.out
      have t8 := hm8.cell t7 NG3.out
      have hdd := dead_ok hd8
      rw [show (Dk.flush { knownX with cut := max 0 0 }).dead = true from by decide] at hdd
      have DD := Lib.hid hdd
      have M8 := Lib.hid (M7.out.then hm8 (own3_old hb1))
      clear x7 y7 z7 t7 hd8 hm8 hdd
      go_wp2_with (go_at_call 26; refine DD.out.mono ?_; rintro e w' ⟨rfl, rfl⟩)
      exact fin hR ⟨rfl, M8.out⟩

end Go.Proofs.Ytnchclleiccofaa
