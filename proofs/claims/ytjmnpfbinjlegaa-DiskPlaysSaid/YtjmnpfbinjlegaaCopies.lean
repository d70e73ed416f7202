/-
  DiskCopies: for every byte and number the law returns true. No conditions beyond the given statement's own.
-/
import Derived.Test.YtjmnpfbinjlegaaPlace
import Derived.Test.YtjmnpfbinjlegaaArgs
namespace Go.Proofs.Ytjmnpfbinjlegaa
open Go.RowKit Go.Maps

theorem made_get (n i : Nat) (h : i < n) : (madeCells #[.int .u8 0] n)[i]? = some (.int .u8 0) := by
  rw [madeBytes]; simp [bv, h]

/-- The disk of the law, behind its first write. -/
def cD (L : List UInt8) (c : Int) : Dk := { n := 3, sz := 64, sure := fun _ => List.replicate 64 0, dirty := fun k => if k = 1 then some L else none, cut := c, dead := false }

theorem row_sl {w : World} {r n : Nat} {L : List UInt8} (h : w.heap[r]? = some (.cells (bv L).toArray 5 (0, 0))) (hl : L.length = n) (hn : n ≤ 1000000) : Sl w No 5 (.slice (some ⟨r, 0, none⟩) n n) n (bv L) :=
  .inr ⟨r, 0, n, _, (0, 0), rfl, Nat.le_refl _, by unfold maxLen; omega, fun f => f, h, by simp, fun i hi => by simp⟩

set_option maxRecDepth 100000 in
set_option maxHeartbeats 4000000 in
theorem copies_any (x : UInt8) (cut : Int) (w : World) :
    Calls Try.prog 6 #[.int .u8 (x.toNat : Int), .int .i64 cut] w fun e w' => e = .returned (.bool true) ∧ Mod No w w' := by
  have hmk : ∀ w, (Instr.makeSlice 33 (.int .i64 64) (.int .i64 64)).run Try.prog w = .ok (.slice (some ⟨w.heap.size, 0, none⟩) 64 64) (w.alloc (.cells (madeCells #[.int .u8 0] 64) 5)) := fun w => run_make_row' (P := Try.prog) 33 5 (.int .u8 0) 1 Try.underlying33 info_u8 rfl .i64 .i64 64 (by omega) (by omega) w
  have hq0 : (madeCells #[.int .u8 0] 64)[0]? = some (.int .u8 0) := made_get 64 0 (by omega)
  have hqz : (madeCells #[.int .u8 0] 64).size = 64 := by rw [madeBytes]; rfl
  have hx : x.toNat < 256 := x.toNat_lt
  refine calls_hide fun R hR => ?_
  go_enter Try.func6, Try.ntmps6
  go_wp2_with fail
  refine (known3_any w).mono ?_
  rintro e w0 ⟨rfl, hm0⟩
  have M0 := Lib.hid hm0
  clear hm0
  go_wp2_with fail
  refine (disk_new No 3 64 w0 (fun _ f => f.elim)).mono ?_
  rintro e w1 ⟨b, sb, mb, rfl, hb0, hsb0, hmb0, hd1, hm1⟩
  have D1 := Lib.hid hd1
  have M1 := Lib.hid (M0.out.trans hm1)
  clear hd1 hm1
  go_wp2_with fail
  have hbl : ((madeCells #[.int .u8 0] 64).setIfInBounds 0 (.int .u8 (x.toNat : Int))) = (bv ((List.replicate 64 0).set 0 x)).toArray := by
    rw [madeBytes]; rfl
  rw [hbl]
  have hl : ((List.replicate 64 0).set 0 x).length = 64 := by simp
  have hd2 : DkAt (w1.alloc (.cells (bv ((List.replicate 64 0).set 0 x)).toArray 5)) (· = w1.heap.size) b sb mb (Dk.new 3 64) :=
    (D1.out.avoid.stay ((Mod.refl No w1).alloc _)).shrink fun q _ e => .inr (by omega)
  have hs2 : Sl (w1.alloc (.cells (bv ((List.replicate 64 0).set 0 x)).toArray 5)) No 5 (.slice (some ⟨w1.heap.size, 0, none⟩) 64 64) 64 (bv ((List.replicate 64 0).set 0 x)) :=
    .inr ⟨w1.heap.size, 0, 64, _, (0, 0), rfl, Nat.le_refl _, by unfold maxLen; omega, fun f => f, heap_at_new _ _ rfl, by simp, fun i hi => by simp⟩
  have hbr : (w1.alloc (.cells (bv ((List.replicate 64 0).set 0 x)).toArray 5)).heap[w1.heap.size]? = some (.cells (bv ((List.replicate 64 0).set 0 x)).toArray 5 (0, 0)) := heap_at_new _ _ rfl
  have m2 : Mod No w (w1.alloc (.cells (bv ((List.replicate 64 0).set 0 x)).toArray 5)) := M1.out.alloc _
  have hrs : w1.heap.size < (w1.alloc (.cells (bv ((List.replicate 64 0).set 0 x)).toArray 5)).heap.size := by simp
  have hrw : w.heap.size ≤ w1.heap.size := M1.out.size
  have hL0 : (bv ((List.replicate 64 0).set 0 x))[0]? = some (.int .u8 (x.toNat : Int)) := rfl
  generalize hLd : (List.replicate 64 0).set 0 x = L at *
  generalize w1.alloc (.cells (bv L).toArray 5) = w2 at *
  generalize w1.heap.size = r at *
  have D2 := Lib.hid hd2
  have S2 := Lib.hid hs2
  have B2 := Lib.hid hbr
  have M2 := Lib.hid m2
  have HLD := Lib.hid hLd
  have HL := Lib.hid hl
  have HL0 := Lib.hid hL0
  have hw0b : w.heap.size ≤ b ∧ w.heap.size ≤ mb ∧ w.heap.size ≤ sb := by have := M0.out.size; omega
  have hnr : ¬ Own3 b sb mb r := fun hq => D2.out.not_bytes hq _ _ hbr
  have NR := Lib.hid hnr
  clear hd2 hs2 hbr m2 hLd hl hL0 hbl hmk hq0 hqz D1 M1 hnr
  have hW := write_any (· = r) No b sb mb (Dk.new 3 64) 1 (.slice (some ⟨r, 0, none⟩) 64 64) L w2 D2.out (by rw [HL.out]; exact S2.out) (by rw [HL.out]; omega) (fun k e => by have e' : k = r := e; omega)
  rw [HL.out, show Dk.writeE (Dk.new 3 64) 1 64 = 0 from by decide] at hW
  refine hW.mono ?_
  rintro e w3 ⟨rfl, hd3, hm3⟩
  have hw1 : (Dk.new 3 64).write 1 L = cD L (-1) := by
    rw [(Dk.write_ok (d := Dk.new 3 64) (i := 1) (l := L) (by decide) (by rw [HL.out]; rfl) (by decide)).1]
    rfl
  rw [hw1] at hd3
  have B3 := Lib.hid (hm3.keep B2.out (fun hq => NR.out (own2_own3 _ hq)))
  have M3 := Lib.hid (M2.out.then hm3 (fun i hi e => own3_old hw0b i hi (own2_own3 _ e)))
  have D3 := Lib.hid hd3
  have k3 : w3.cell? ⟨r, 0, none⟩ = some (.int .u8 (x.toNat : Int)) := cell_ofA B3.out (by simpa using HL0.out)
  have f3 := frozen_of 0 B3.out
  have hr3 : r < w3.heap.size := by have := hm3.size; omega
  clear hd3 hm3 hW hw1
  go_wp2_with fail
  -- b's first byte is another one now
  have hx1 : (((x.toNat : Int) + 1) % 256) = (((x + 1 : UInt8).toNat : Nat) : Int) := by rw [UInt8.toNat_add]; rfl
  rw [hx1]
  have m4 : Mod (· = r) w3 (w3.setCell ⟨r, 0, none⟩ (.int .u8 ((x + 1 : UInt8).toNat : Int))) := (Mod.refl (· = r) w3).setCell (fun _ => rfl) _
  have hd4 : DkAt (w3.setCell ⟨r, 0, none⟩ (.int .u8 ((x + 1 : UInt8).toNat : Int))) (· = r) b sb mb (cD L (-1)) :=
    D3.out.keep m4 (fun e => NR.out (.inl e.symm)) (fun e => NR.out (.inr (.inl e.symm))) (fun e => NR.out (.inr (.inr e.symm))) (fun q e => .inl e)
  have hb4 : (w3.setCell ⟨r, 0, none⟩ (.int .u8 ((x + 1 : UInt8).toNat : Int))).heap[r]? = some (.cells (bv (L.set 0 (x + 1))).toArray 5 (0, 0)) := by
    rw [heap_setCell B3.out]
    congr 2
    simp [bv, List.map_set]
  have hl4 : (L.set 0 (x + 1)).length = 64 := by rw [List.length_set]; exact HL.out
  have hm4 : Mod No w (w3.setCell ⟨r, 0, none⟩ (.int .u8 ((x + 1 : UInt8).toNat : Int))) := M3.out.then m4 (fun q hq e => by have e' : q = r := e; omega)
  have hr4 : r < (w3.setCell ⟨r, 0, none⟩ (.int .u8 ((x + 1 : UInt8).toNat : Int))).heap.size := by simp; omega
  have D4 := Lib.hid hd4
  have B4 := Lib.hid hb4
  have L4 := Lib.hid hl4
  have M4 := Lib.hid hm4
  clear hd4 hb4 hl4 hm4 m4 hx1 k3 f3
  generalize w3.setCell ⟨r, 0, none⟩ (.int .u8 ((x + 1 : UInt8).toNat : Int)) = w4 at *
  generalize L.set 0 (x + 1) = L' at *
  refine (read_ok (i := 1) (n := 64) (L := L) D4.out (by show atE false 1 3 = 0; decide) rfl rfl).mono ?_
  rintro e w5 ⟨g, c5, rfl, hown5, hc5, hm5, hg5⟩
  have x5 := hc5 0 _ HL0.out
  have D5 := Lib.hid (((D4.out.avoid.stay hm5).shrink (Y := fun q => q = r ∨ q = g) fun q _ e => e.elim .inl (fun e => .inr (by rw [e]; exact hg5))))
  have B5 := Lib.hid (hm5.keep B4.out (fun f => f))
  have M5 := Lib.hid (M4.out.trans hm5)
  have NG := Lib.hid (show ¬ Own3 b sb mb g from fun hq => by have := D4.out.lt hq; omega)
  have f5 : w5.frozen? ⟨g, 0, none⟩ = false := hown5.frozenAt 0
  have lg5 : g < w5.heap.size := lt_of_cell x5
  have lr5 : r < w5.heap.size := by have := hm5.size; omega
  have hgr : g ≠ r := by omega
  have NGR := Lib.hid hgr
  have HG := Lib.hid hg5
  clear hc5 hm5 hown5 hgr hg5
  go_wp2_with fail
  generalize hv6 : (Value.int .u8 (((x.toNat : Int) + 1) % 256)) = v6
  have m6 : Mod (· = g) w5 (w5.setCell ⟨g, 0, none⟩ v6) := (Mod.refl (· = g) w5).setCell (fun _ => rfl) _
  have D6 := Lib.hid (D5.out.keep m6 (fun e => NG.out (.inl e.symm)) (fun e => NG.out (.inr (.inl e.symm))) (fun e => NG.out (.inr (.inr e.symm))) (fun q e => .inl (.inr e)))
  have B6 := Lib.hid (m6.keep B5.out (fun e => NGR.out e.symm))
  have lw4 : w.heap.size ≤ w4.heap.size := M4.out.size
  have M6 := Lib.hid (M5.out.then m6 (fun q hq e => by have e' : q = g := e; have := HG.out; omega))
  have lr6 : r < (w5.setCell ⟨g, 0, none⟩ v6).heap.size := by simp; omega
  have lg6 : g < (w5.setCell ⟨g, 0, none⟩ v6).heap.size := by simp; omega
  clear m6 x5 f5 hv6
  generalize w5.setCell ⟨g, 0, none⟩ v6 = w6 at *
  have hpl := place_any cut 2 w6 (by omega) (by omega)
  have HP := Lib.hid (fun w => place_any cut 2 w (by omega) (by omega))
  clear hpl
  refine (HP.out _).mono ?_
  rintro e w' ⟨rfl, rfl⟩
  have hp0 := Int.emod_nonneg cut (by omega : (2 : Int) ≠ 0)
  have hp1 := Int.emod_lt_of_pos cut (by omega : (0 : Int) < 2)
  by_cases hp : cut % 2 = 0
  · rw [hp] at HP
    rw [hp]
    go_wp2_with fail
    refine (cut_ok (n := 0) D6.out (by omega)).mono ?_
    rintro e w7 ⟨rfl, hd7, hm7⟩
    have hd7' : DkAt w7 (fun q => q = r ∨ q = g) b sb mb (cD L 0) := hd7
    have D7 := Lib.hid hd7'
    have B7 := Lib.hid (hm7.keep B6.out (fun e => NR.out (.inl e)))
    have M7 := Lib.hid (M6.out.then hm7 (fun q hq e => by have e' : q = b := e; omega))
    have hX7 : ∀ q, (q = r ∨ q = g) → q < w7.heap.size := fun q e => by have := hm7.size; rcases e with rfl | rfl <;> omega
    have HX7 := Lib.hid hX7
    clear hd7 hd7' hm7 hX7
    go_wp2_with fail
    refine (copy_any _ b sb mb (cD L 0) w7 D7.out HX7.out).mono ?_
    rintro e w8 ⟨b', sb', mb', rfl, hd8, hm8, hb8, hs8, hmm8⟩
    have D8 := Lib.hid (D7.out.stay hm8)
    have C8 := Lib.hid hd8
    have B8 := Lib.hid (hm8.keep B7.out (fun f => f))
    have M8 := Lib.hid (M7.out.trans hm8)
    have hdis : ∀ q, Own3 b' sb' mb' q → ¬ Own3 b sb mb q := fun q h1 h2 => by
      have h3 := D7.out.lt h2
      rcases h1 with e | e | e <;> omega
    have HDIS := Lib.hid hdis
    have lw7 : w.heap.size ≤ w7.heap.size := M7.out.size
    have HN8 := Lib.hid (show w.heap.size ≤ b' ∧ w.heap.size ≤ mb' ∧ w.heap.size ≤ sb' from by omega)
    have hX8 : ∀ q, (q = r ∨ q = g) → q < w8.heap.size := fun q e => by have := HX7.out q e; have := hm8.size; omega
    have HX8 := Lib.hid hX8
    clear hd8 hm8 hb8 hs8 hmm8 hdis hX8
    go_wp2_with fail
    have hW9 := write_any (fun q => q = r ∨ q = g) No b sb mb (cD L 0) 2 (.slice (some ⟨r, 0, none⟩) 64 64) L' w8 D8.out (by rw [L4.out]; exact row_sl B8.out L4.out (by omega)) (by rw [L4.out]; omega) HX8.out
    rw [L4.out, show Dk.writeE (cD L 0) 2 64 = 32 from rfl] at hW9
    refine hW9.mono ?_
    rintro e w9 ⟨rfl, _, hm9⟩
    have hm9' : Mod (Own3 b sb mb) w8 w9 := hm9.weaken fun q _ e => own2_own3 q e
    have C9 := Lib.hid (C8.out.beside D8.out hm9' HDIS.out)
    have B9 := Lib.hid (hm9'.keep B8.out NR.out)
    have M9 := Lib.hid (M8.out.then hm9' (own3_old hw0b))
    have HX9 := Lib.hid (show ∀ q, (q = r ∨ q = g) → q < w9.heap.size from fun q e => by have := HX8.out q e; have := hm9'.size; omega)
    clear hm9 hm9' hW9
    go_wp2_with fail
    have hW10 := write_any (fun q => q = r ∨ q = g) No b' sb' mb' (cD L 0) 0 (.slice (some ⟨r, 0, none⟩) 64 64) L' w9 C9.out (by rw [L4.out]; exact row_sl B9.out L4.out (by omega)) (by rw [L4.out]; omega) HX9.out
    rw [L4.out, show Dk.writeE (cD L 0) 0 64 = 32 from rfl] at hW10
    refine hW10.mono ?_
    rintro e w10 ⟨rfl, hc10, hm10⟩
    have hm10' : Mod (Own3 b' sb' mb') w9 w10 := hm10.weaken fun q _ e => own2_own3 q e
    have hwr : (cD L 0).write 0 L' = (cD L 0).power := (Dk.write_dead (d := cD L 0) (i := 0) (l := L') rfl (by rw [L4.out]; rfl) rfl).1
    rw [hwr] at hc10
    have C10 := Lib.hid hc10
    have M10 := Lib.hid (M9.out.then hm10' (own3_old HN8.out))
    clear hc10 hm10 hm10' hwr hW10
    go_wp2_with fail
    refine (read_any _ b' sb' mb' _ 1 w10 C10.out).mono ?_
    rintro e w11 ⟨v, rfl, hm11, hz, _⟩
    rw [show atE (cD L 0).power.dead 1 (cD L 0).power.n = 32 from rfl] at hz ⊢
    have hv : v = .slice none 0 0 := hz (by decide)
    subst hv
    have M11 := Lib.hid (M10.out.trans hm11)
    clear hz hm11
    go_wp2_with (go_at_call 16; refine (HP.out _).mono ?_; rintro e w' ⟨rfl, rfl⟩)
    exact fin hR ⟨rfl, M11.out⟩
  · have hp' : cut % 2 = 1 := by omega
    rw [hp'] at HP
    rw [hp']
    clear hp hp0 hp1
    go_wp2_with fail
    refine (cut_ok (n := 1) D6.out (by omega)).mono ?_
    rintro e w7 ⟨rfl, hd7, hm7⟩
    have hd7' : DkAt w7 (fun q => q = r ∨ q = g) b sb mb (cD L 1) := hd7
    have D7 := Lib.hid hd7'
    have B7 := Lib.hid (hm7.keep B6.out (fun e => NR.out (.inl e)))
    have M7 := Lib.hid (M6.out.then hm7 (fun q hq e => by have e' : q = b := e; omega))
    have hX7 : ∀ q, (q = r ∨ q = g) → q < w7.heap.size := fun q e => by have := hm7.size; rcases e with rfl | rfl <;> omega
    have HX7 := Lib.hid hX7
    clear hd7 hd7' hm7 hX7
    go_wp2_with fail
    refine (copy_any _ b sb mb (cD L 1) w7 D7.out HX7.out).mono ?_
    rintro e w8 ⟨b', sb', mb', rfl, hd8, hm8, hb8, hs8, hmm8⟩
    have D8 := Lib.hid (D7.out.stay hm8)
    have C8 := Lib.hid hd8
    have B8 := Lib.hid (hm8.keep B7.out (fun f => f))
    have M8 := Lib.hid (M7.out.trans hm8)
    have hdis : ∀ q, Own3 b' sb' mb' q → ¬ Own3 b sb mb q := fun q h1 h2 => by
      have h3 := D7.out.lt h2
      rcases h1 with e | e | e <;> omega
    have HDIS := Lib.hid hdis
    have lw7 : w.heap.size ≤ w7.heap.size := M7.out.size
    have HN8 := Lib.hid (show w.heap.size ≤ b' ∧ w.heap.size ≤ mb' ∧ w.heap.size ≤ sb' from by omega)
    have hX8 : ∀ q, (q = r ∨ q = g) → q < w8.heap.size := fun q e => by have := HX7.out q e; have := hm8.size; omega
    have HX8 := Lib.hid hX8
    clear hd8 hm8 hb8 hs8 hmm8 hdis hX8
    go_wp2_with fail
    have hW9 := write_any (fun q => q = r ∨ q = g) No b sb mb (cD L 1) 2 (.slice (some ⟨r, 0, none⟩) 64 64) L' w8 D8.out (by rw [L4.out]; exact row_sl B8.out L4.out (by omega)) (by rw [L4.out]; omega) HX8.out
    rw [L4.out, show Dk.writeE (cD L 1) 2 64 = 0 from rfl] at hW9
    refine hW9.mono ?_
    rintro e w9 ⟨rfl, hdd9, hm9⟩
    have hm9' : Mod (Own3 b sb mb) w8 w9 := hm9.weaken fun q _ e => own2_own3 q e
    have hwr9 : (cD L 1).write 2 L' = (cD L 1).power.put 2 L' := (Dk.write_ok (d := cD L 1) (i := 2) (l := L') rfl (by rw [L4.out]; rfl) (by show (1 : Int) ≠ 0; decide)).1
    rw [hwr9] at hdd9
    have D9 := Lib.hid hdd9
    have C9 := Lib.hid (C8.out.beside D8.out hm9' HDIS.out)
    have B9 := Lib.hid (hm9'.keep B8.out NR.out)
    have M9 := Lib.hid (M8.out.then hm9' (own3_old hw0b))
    have HX9 := Lib.hid (show ∀ q, (q = r ∨ q = g) → q < w9.heap.size from fun q e => by have := HX8.out q e; have := hm9'.size; omega)
    clear hm9 hm9' hW9 hdd9 hwr9
    go_wp2_with fail
    have hW10 := write_any (fun q => q = r ∨ q = g) No b' sb' mb' (cD L 1) 0 (.slice (some ⟨r, 0, none⟩) 64 64) L' w9 C9.out (by rw [L4.out]; exact row_sl B9.out L4.out (by omega)) (by rw [L4.out]; omega) HX9.out
    rw [L4.out, show Dk.writeE (cD L 1) 0 64 = 0 from rfl] at hW10
    refine hW10.mono ?_
    rintro e w10 ⟨rfl, hc10, hm10⟩
    have hm10' : Mod (Own3 b' sb' mb') w9 w10 := hm10.weaken fun q _ e => own2_own3 q e
    have hwr : (cD L 1).write 0 L' = (cD L 1).power.put 0 L' := (Dk.write_ok (d := cD L 1) (i := 0) (l := L') rfl (by rw [L4.out]; rfl) (by show (1 : Int) ≠ 0; decide)).1
    rw [hwr] at hc10
    have C10 := Lib.hid hc10
    have D10 := Lib.hid (D9.out.beside C9.out hm10' (fun q h1 h2 => HDIS.out q h2 h1))
    have M10 := Lib.hid (M9.out.then hm10' (own3_old HN8.out))
    clear hc10 hm10 hm10' hwr hW10
    go_wp2_with fail
    refine (read_ok (i := 1) (n := 64) (L := L) C10.out rfl rfl rfl).mono ?_
    rintro e w11 ⟨g1, c11, rfl, _, hc11, hm11, _⟩
    have x11 := hc11 0 _ HL0.out
    have D11 := Lib.hid (D10.out.stay hm11)
    have M11 := Lib.hid (M10.out.trans hm11)
    clear hc11 hm11
    go_wp2_with (go_at_call 16; refine (HP.out _).mono ?_; rintro e w' ⟨rfl, rfl⟩)
    refine (read_ok (i := 0) (n := 64) (L := List.replicate 64 0) D11.out rfl rfl rfl).mono ?_
    rintro e w12 ⟨g2, c12, rfl, hown12, hc12, hm12, _⟩
    have x12 := hm12.cell x11 (fun f => f)
    have M12 := Lib.hid (M11.out.trans hm12)
    have S12 : Sl w12 No 5 (.slice (some ⟨g2, 0, none⟩) 64 c12) (List.replicate 64 (0 : UInt8)).length (bv (List.replicate 64 0)) := by
      have := Sl.of_own (X := No) hown12 (fun _ _ f => f)
      simpa using this
    have HS12 := Lib.hid S12
    clear hc12 hm12 hown12 x11 S12
    have hZ : ∃ Z : ByteArray, Z = ⟨(List.replicate 64 (0 : UInt8)).toArray⟩ := ⟨_, rfl⟩
    obtain ⟨Z, hZ⟩ := hZ
    have HZ := Lib.hid hZ
    have hcv : ∀ wq : World, Mod No w12 wq → (convert 33 9 (.slice (some ⟨g2, 0, none⟩) 64 c12)).run Try.prog wq = .ok (.string Z) wq := fun wq hm => by
      rw [hZ]
      have h1 := string_of (P := Try.prog) (src := 33) (dst := 9) (e := 5) (HS12.out.keep hm (fun _ _ _ f => f.elim)) Try.underlying33 Try.underlying5 Try.underlying9
      exact h1
    have HCV := Lib.hid hcv
    obtain ⟨ZB, hZB⟩ : ∃ ZB : Array Value, ZB = (bv (List.replicate 64 0)).toArray := ⟨_, rfl⟩
    have hmk : ∀ w, (Instr.makeSlice 33 (.int .i64 64) (.int .i64 64)).run Try.prog w = .ok (.slice (some ⟨w.heap.size, 0, none⟩) 64 64) (w.alloc (.cells ZB 5)) := fun w => by
      rw [hZB, ← madeBytes]
      exact run_make_row' (P := Try.prog) 33 5 (.int .u8 0) 1 Try.underlying33 info_u8 rfl .i64 .i64 64 (by omega) (by omega) w
    have hcv2 : (convert 33 9 (.slice (some ⟨w12.heap.size, 0, none⟩) 64 64)).run Try.prog (w12.alloc (.cells ZB 5)).drew = .ok (.string Z) (w12.alloc (.cells ZB 5)).drew := by
      rw [hZ]
      have hh : (w12.alloc (.cells ZB 5)).drew.heap[w12.heap.size]? = some (.cells (bv (List.replicate 64 0)).toArray 5 (0, 0)) := by
        rw [← hZB]; exact heap_at_new w12 _ rfl
      exact string_of (P := Try.prog) (X := No) (e' := 5) (src := 33) (dst := 9) (e := 5) (l := List.replicate 64 0) (row_sl hh rfl (by decide)) Try.underlying33 Try.underlying5 Try.underlying9
    have HCV2 := Lib.hid hcv2
    clear hZ hcv hcv2 hZB
    go_wp2_with fail
    have hS0 : w12.drew.cell? ⟨g1, 0, none⟩ = some (.int .u8 (x.toNat : Int)) ∧ (convert 33 9 (.slice (some ⟨g2, 0, none⟩) 64 c12)).run Try.prog w12.drew = .ok (.string Z) w12.drew := ⟨x12, HCV.out _ (Mod.refl No w12).drew⟩
    have m13 : Mod No w12 (w12.alloc (.cells ZB 5)).drew := ((Mod.refl No w12).alloc _).drew
    have hS1 : (w12.alloc (.cells ZB 5)).drew.cell? ⟨g1, 0, none⟩ = some (.int .u8 (x.toNat : Int)) ∧ (convert 33 9 (.slice (some ⟨g2, 0, none⟩) 64 c12)).run Try.prog (w12.alloc (.cells ZB 5)).drew = .ok (.string Z) (w12.alloc (.cells ZB 5)).drew :=
      ⟨m13.cell x12 (fun f => f), HCV.out _ m13⟩
    refine wp_region_T (fun w' => w'.cell? ⟨g1, 0, none⟩ = some (.int .u8 (x.toNat : Int)) ∧ (convert 33 9 (.slice (some ⟨g2, 0, none⟩) 64 c12)).run Try.prog w' = .ok (.string Z) w') 27 (by kernel_rfl) ?_
    refine wpAnyT_take 0 (some 88) ?_ rfl rfl (by kernel_rfl) (fun _ _ _ h => h) hS0 (Or.inl ⟨by rfl, ?_⟩) ?_
    rotate_left
    · (intro w' hSw; (try dsimp only at hSw); go_simp; try with_reducible rfl)
    simp only [Act.put, List.setIfInBounds_toArray, List.set_cons_zero, List.set_cons_succ]
    refine wpAnyT_take 1 (some 89) ?_ rfl rfl (by kernel_rfl) (fun _ _ _ h => h) hS0 (Or.inl ⟨by rfl, ?_⟩) ?_
    rotate_left
    · (intro w' hSw; (try dsimp only at hSw); go_simp; try with_reducible rfl)
    simp only [Act.put, List.setIfInBounds_toArray, List.set_cons_zero, List.set_cons_succ]
    refine wpAnyT_take 2 (some 90) ?_ rfl rfl (by kernel_rfl) (fun _ _ _ h => h) hS0 (Or.inl ⟨by rfl, ?_⟩) ?_
    rotate_left
    · (intro w' hSw; (try dsimp only at hSw); go_simp; try with_reducible rfl)
    simp only [Act.put, List.setIfInBounds_toArray, List.set_cons_zero, List.set_cons_succ]
    refine wpAnyT_take 3 (some 91) ?_ rfl rfl (by kernel_rfl) (fun _ _ _ h => h) hS0 (Or.inl ⟨by rfl, ?_⟩) ?_
    rotate_left
    · (intro w' hSw; (try dsimp only at hSw); go_simp; try with_reducible rfl)
    simp only [Act.put, List.setIfInBounds_toArray, List.set_cons_zero, List.set_cons_succ]
    refine wpAnyT_take 4 (some 92) ?_ rfl rfl (by kernel_rfl) (fun _ _ _ h => h) hS0 (Or.inl ⟨by rfl, ?_⟩) ?_
    rotate_left
    · (intro w' hSw; (try dsimp only at hSw); go_simp; try with_reducible rfl)
    simp only [Act.put, List.setIfInBounds_toArray, List.set_cons_zero, List.set_cons_succ]
    refine wpAnyT_take 5 (some 93) ?_ rfl rfl (by kernel_rfl) (fun _ _ _ h => h) hS0 (Or.inl ⟨by rfl, ?_⟩) ?_
    rotate_left
    · (intro w' hSw; (try dsimp only at hSw); go_simp; try with_reducible rfl)
    simp only [Act.put, List.setIfInBounds_toArray, List.set_cons_zero, List.set_cons_succ]
    refine wpAnyT_take 6 (some 94) ?_ rfl rfl (by kernel_rfl) (fun _ _ _ h => h) hS0 (Or.inl ⟨by rfl, ?_⟩) ?_
    rotate_left
    · (intro w' hSw; (try dsimp only at hSw); go_simp; try with_reducible rfl)
    simp only [Act.put, List.setIfInBounds_toArray, List.set_cons_zero, List.set_cons_succ]
    refine wpAnyT_take 7 (some 95) ?_ rfl rfl (by kernel_rfl) (fun _ _ _ h => h) hS0 (Or.inl ⟨by rfl, ?_⟩) ?_
    rotate_left
    · (intro w' hSw; (try dsimp only at hSw); go_simp; try with_reducible rfl)
    simp only [Act.put, List.setIfInBounds_toArray, List.set_cons_zero, List.set_cons_succ]
    refine wpAnyT_take 8 (some 96) ?_ rfl rfl (by kernel_rfl) (fun _ _ _ h => h) hS0 (Or.inl ⟨by rfl, ?_⟩) ?_
    rotate_left
    · (intro w' hSw; (try dsimp only at hSw); go_simp; try with_reducible rfl)
    simp only [Act.put, List.setIfInBounds_toArray, List.set_cons_zero, List.set_cons_succ]
    refine wpAnyT_take 9 (some 97) ?_ rfl rfl (by kernel_rfl) (fun _ _ _ h => h) hS0 (Or.inl ⟨by rfl, ?_⟩) ?_
    rotate_left
    · (intro w' hSw; (try dsimp only at hSw); go_simp; try with_reducible rfl)
    simp only [Act.put, List.setIfInBounds_toArray, List.set_cons_zero, List.set_cons_succ]
    refine wpAnyT_take 10 (some 98) ?_ rfl rfl (by kernel_rfl) (fun _ _ _ h => h) hS0 (Or.inl ⟨by rfl, ?_⟩) ?_
    rotate_left
    · (intro w' hSw; (try dsimp only at hSw); go_simp; try with_reducible rfl)
    simp only [Act.put, List.setIfInBounds_toArray, List.set_cons_zero, List.set_cons_succ]
    refine wpAnyT_take 11 (some 99) ?_ rfl rfl (by kernel_rfl) (fun _ _ _ h => h) hS0 (Or.inl ⟨by rfl, ?_⟩) ?_
    rotate_left
    · (intro w' hSw; (try dsimp only at hSw); go_simp; try with_reducible rfl)
    simp only [Act.put, List.setIfInBounds_toArray, List.set_cons_zero, List.set_cons_succ]
    refine wpAnyT_take 12 (some 100) ?_ rfl rfl (by kernel_rfl) (fun _ _ _ h => h) hS0 (Or.inl ⟨by rfl, ?_⟩) ?_
    rotate_left
    · (intro w' hSw; (try dsimp only at hSw); go_simp; try with_reducible rfl)
    simp only [Act.put, List.setIfInBounds_toArray, List.set_cons_zero, List.set_cons_succ]
    refine wpAnyT_take 13 (some 101) ?_ rfl rfl (by kernel_rfl) (fun _ _ _ h => h) hS0 (Or.inl ⟨by rfl, ?_⟩) ?_
    rotate_left
    · (intro w' hSw; (try dsimp only at hSw); go_simp; try with_reducible rfl)
    simp only [Act.put, List.setIfInBounds_toArray, List.set_cons_zero, List.set_cons_succ]
    refine wpAnyT_take 14 (some 102) ?_ rfl rfl (by kernel_rfl) (fun _ _ _ h => h) hS0 (Or.inl ⟨by rfl, ?_⟩) ?_
    rotate_left
    · (intro w' hSw; (try dsimp only at hSw); go_simp; try with_reducible rfl)
    simp only [Act.put, List.setIfInBounds_toArray, List.set_cons_zero, List.set_cons_succ]
    refine wpAnyT_take 15 (some 103) ?_ rfl rfl (by kernel_rfl) (fun _ _ _ h => h) hS0 (Or.inl ⟨by rfl, ?_⟩) ?_
    rotate_left
    · (intro w' hSw; (try dsimp only at hSw); go_simp; try with_reducible rfl)
    simp only [Act.put, List.setIfInBounds_toArray, List.set_cons_zero, List.set_cons_succ]
    refine wpAnyT_take 16 (some 104) ?_ rfl rfl (by kernel_rfl) (fun _ _ _ h => h) hS0 (Or.inl ⟨by rfl, ?_⟩) ?_
    rotate_left
    · (intro w' hSw; (try dsimp only at hSw); go_simp; try with_reducible rfl)
    simp only [Act.put, List.setIfInBounds_toArray, List.set_cons_zero, List.set_cons_succ]
    refine wpAnyT_take 17 (some 105) ?_ rfl rfl (by kernel_rfl) (fun _ _ _ h => h) hS0 (Or.inl ⟨by rfl, ?_⟩) ?_
    rotate_left
    · (intro w' hSw; (try dsimp only at hSw); go_simp; try with_reducible rfl)
    simp only [Act.put, List.setIfInBounds_toArray, List.set_cons_zero, List.set_cons_succ]
    refine wpAnyT_take 18 (some 106) ?_ rfl rfl (by kernel_rfl) (fun _ _ _ h => h) hS0 (Or.inl ⟨by rfl, ?_⟩) ?_
    rotate_left
    · (intro w' hSw; (try dsimp only at hSw); go_simp; try with_reducible rfl)
    simp only [Act.put, List.setIfInBounds_toArray, List.set_cons_zero, List.set_cons_succ]
    refine wpAnyT_take 19 (some 107) ?_ rfl rfl (by kernel_rfl) (fun _ _ _ h => h) hS0 (Or.inl ⟨by rfl, ?_⟩) ?_
    rotate_left
    · (intro w' hSw; (try dsimp only at hSw); go_simp; try with_reducible rfl)
    simp only [Act.put, List.setIfInBounds_toArray, List.set_cons_zero, List.set_cons_succ]
    refine wpAnyT_take 20 (some 108) ?_ rfl rfl (by kernel_rfl) (fun _ _ _ h => h) hS0 (Or.inl ⟨by rfl, ?_⟩) ?_
    rotate_left
    · (intro w' hSw; (try dsimp only at hSw); go_simp; try with_reducible rfl)
    simp only [Act.put, List.setIfInBounds_toArray, List.set_cons_zero, List.set_cons_succ]
    refine wpAnyT_take 21 (some 109) ?_ rfl rfl (by kernel_rfl) (fun _ _ _ h => h) hS0 (Or.inl ⟨by rfl, ?_⟩) ?_
    rotate_left
    · (intro w' hSw; (try dsimp only at hSw); go_simp; try with_reducible rfl)
    simp only [Act.put, List.setIfInBounds_toArray, List.set_cons_zero, List.set_cons_succ]
    refine wpAnyT_take 22 (some 110) ?_ rfl rfl (by kernel_rfl) (fun _ _ _ h => h) hS0 (Or.inl ⟨by rfl, ?_⟩) ?_
    rotate_left
    · (intro w' hSw; (try dsimp only at hSw); go_simp; try with_reducible rfl)
    simp only [Act.put, List.setIfInBounds_toArray, List.set_cons_zero, List.set_cons_succ]
    refine wpAnyT_oneW 23 rfl (by kernel_rfl) (by rfl) ?_
    intro K hK
    go_simp
    show K _ _
    refine hK.out _ _ (fun _ => hS1) ?_
    clear hK K
    have hcv3 := HCV2.out
    refine wpAnyT_oneW 24 rfl (by kernel_rfl) (by rfl) ?_
    intro K hK
    go_simp
    show K _ _
    refine hK.out _ _ (fun _ => hS1) ?_
    clear hK K
    refine wpAnyT_oneW 25 rfl (by kernel_rfl) (by rfl) ?_
    intro K hK
    go_simp
    show K _ _
    refine hK.out _ _ (fun _ => hS1) ?_
    clear hK K
    refine wpAnyT_oneW 26 rfl (by kernel_rfl) (by rfl) ?_
    intro K hK
    go_simp
    show K _ _
    refine hK.out _ _ (fun _ => hS1) ?_
    clear hK K
    refine wpAnyT_oneW 27 rfl (by kernel_rfl) (by rfl) ?_
    intro K hK
    go_simp
    show K _ _
    refine hK.out _ _ (fun h => absurd rfl h) ?_
    clear hK K
    refine wpAnyT_done (by kernel_rfl) ?_ _
    go_wp2
    exact fin hR ⟨rfl, (M12.out.alloc _).drew⟩

/-- .. as the statement hands its arguments in. -/
theorem copies_walk (x : Int) (hx : (Lit.int .u8 x).wf = true) (cut : Int) (_ : (Lit.int .i64 cut).wf = true) (w : World) :
    Calls Try.prog 6 #[.int .u8 x, .int .i64 cut] w fun e w' => e = .returned (.bool true) ∧ Mod No w w' := by
  obtain ⟨b, rfl⟩ := byte_of x hx
  exact copies_any b cut w

end Go.Proofs.Ytjmnpfbinjlegaa
