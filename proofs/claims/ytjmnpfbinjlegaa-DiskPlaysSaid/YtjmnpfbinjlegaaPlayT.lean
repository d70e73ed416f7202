/-
  The law DiskPlays: its code part by part; the end of a round. No statement is proved here; no condition.
-/
import Derived.Test.YtjmnpfbinjlegaaPlayP
import Derived.Test.YtjmnpfbinjlegaaFr
namespace Go.Proofs.Ytjmnpfbinjlegaa
open Go.RowKit Go.Maps

set_option maxRecDepth 100000 in
theorem lit344 (t : Array Value) (h : t.size = 344) : ∃ c : Nat → Value, t = #[c 0, c 1, c 2, c 3, c 4, c 5, c 6, c 7, c 8, c 9, c 10, c 11, c 12, c 13, c 14, c 15, c 16, c 17, c 18, c 19, c 20, c 21, c 22, c 23, c 24, c 25, c 26, c 27, c 28, c 29, c 30, c 31, c 32, c 33, c 34, c 35, c 36, c 37, c 38, c 39, c 40, c 41, c 42, c 43, c 44, c 45, c 46, c 47, c 48, c 49, c 50, c 51, c 52, c 53, c 54, c 55, c 56, c 57, c 58, c 59, c 60, c 61, c 62, c 63, c 64, c 65, c 66, c 67, c 68, c 69, c 70, c 71, c 72, c 73, c 74, c 75, c 76, c 77, c 78, c 79, c 80, c 81, c 82, c 83, c 84, c 85, c 86, c 87, c 88, c 89, c 90, c 91, c 92, c 93, c 94, c 95, c 96, c 97, c 98, c 99, c 100, c 101, c 102, c 103, c 104, c 105, c 106, c 107, c 108, c 109, c 110, c 111, c 112, c 113, c 114, c 115, c 116, c 117, c 118, c 119, c 120, c 121, c 122, c 123, c 124, c 125, c 126, c 127, c 128, c 129, c 130, c 131, c 132, c 133, c 134, c 135, c 136, c 137, c 138, c 139, c 140, c 141, c 142, c 143, c 144, c 145, c 146, c 147, c 148, c 149, c 150, c 151, c 152, c 153, c 154, c 155, c 156, c 157, c 158, c 159, c 160, c 161, c 162, c 163, c 164, c 165, c 166, c 167, c 168, c 169, c 170, c 171, c 172, c 173, c 174, c 175, c 176, c 177, c 178, c 179, c 180, c 181, c 182, c 183, c 184, c 185, c 186, c 187, c 188, c 189, c 190, c 191, c 192, c 193, c 194, c 195, c 196, c 197, c 198, c 199, c 200, c 201, c 202, c 203, c 204, c 205, c 206, c 207, c 208, c 209, c 210, c 211, c 212, c 213, c 214, c 215, c 216, c 217, c 218, c 219, c 220, c 221, c 222, c 223, c 224, c 225, c 226, c 227, c 228, c 229, c 230, c 231, c 232, c 233, c 234, c 235, c 236, c 237, c 238, c 239, c 240, c 241, c 242, c 243, c 244, c 245, c 246, c 247, c 248, c 249, c 250, c 251, c 252, c 253, c 254, c 255, c 256, c 257, c 258, c 259, c 260, c 261, c 262, c 263, c 264, c 265, c 266, c 267, c 268, c 269, c 270, c 271, c 272, c 273, c 274, c 275, c 276, c 277, c 278, c 279, c 280, c 281, c 282, c 283, c 284, c 285, c 286, c 287, c 288, c 289, c 290, c 291, c 292, c 293, c 294, c 295, c 296, c 297, c 298, c 299, c 300, c 301, c 302, c 303, c 304, c 305, c 306, c 307, c 308, c 309, c 310, c 311, c 312, c 313, c 314, c 315, c 316, c 317, c 318, c 319, c 320, c 321, c 322, c 323, c 324, c 325, c 326, c 327, c 328, c 329, c 330, c 331, c 332, c 333, c 334, c 335, c 336, c 337, c 338, c 339, c 340, c 341, c 342, c 343] ∧ ∀ i, t.getD i undef = c i := by
  refine ⟨fun i => t.getD i undef, ?_, fun _ => rfl⟩
  have h1 := arr_lits t
  rw [h] at h1
  exact h1.trans (by kernel_rfl)

noncomputable def body5 : Code := Try.f5.body.getD .skip
/-- The switch. -/
noncomputable def blk4 : Code := (blockAt 4 body5).getD .skip
/-- What follows it. -/
noncomputable def tail5 : Code := (behind 4 body5).getD .skip

/-- Behind the switch. -/
def Sw (w0 : World) (q lb sm fb n sz : Nat) (va vi : Value) (t : Int) (a' : Act) (w' : World) : Prop :=
  ∃ b sb mb d', d'.n = n ∧ d'.sz = sz ∧ Pl w0 w' b sb mb q lb sm fb d' d' ∧ Fr 344 [(2, va), (7, .pointer (some ⟨b, 0, none⟩)), (8, .pointer (some ⟨q, 0, none⟩)), (10, vi), (12, .int .i64 t), (13, .bool (decide (0 ≤ t) && decide (t < (n : Int))))] a'

/-- At a round's end. -/
def Rt (w0 : World) (q lb sm fb n sz : Nat) (va vi : Value) (a' : Act) (w' : World) : Prop :=
  ∃ b sb mb d', d'.n = n ∧ d'.sz = sz ∧ Pl w0 w' b sb mb q lb sm fb d' d' ∧ Fr 344 [(2, va), (7, .pointer (some ⟨b, 0, none⟩)), (8, .pointer (some ⟨q, 0, none⟩)), (10, vi)] a'

set_option maxRecDepth 100000 in
set_option maxHeartbeats 4000000 in
theorem tail_any (Q : Exit → Act → World → Prop) (w0 w : World) (q lb sm fb n sz : Nat) (va vi : Value) (t : Int) (a : Act) (h : Sw w0 q lb sm fb n sz va vi t a w) (ht1 : -1 ≤ t) (ht2 : t ≤ (n : Int))
    (hQ : ∀ a' w', Rt w0 q lb sm fb n sz va vi a' w' → Q .normal a' w') : Code.wp Try.prog tail5 Q a w := by
  obtain ⟨b, sb, mb, d, hn, hz, hpl, hF⟩ := h
  subst hn hz
  obtain ⟨ts, ds⟩ := a
  obtain ⟨hsz, hds, hs2, hs7, hs8, hs10, hs12, hs13, -⟩ := hF
  dsimp only at hsz hds hs2 hs7 hs8 hs10 hs12 hs13
  subst hds
  obtain ⟨c, rfl, hc⟩ := lit344 ts hsz
  rw [hc] at hs2
  rw [hc] at hs7
  rw [hc] at hs8
  rw [hc] at hs10
  rw [hc] at hs12
  rw [hc] at hs13
  simp only [hs2, hs7, hs8, hs10, hs12, hs13]
  clear hc hsz hs2 hs7 hs8 hs10 hs12 hs13

  have HQ := Lib.hid hQ
  have HP := Lib.hid hpl
  obtain ⟨lc, sc, fc, nn, (ho : w.heap[q]? = some (.cells #[.slice (some ⟨lb, 0, none⟩) d.n lc, .slice (some ⟨sm, 0, none⟩) d.n sc, .slice (some ⟨fb, 0, none⟩) d.n fc, .bool d.dead, .bool (decide (d.cut ≠ -1)), .int .i64 nn] 48 (0, 0))), _⟩ := hpl.m.obj
  have c0 := cell_of (i := 0) ho rfl
  have c3 := cell_of (i := 3) ho rfl
  have HR := Lib.hid (read_any No b sb mb d t w hpl.d)
  have hn1 : 1 ≤ d.n := hpl.m.n1
  have hn2 : d.n ≤ 4096 := hpl.m.n2
  clear hQ hpl ho
  conv => arg 2; whnf
  go_wp2_with fail
  refine HR.out.mono ?_
  clear HR
  rintro e w1 ⟨v, rfl, hm1, hr1, hr2⟩
  have c3' := hm1.cell c3 (fun f => f)
  have c0' := hm1.cell c0 (fun f => f)
  have hdead : ∀ nq, Calls Try.prog 21 #[.pointer (some ⟨b, 0, none⟩)] (w1.drewN nq) fun e w' => e = .returned (.bool d.dead) ∧ w' = w1.drewN nq := fun nq =>
    (dead_ok (HP.out.d.stay (hm1.drewN nq))).mono fun e w' ⟨h1, h2⟩ => ⟨h1, h2.symm⟩
  have HD := Lib.hid hdead
  have P1 := Lib.hid fun nq => HP.out.stay (hm1.drewN nq)
  have PB := Lib.hid (HP.out.stay hm1)
  clear hdead c3 c0 HP
  by_cases hE : atE d.dead t d.n = 0
  · obtain ⟨ht0, htn, hdd⟩ := atE_ok hE
    have hin : (decide (0 ≤ t) && decide (t < (d.n : Int))) = true := by simp [ht0, htn]
    have hrow := hr2 hE
    rw [hin, hE]
    rw [hdd] at c3' HD
    obtain ⟨k, rfl⟩ := Int.eq_ofNat_of_zero_le ht0
    have hkn : k < d.n := by omega
    obtain ⟨cul, hcl⟩ := PB.out.m.l
    obtain ⟨v2, hv2, hsl2⟩ := hcl.cell k hkn
    have hlen := PB.out.m.lenL k hkn
    have hsl1 : Sl w1 No 5 v (d.last k).length (bv (d.last k)) := by rw [hlen]; exact Sl.of_own (X := No) hrow (fun _ _ f => f)
    rw [← hlen] at hsl2
    have hz1 : 64 ≤ d.sz := PB.out.m.s1
    obtain ⟨g1, o1, c1, rfl, _⟩ := hsl1.shape (by omega)
    obtain ⟨g2, o2, c2, rfl, _⟩ := hsl2.shape (by omega)
    have cl := cell_ofA hcl.heap hv2
    obtain ⟨Z, hZ⟩ : ∃ Z : ByteArray, Z = ⟨(d.last k).toArray⟩ := ⟨_, rfl⟩
    have hcv1 : ∀ nq, (convert 33 9 (.slice (some ⟨g1, o1, none⟩) (d.last k).length c1)).run Try.prog (w1.drewN nq) = .ok (.string Z) (w1.drewN nq) := fun nq => by
      rw [hZ]
      exact string_of (P := Try.prog) (src := 33) (dst := 9) (e := 5) (hsl1.keep (S := No) ((Mod.refl No w1).drewN nq) (fun _ _ _ f => f.elim)) Try.underlying33 Try.underlying5 Try.underlying9
    have hcv2 : ∀ nq, (convert 33 9 (.slice (some ⟨g2, o2, none⟩) (d.last k).length c2)).run Try.prog (w1.drewN nq) = .ok (.string Z) (w1.drewN nq) := fun nq => by
      rw [hZ]
      exact string_of (P := Try.prog) (src := 33) (dst := 9) (e := 5) (hsl2.keep (S := No) ((Mod.refl No w1).drewN nq) (fun _ _ _ f => f.elim)) Try.underlying33 Try.underlying5 Try.underlying9
    have hk0 : (0 : Int) ≤ (k : Int) := Int.natCast_nonneg _
    clear hr1 hr2 hrow hcl hv2 hsl2 hsl1 hlen hE hin hdd hZ hz1
    generalize (d.last k).length = L at *
    go_wp2_with fail
    go_quiet (first | (go_at_call 21; refine Calls.quiet_of_same (HD.out _)))
    go_wp2_with fail
    exact HQ.out _ _ ⟨b, sb, mb, d, rfl, rfl, P1.out _, rfl, rfl, rfl, rfl, rfl, rfl, trivial⟩
  · have hv := hr1 hE
    subst hv
    clear hr1 hr2
    cases hdd : d.dead with
    | true =>
      have e0 : atE true t d.n = 32 := rfl
      rw [hdd] at c3' HD
      rw [e0]
      clear e0 hE hdd
      generalize (decide (0 ≤ t) && decide (t < (d.n : Int))) = inn at *
      go_wp2_with fail
      go_quiet (first | (go_at_call 21; refine Calls.quiet_of_same (HD.out _)))
      go_wp2_with fail
      exact HQ.out _ _ ⟨b, sb, mb, d, rfl, rfl, P1.out _, rfl, rfl, rfl, rfl, rfl, rfl, trivial⟩
    | false =>
      rw [hdd] at hE
      have hout : t < 0 ∨ (d.n : Int) ≤ t := by
        unfold atE at hE
        by_cases ho : t < 0 ∨ (d.n : Int) ≤ t
        · exact ho
        · simp [ho] at hE
      have hin : (decide (0 ≤ t) && decide (t < (d.n : Int))) = false := by
        rcases hout with e | e
        · simp; omega
        · simp; omega
      have e0 : atE false t d.n = 30 := by unfold atE; simp [hout]
      rw [hdd] at c3' HD
      rw [e0, hin]
      clear e0 hE hdd hin hout
      go_wp2_with fail
      go_quiet (first | (go_at_call 21; refine Calls.quiet_of_same (HD.out _)))
      go_wp2_with fail
      exact HQ.out _ _ ⟨b, sb, mb, d, rfl, rfl, P1.out _, rfl, rfl, rfl, rfl, rfl, rfl, trivial⟩

end Go.Proofs.Ytjmnpfbinjlegaa
