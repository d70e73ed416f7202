/-
  The law DiskPlays: the walk. No statement is proved here; no condition.
-/
import Derived.Test.YtjmnpfbinjlegaaPlayY
namespace Go.Proofs.Ytjmnpfbinjlegaa
open Go.RowKit Go.Maps

theorem BG.drewN {w0 : World} {q sz k : Nat} {vl vs vf : Value} {σ : Nat → Option Value} {w : World} (h : BG w0 q sz k vl vs vf σ w) : BG w0 q sz k vl vs vf σ w.drew := h.stay (Mod.refl No w).drew

/-- The disk that New makes. -/
def d0 (N sz : Nat) : Dk := { n := N, sz := sz, sure := fun _ => List.replicate sz 0, dirty := fun _ => none, cut := -1, dead := false }

theorem BG.md {w0 : World} {q sz N : Nat} {vl vs vf : Value} {w : World} (h : BG w0 q sz N vl vs vf (fun _ => none) w) (h1 : 1 ≤ N) (h2 : N ≤ 4096) (h3 : 64 ≤ sz) (h4 : sz ≤ 4096) :
    ∃ lb sb fb, w0.heap.size ≤ lb ∧ w0.heap.size ≤ sb ∧ w0.heap.size ≤ fb ∧ MdAt w q lb sb fb (d0 N sz) := by
  obtain ⟨lb, lc, lcur, e1, l1, l2, l3, hl⟩ := RowAt.sure (show RowAt w w0.heap.size 33 (Zs sz) vl N from h.l) (by omega)
  obtain ⟨sb, sc, scur, e2, s1, s2, s3, hs⟩ := RowAt.sure (show RowAt w w0.heap.size 33 (Zs sz) vs N from h.s) (by omega)
  obtain ⟨fb, fc, fcur, e3, f1, f2, f3, hf⟩ := RowAt.flags (show RowAt w w0.heap.size 4 Fs vf N from h.f) (by omega)
  have hd : Off vl vs := h.d1
  have hq := h.q
  subst e1 e2 e3
  refine ⟨lb, sb, fb, l1, s1, f1, ⟨lc, sc, fc, 0, hq, fun h => absurd rfl h, l2, l3, s2, s3, f2, f3⟩, ⟨lcur, hl⟩, ⟨scur, hs⟩, ⟨fcur, hf⟩, fun e => hd lb rfl (by rw [e]; rfl), fun i _ => ?_, fun i _ => ?_, h1, h2, h3, h4, show (-1 : Int) ≤ -1 by decide, show (-1 : Int) ≤ 9223372036854775807 by decide⟩
  · show (List.replicate sz (0 : UInt8)).length = sz; simp
  · show (List.replicate sz (0 : UInt8)).length = sz; simp

set_option maxRecDepth 100000 in
set_option maxHeartbeats 4000000 in
theorem plays_any (aa : Option Addr) (la ca : Nat) (l : List ActV) (n size : Int) (w : World) (hacts : ActsIn w aa la l) :
    Calls Try.prog 5 #[.int .i64 n, .int .i64 size, .slice aa la ca] w fun e w' => e = .returned (.bool true) ∧ Mod No w w' := by
  have hla : l.length = la := hacts.len
  have HA := Lib.hid hacts
  clear hacts
  have HK := Lib.hid known3_any
  have HP := Lib.hid place_any
  have HN := Lib.hid disk_new
  refine calls_hide fun R hR => ?_
  rcases Nat.lt_or_ge 60 la with h1 | h1
  · have h1' : (60 : Int) < (la : Int) := by omega
    go_enter Try.func5, Try.ntmps5
    go_wp2_with (go_at_call 7; refine (HK.out _).mono ?_; rintro e w1 ⟨rfl, hm1⟩; have M1 := Lib.hid hm1; clear hm1)
    exact fin hR ⟨rfl, M1.out⟩
  · have h1' : (la : Int) ≤ 60 := by omega
    go_enter Try.func5, Try.ntmps5
    go_wp2_with (go_at_call 7; refine (HK.out _).mono ?_; rintro e w1 ⟨rfl, hm1⟩; have M1 := Lib.hid hm1; clear hm1)
    refine (HP.out n 6 _ (by omega) (by omega)).mono ?_
    rintro e w2 ⟨rfl, rfl⟩
    go_wp2_with fail
    refine (HP.out size 150 _ (by omega) (by omega)).mono ?_
    rintro e w2 ⟨rfl, rfl⟩
    go_wp2_with fail
    have HD := HN.out No (n % 6 - 1) (size % 150) w1 (fun _ f => f.elim)
    obtain ⟨N, hN⟩ : ∃ N : Nat, max (n % 6 - 1) 1 = (N : Int) := Int.eq_ofNat_of_zero_le (by omega)
    obtain ⟨sz, hsz⟩ : ∃ sz : Nat, max (size % 150) 64 = (sz : Int) := Int.eq_ofNat_of_zero_le (by omega)
    have hNb : 1 ≤ N ∧ N ≤ 4 := by omega
    have hsb : 64 ≤ sz ∧ sz ≤ 149 := by omega
    have hdn : Dk.new (n % 6 - 1) (size % 150) = d0 N sz := by
      unfold Dk.new d0
      rw [hN, hsz]
      have e1 : (min (N : Int) 4096).toNat = N := by omega
      have e2 : (min (sz : Int) 4096).toNat = sz := by omega
      rw [e1, e2]
    rw [hdn] at HD
    have HSZ := Lib.hid hsz
    have HNN := Lib.hid hN
    clear hdn hN hsz
    generalize n % 6 - 1 = n' at *
    generalize size % 150 = size' at *
    refine HD.mono ?_
    clear HD
    rintro e w2 ⟨bb, sb, mb, rfl, hb0, hsb0, hmb0, hd2, hm2⟩
    have HS0 := Lib.hid (show 0 < sz by omega)
    have HS1 := Lib.hid (show sz ≤ 4096 by omega)
    have D2 := Lib.hid hd2
    have M2 := Lib.hid hm2
    clear hd2 hm2
    go_wp2_with fail
    generalize hq : w2.heap.size = q
    have hb : BG w2 q sz 0 (.slice none 0 0) (.slice none 0 0) (.slice none 0 0) (fun _ => none) (w2.alloc (.cells #[.slice none 0 0, .slice none 0 0, .slice none 0 0, .bool false, .bool false, .int .i64 0] 48)) :=
      ⟨(Mod.refl No w2).alloc _, heap_at_new _ _ hq.symm, ⟨[], World.ownsRow_nil _ _ _ _, fun j x h => by cases h⟩, ⟨[], World.ownsRow_nil _ _ _ _, fun j x h => by cases h⟩, ⟨[], World.ownsRow_nil _ _ _ _, fun j x h => by cases h⟩,
        (fun _ e => by cases e), (fun _ e => by cases e), (fun _ e => by cases e), (fun _ e => by cases e), (fun _ e => by cases e), (fun _ e => by cases e), (fun _ e => by cases e), (fun _ e => by cases e), (fun _ e => by cases e), (fun _ e => by cases e), (fun _ e => by cases e), (fun _ e => by cases e)⟩
    have HB := Lib.hid hb
    have HQ := Lib.hid hq
    clear hb hq
    go_loopw [9] (fun i wr => ∃ k : Nat, k ≤ N ∧ i = .int .i64 k ∧ ∃ vl vs vf, BG w2 q sz k vl vs vf (fun _ => none) wr) (fun i _ => N - (intOf i).toNat)
    case atStart => exact ⟨0, by omega, rfl, _, _, _, HB.out⟩
    case round =>
      clear HB
      obtain ⟨k, hk, rfl, vl, vs, vf, hb⟩ := hrel
      have HB := Lib.hid hb
      clear hb
      have hn2 := HNN.out
      by_cases hlt : k < N
      · have hk1 : (k : Int) < max n' 1 := by omega
        go_upto_region 11 with fail
        refine wp_region_T (fun _ => True) 35 (by kernel_rfl) ?_
        refine wpAnyT_take 0 (some 45) ?_ rfl rfl (by kernel_rfl) (fun _ _ _ h => h) trivial (Or.inl ⟨by rfl, ?_⟩) ?_
        rotate_left
        · (intro w' hSw; (try dsimp only at hSw); go_simp; try with_reducible rfl)
        simp only [Act.put, List.setIfInBounds_toArray, List.set_cons_zero, List.set_cons_succ]
        refine wpAnyT_take 1 (some 46) ?_ rfl rfl (by kernel_rfl) (fun _ _ _ h => h) trivial (Or.inl ⟨by rfl, ?_⟩) ?_
        rotate_left
        · (intro w' hSw; (try dsimp only at hSw); go_simp; try with_reducible rfl)
        simp only [Act.put, List.setIfInBounds_toArray, List.set_cons_zero, List.set_cons_succ]
        refine wpAnyT_take 2 (some 47) ?_ rfl rfl (by kernel_rfl) (fun _ _ _ h => h) trivial (Or.inl ⟨by rfl, ?_⟩) ?_
        rotate_left
        · (intro w' hSw; (try dsimp only at hSw); go_simp; try with_reducible rfl)
        simp only [Act.put, List.setIfInBounds_toArray, List.set_cons_zero, List.set_cons_succ]
        refine wpAnyT_take 3 (some 48) ?_ rfl rfl (by kernel_rfl) (fun _ _ _ h => h) trivial (Or.inl ⟨by rfl, ?_⟩) ?_
        rotate_left
        · (intro w' hSw; (try dsimp only at hSw); go_simp; try with_reducible rfl)
        simp only [Act.put, List.setIfInBounds_toArray, List.set_cons_zero, List.set_cons_succ]
        refine wpAnyT_take 4 (some 49) ?_ rfl rfl (by kernel_rfl) (fun _ _ _ h => h) trivial (Or.inl ⟨by rfl, ?_⟩) ?_
        rotate_left
        · (intro w' hSw; (try dsimp only at hSw); go_simp; try with_reducible rfl)
        simp only [Act.put, List.setIfInBounds_toArray, List.set_cons_zero, List.set_cons_succ]
        refine wpAnyT_take 5 (some 50) ?_ rfl rfl (by kernel_rfl) (fun _ _ _ h => h) trivial (Or.inl ⟨by rfl, ?_⟩) ?_
        rotate_left
        · (intro w' hSw; (try dsimp only at hSw); go_simp; try with_reducible rfl)
        simp only [Act.put, List.setIfInBounds_toArray, List.set_cons_zero, List.set_cons_succ]
        refine wpAnyT_take 7 (some 52) ?_ rfl rfl (by kernel_rfl) (fun _ _ _ h => h) trivial (Or.inl ⟨by rfl, ?_⟩) ?_
        rotate_left
        · (intro w' hSw; (try dsimp only at hSw); go_simp; try with_reducible rfl)
        simp only [Act.put, List.setIfInBounds_toArray, List.set_cons_zero, List.set_cons_succ]
        refine wpAnyT_take 8 (some 53) ?_ rfl rfl (by kernel_rfl) (fun _ _ _ h => h) trivial (Or.inl ⟨by rfl, ?_⟩) ?_
        rotate_left
        · (intro w' hSw; (try dsimp only at hSw); go_simp; try with_reducible rfl)
        simp only [Act.put, List.setIfInBounds_toArray, List.set_cons_zero, List.set_cons_succ]
        refine wpAnyT_take 12 (some 57) ?_ rfl rfl (by kernel_rfl) (fun _ _ _ h => h) trivial (Or.inl ⟨by rfl, ?_⟩) ?_
        rotate_left
        · (intro w' hSw; (try dsimp only at hSw); go_simp; try with_reducible rfl)
        simp only [Act.put, List.setIfInBounds_toArray, List.set_cons_zero, List.set_cons_succ]
        refine wpAnyT_take 13 (some 58) ?_ rfl rfl (by kernel_rfl) (fun _ _ _ h => h) trivial (Or.inl ⟨by rfl, ?_⟩) ?_
        rotate_left
        · (intro w' hSw; (try dsimp only at hSw); go_simp; try with_reducible rfl)
        simp only [Act.put, List.setIfInBounds_toArray, List.set_cons_zero, List.set_cons_succ]
        refine wpAnyT_take 14 (some 59) ?_ rfl rfl (by kernel_rfl) (fun _ _ _ h => h) trivial (Or.inl ⟨by rfl, ?_⟩) ?_
        rotate_left
        · (intro w' hSw; (try dsimp only at hSw); go_simp; try with_reducible rfl)
        simp only [Act.put, List.setIfInBounds_toArray, List.set_cons_zero, List.set_cons_succ]
        refine wpAnyT_take 16 (some 61) ?_ rfl rfl (by kernel_rfl) (fun _ _ _ h => h) trivial (Or.inl ⟨by rfl, ?_⟩) ?_
        rotate_left
        · (intro w' hSw; (try dsimp only at hSw); go_simp; try with_reducible rfl)
        simp only [Act.put, List.setIfInBounds_toArray, List.set_cons_zero, List.set_cons_succ]
        refine wpAnyT_take 17 (some 62) ?_ rfl rfl (by kernel_rfl) (fun _ _ _ h => h) trivial (Or.inl ⟨by rfl, ?_⟩) ?_
        rotate_left
        · (intro w' hSw; (try dsimp only at hSw); go_simp; try with_reducible rfl)
        simp only [Act.put, List.setIfInBounds_toArray, List.set_cons_zero, List.set_cons_succ]
        refine wpAnyT_take 21 (some 66) ?_ rfl rfl (by kernel_rfl) (fun _ _ _ h => h) trivial (Or.inl ⟨by rfl, ?_⟩) ?_
        rotate_left
        · (intro w' hSw; (try dsimp only at hSw); go_simp; try with_reducible rfl)
        simp only [Act.put, List.setIfInBounds_toArray, List.set_cons_zero, List.set_cons_succ]
        refine wpAnyT_take 22 (some 67) ?_ rfl rfl (by kernel_rfl) (fun _ _ _ h => h) trivial (Or.inl ⟨by rfl, ?_⟩) ?_
        rotate_left
        · (intro w' hSw; (try dsimp only at hSw); go_simp; try with_reducible rfl)
        simp only [Act.put, List.setIfInBounds_toArray, List.set_cons_zero, List.set_cons_succ]
        refine wpAnyT_take 23 (some 68) ?_ rfl rfl (by kernel_rfl) (fun _ _ _ h => h) trivial (Or.inl ⟨by rfl, ?_⟩) ?_
        rotate_left
        · (intro w' hSw; (try dsimp only at hSw); go_simp; try with_reducible rfl)
        simp only [Act.put, List.setIfInBounds_toArray, List.set_cons_zero, List.set_cons_succ]
        refine wpAnyT_bag (fuel := 9) [(6, 51), (9, 54), (10, 55), (11, 56), (15, 60), (18, 63), (19, 64), (20, 65), (24, 69), (25, 70), (26, 71)] (BG w2 q sz k vl vs vf) (by decide) (by decide) (by kernel_rfl) (by decide) (by decide) (fun i h => by simpa using h) ?_ ?_ 11 (fun _ => none) _ rfl (by kernel_rfl) HB.out.drewN
        · intro σ w' j d oj hj h0 hoj hdep hG
          simp only [List.mem_cons, List.not_mem_nil, or_false, Prod.mk.injEq] at hj
          rcases hj with ⟨rfl, rfl⟩ | ⟨rfl, rfl⟩ | ⟨rfl, rfl⟩ | ⟨rfl, rfl⟩ | ⟨rfl, rfl⟩ | ⟨rfl, rfl⟩ | ⟨rfl, rfl⟩ | ⟨rfl, rfl⟩ | ⟨rfl, rfl⟩ | ⟨rfl, rfl⟩ | ⟨rfl, rfl⟩
          · cases hoj
            exact wpOp_of rfl rfl (BG.ld6 hG rfl ((puts_out σ 50 _ _ (by decide)).trans rfl) (fun v w'' hB => ⟨v, rfl, trivial, hB⟩))
          · cases hoj
            exact wpOp_of rfl rfl (BG.mk9 hG HS0.out HS1.out rfl ((puts_out σ 53 _ _ (by decide)).trans (congrArg (Value.int .i64) HSZ.out)) (fun v w'' hB => ⟨v, rfl, trivial, hB⟩))
          · cases hoj
            obtain ⟨v9, h9⟩ := dep_some (hdep ⟨9, .data⟩ (by simp) rfl) (by decide)
            exact wpOp_of rfl rfl (BG.bl10 hG rfl (puts_in _ _ (by decide) (by simp) h9 (by simp)) h9 (fun v w'' hB => ⟨v, rfl, trivial, hB⟩))
          · cases hoj
            obtain ⟨v6, h6⟩ := dep_some (hdep ⟨6, .data⟩ (by simp) rfl) (by decide)
            obtain ⟨v10, h10⟩ := dep_some (hdep ⟨10, .data⟩ (by simp) rfl) (by decide)
            obtain rfl := hG.l6 v6 h6
            exact wpOp_of rfl rfl (BG.app11 (.tmp 51) (.tmp 55) rfl (puts_in _ _ (by decide) (by simp) h6 (by simp)) v10 h10 (puts_in _ _ (by decide) (by simp) h10 (by simp)) hG h0 (by omega) (fun v w'' hB => ⟨v, rfl, trivial, hB⟩))
          · cases hoj
            exact wpOp_of rfl rfl (BG.ld15 hG rfl ((puts_out σ 59 _ _ (by decide)).trans rfl) (fun v w'' hB => ⟨v, rfl, trivial, hB⟩))
          · cases hoj
            exact wpOp_of rfl rfl (BG.mk18 hG HS0.out HS1.out rfl ((puts_out σ 62 _ _ (by decide)).trans (congrArg (Value.int .i64) HSZ.out)) (fun v w'' hB => ⟨v, rfl, trivial, hB⟩))
          · cases hoj
            obtain ⟨v18, h18⟩ := dep_some (hdep ⟨18, .data⟩ (by simp) rfl) (by decide)
            exact wpOp_of rfl rfl (BG.bl19 hG rfl (puts_in _ _ (by decide) (by simp) h18 (by simp)) h18 (fun v w'' hB => ⟨v, rfl, trivial, hB⟩))
          · cases hoj
            obtain ⟨v15, h15⟩ := dep_some (hdep ⟨15, .data⟩ (by simp) rfl) (by decide)
            obtain ⟨v19, h19⟩ := dep_some (hdep ⟨19, .data⟩ (by simp) rfl) (by decide)
            obtain rfl := hG.l15 v15 h15
            exact wpOp_of rfl rfl (BG.app20 (.tmp 60) (.tmp 64) rfl (puts_in _ _ (by decide) (by simp) h15 (by simp)) v19 h19 (puts_in _ _ (by decide) (by simp) h19 (by simp)) hG h0 (by omega) (fun v w'' hB => ⟨v, rfl, trivial, hB⟩))
          · cases hoj
            exact wpOp_of rfl rfl (BG.ld24 hG rfl ((puts_out σ 68 _ _ (by decide)).trans rfl) (fun v w'' hB => ⟨v, rfl, trivial, hB⟩))
          · cases hoj
            exact wpOp_of rfl rfl (BG.bl25 hG rfl rfl (fun v w'' hB => ⟨v, rfl, trivial, hB⟩))
          · cases hoj
            obtain ⟨v24, h24⟩ := dep_some (hdep ⟨24, .data⟩ (by simp) rfl) (by decide)
            obtain ⟨v25, h25⟩ := dep_some (hdep ⟨25, .data⟩ (by simp) rfl) (by decide)
            obtain rfl := hG.l24 v24 h24
            exact wpOp_of rfl rfl (BG.app26 (.tmp 69) (.tmp 70) rfl (puts_in _ _ (by decide) (by simp) h24 (by simp)) v25 h25 (puts_in _ _ (by decide) (by simp) h25 (by simp)) hG h0 (by omega) (fun v w'' hB => ⟨v, rfl, trivial, hB⟩))
        · intro σ w' hall hG
          obtain ⟨v6, h6⟩ := Option.isSome_iff_exists.1 (hall (6, 51) (by simp))
          obtain ⟨v9, h9⟩ := Option.isSome_iff_exists.1 (hall (9, 54) (by simp))
          obtain ⟨v10, h10⟩ := Option.isSome_iff_exists.1 (hall (10, 55) (by simp))
          obtain ⟨v11, h11⟩ := Option.isSome_iff_exists.1 (hall (11, 56) (by simp))
          obtain ⟨v15, h15⟩ := Option.isSome_iff_exists.1 (hall (15, 60) (by simp))
          obtain ⟨v18, h18⟩ := Option.isSome_iff_exists.1 (hall (18, 63) (by simp))
          obtain ⟨v19, h19⟩ := Option.isSome_iff_exists.1 (hall (19, 64) (by simp))
          obtain ⟨v20, h20⟩ := Option.isSome_iff_exists.1 (hall (20, 65) (by simp))
          obtain ⟨v24, h24⟩ := Option.isSome_iff_exists.1 (hall (24, 69) (by simp))
          obtain ⟨v25, h25⟩ := Option.isSome_iff_exists.1 (hall (25, 70) (by simp))
          obtain ⟨v26, h26⟩ := Option.isSome_iff_exists.1 (hall (26, 71) (by simp))
          have hl := hG.l
          have hs := hG.s
          have hf := hG.f
          rw [h11] at hl
          rw [h20] at hs
          rw [h26] at hf
          obtain ⟨xs11, (ho11 : w'.ownsRow w2.heap.size 33 1 v11 (k + 1) xs11), _⟩ := hl.row
          obtain ⟨xs20, (ho20 : w'.ownsRow w2.heap.size 33 1 v20 (k + 1) xs20), _⟩ := hs.row
          obtain ⟨xs26, (ho26 : w'.ownsRow w2.heap.size 4 1 v26 (k + 1) xs26), _⟩ := hf.row
          have hnx := hG.next h11 h20 h26 (by rw [← HQ.out]; exact Nat.le_refl _)
          obtain ⟨g11, c11, rfl, _⟩ := own_shape ho11 (by omega)
          obtain ⟨g20, c20, rfl, _⟩ := own_shape ho20 (by omega)
          obtain ⟨g26, c26, rfl, _⟩ := own_shape ho26 (by omega)
          have c0 := cell_of (i := 0) hG.q rfl
          have f0 := frozen_of 0 hG.q
          have q1 := heap_setCell (i := 0) hG.q (.slice (some ⟨g11, 0, none⟩) (k + 1) c11)
          have c1 := cell_of (i := 1) q1 rfl
          have f1 := frozen_of 1 q1
          have q2 := heap_setCell (i := 1) q1 (.slice (some ⟨g20, 0, none⟩) (k + 1) c20)
          have c2 := cell_of (i := 2) q2 rfl
          have f2 := frozen_of 2 q2
          have HNX := Lib.hid hnx
          simp only [puts, marks, h6, h9, h10, h11, h15, h18, h19, h20, h24, h25, h26]
          clear hnx hG hl hs hf ho11 ho20 ho26 q1 q2 hall h6 h9 h10 h11 h15 h18 h19 h20 h24 h25 h26
          simp only [Act.put, List.setIfInBounds_toArray, List.set_cons_zero, List.set_cons_succ]
          refine wpAnyT_one 27 rfl (by kernel_rfl) rfl ?_
          intro K hK
          go_simp
          show K _ _
          refine hK.out _ _ (fun _ => trivial) ?_
          clear hK K
          refine wpAnyT_one 28 rfl (by kernel_rfl) rfl ?_
          intro K hK
          go_simp
          show K _ _
          refine hK.out _ _ (fun _ => trivial) ?_
          clear hK K
          refine wpAnyT_one 29 rfl (by kernel_rfl) rfl ?_
          intro K hK
          go_simp
          show K _ _
          refine hK.out _ _ (fun _ => trivial) ?_
          clear hK K
          refine wpAnyT_one 30 rfl (by kernel_rfl) rfl ?_
          intro K hK
          go_simp
          show K _ _
          refine hK.out _ _ (fun _ => trivial) ?_
          clear hK K
          refine wpAnyT_one 31 rfl (by kernel_rfl) rfl ?_
          intro K hK
          go_simp
          show K _ _
          refine hK.out _ _ (fun _ => trivial) ?_
          clear hK K
          refine wpAnyT_one 32 rfl (by kernel_rfl) rfl ?_
          intro K hK
          go_simp
          show K _ _
          refine hK.out _ _ (fun _ => trivial) ?_
          clear hK K
          refine wpAnyT_one 33 rfl (by kernel_rfl) rfl ?_
          intro K hK
          go_simp
          show K _ _
          refine hK.out _ _ (fun _ => trivial) ?_
          clear hK K
          refine wpAnyT_one 34 rfl (by kernel_rfl) rfl ?_
          intro K hK
          go_simp
          show K _ _
          refine hK.out _ _ (fun _ => trivial) ?_
          clear hK K
          refine wpAnyT_one 35 rfl (by kernel_rfl) rfl ?_
          intro K hK
          go_simp
          show K _ _
          refine hK.out _ _ (fun h => absurd rfl h) ?_
          clear hK K
          refine wpAnyT_done (by kernel_rfl) ?_ _
          go_wp2_with fail
          exact ⟨⟨k + 1, by omega, by go_num, _, _, _, HNX.out⟩, by go_light; simp only [intOf]; omega⟩
      · have hkn : k = N := by omega
        subst hkn
        obtain ⟨lb, sb', fb, hlb, hsb', hfb, hmd⟩ := HB.out.md hNb.1 (by omega) hsb.1 (by omega)
        have D3 := Lib.hid (D2.out.stay HB.out.mod)
        have MD3 := Lib.hid hmd
        have M3 := Lib.hid (HB.out.mod)
        clear hmd HB
        obtain ⟨lc, sc, fc, nn, (ho : wr.heap[q]? = some (.cells #[.slice (some ⟨lb, 0, none⟩) k lc, .slice (some ⟨sb', 0, none⟩) k sc, .slice (some ⟨fb, 0, none⟩) k fc, .bool false, .bool (decide ((-1 : Int) ≠ -1)), .int .i64 nn] 48 (0, 0))), _⟩ := MD3.out.obj
        have c0 := cell_of (i := 0) ho rfl
        have hsec : ∀ nq, Calls Try.prog 9 #[.pointer (some ⟨bb, 0, none⟩)] (wr.drewN nq) fun e w' => e = .returned (.int .i64 (k : Int)) ∧ w' = wr.drewN nq := fun nq =>
          (sectors_ok (D3.out.stay ((Mod.refl No wr).drewN nq))).mono fun e w' ⟨h1, h2⟩ => ⟨h1, h2.symm⟩
        have hsiz : ∀ nq, Calls Try.prog 10 #[.pointer (some ⟨bb, 0, none⟩)] (wr.drewN nq) fun e w' => e = .returned (.int .i64 (sz : Int)) ∧ w' = wr.drewN nq := fun nq =>
          (size_ok (D3.out.stay ((Mod.refl No wr).drewN nq))).mono fun e w' ⟨h1, h2⟩ => ⟨h1, h2.symm⟩
        have HSEC := Lib.hid hsec
        have HSIZ := Lib.hid hsiz
        have hsz2 := HSZ.out
        clear hsec hsiz ho
        go_upto_region 12 with fail
        go_quiet (first | (go_at_call 9; refine Calls.quiet_of_same (HSEC.out _)) | (go_at_call 10; refine Calls.quiet_of_same (HSIZ.out _)))
        go_upto_block 2 with fail
        have hpl : ∀ nq, Pl w (wr.drewN nq) bb sb mb q lb sb' fb (d0 k sz) (d0 k sz) := fun nq => by
          have e1 := M1.out.size
          have e2 := M2.out.size
          have e3 := HQ.out
          refine ⟨D3.out.stay ((Mod.refl No wr).drewN nq), MD3.out.stay ((Mod.refl No wr).drewN nq), ((M1.out.trans M2.out).trans M3.out).drewN nq, ?_, ?_, ?_⟩
          · rintro x (rfl | rfl | rfl) <;> omega
          · rintro x (rfl | rfl | rfl | rfl) <;> omega
          · have hx : ∀ x, Own3 bb sb mb x → x < w2.heap.size := fun x hx => D2.out.lt hx
            intro x h3 h4
            have := hx x h3
            rcases h4 with r | r | r | r <;> omega
        have HPL := Lib.hid hpl
        clear hpl D3 MD3 M3 HSEC HSIZ M1 M2 D2 c0
        have hacts0 := HA.out
        refine wp_only (loop_any w _ aa la ca l hacts0 h1 bb sb mb q lb sb' fb (d0 k sz) (show k ≤ 4 by omega) _ (HPL.out _) ⟨rfl, rfl, rfl, rfl, rfl, rfl, trivial⟩) ?_
        rintro a' w' ⟨hm, hF⟩
        obtain ⟨ts, ds⟩ := a'
        obtain ⟨hsz, hds, -⟩ := hF
        dsimp only at hsz hds 
        subst hds
        obtain ⟨c, rfl, hc⟩ := lit344 ts hsz
        clear hc hsz 

        have HM := Lib.hid hm
        clear hm HPL HA hacts0
        go_wp2_with fail
        exact fin hR ⟨rfl, HM.out⟩

end Go.Proofs.Ytjmnpfbinjlegaa
