/-
  Layer 4, the log: open's sectors, put together. No statement is proved here; no condition.
-/
import Derived.Test.YtnchclleiccofaaWalC
import Derived.Test.YtnchclleiccofaaFr
namespace Go.Proofs.Ytnchclleiccofaa
open Go.RowKit

theorem own_keepM {S : Nat → Prop} {w w' : World} {base : Nat} {e : TypeId} {size : Nat} {v : Value} {n : Nat} {xs : List Value} (h : w.ownsRow base e size v n xs) (hm : Mod S w w') (hs : ∀ k, v.ownBlock = some k → ¬ S k) : w'.ownsRow base e size v n xs := by
  obtain ⟨hl, h | ⟨g, cap, cur, hv, hg, hh, r⟩⟩ := h
  · exact ⟨hl, .inl h⟩
  · exact ⟨hl, .inr ⟨g, cap, cur, hv, hg, hm.keep hh (hs g (by rw [hv]; rfl)), r⟩⟩

/-- A part of a slice, whatever its capacity is said to be. -/
theorem Sl.part {X : Nat → Prop} {w : World} {e : TypeId} {b o n c : Nat} {xs : List Value} (h : Sl w X e (.slice (some ⟨b, o, none⟩) n c) n xs) (hx : xs.length = n) (i m c' : Nat) (hm : i + m ≤ n) (h1 : m ≤ c') (h2 : c' ≤ maxLen) :
    Sl w X e (.slice (some ⟨b, o + i, none⟩) m c') m ((xs.drop i).take m) := by
  rcases h with ⟨h, _⟩ | ⟨blk, o', c0, cur, fz, hv, hn, hc, hX, hh, hl, hr⟩
  · cases h
  · cases hv
    refine .inr ⟨b, o + i, c', cur, fz, rfl, h1, h2, hX, hh, ?_, fun j hj => ?_⟩
    · rw [List.length_take, List.length_drop]; omega
    · rw [List.length_take, List.length_drop] at hj
      rw [List.getElem?_take, if_pos (by omega), List.getElem?_drop, ← hr (i + j) (by omega)]
      congr 1; omega

theorem bv_append (a b : List UInt8) : bv (a ++ b) = bv a ++ bv b := by simp [bv]

theorem rdAll_succ (S : Nat → List UInt8) (base size k : Nat) : rdAll S base size (k + 1) = rdAll S base size k ++ (S (base + k)).take size := by
  unfold rdAll
  rw [List.range_succ, List.flatMap_append]
  simp

theorem rdAll_le {S : Nat → List UInt8} {base size : Nat} : ∀ k, (rdAll S base size k).length ≤ k * size
  | 0 => by simp [rdAll]
  | k + 1 => by
    have := rdAll_le (S := S) (base := base) (size := size) k
    rw [rdAll_succ, List.length_append, Nat.succ_mul]
    have := List.length_take_le size (S (base + k))
    omega

set_option maxRecDepth 100000 in
theorem lit135 (t : Array Value) (h : t.size = 135) : ∃ c : Nat → Value, t = #[c 0, c 1, c 2, c 3, c 4, c 5, c 6, c 7, c 8, c 9, c 10, c 11, c 12, c 13, c 14, c 15, c 16, c 17, c 18, c 19, c 20, c 21, c 22, c 23, c 24, c 25, c 26, c 27, c 28, c 29, c 30, c 31, c 32, c 33, c 34, c 35, c 36, c 37, c 38, c 39, c 40, c 41, c 42, c 43, c 44, c 45, c 46, c 47, c 48, c 49, c 50, c 51, c 52, c 53, c 54, c 55, c 56, c 57, c 58, c 59, c 60, c 61, c 62, c 63, c 64, c 65, c 66, c 67, c 68, c 69, c 70, c 71, c 72, c 73, c 74, c 75, c 76, c 77, c 78, c 79, c 80, c 81, c 82, c 83, c 84, c 85, c 86, c 87, c 88, c 89, c 90, c 91, c 92, c 93, c 94, c 95, c 96, c 97, c 98, c 99, c 100, c 101, c 102, c 103, c 104, c 105, c 106, c 107, c 108, c 109, c 110, c 111, c 112, c 113, c 114, c 115, c 116, c 117, c 118, c 119, c 120, c 121, c 122, c 123, c 124, c 125, c 126, c 127, c 128, c 129, c 130, c 131, c 132, c 133, c 134] ∧ ∀ i, t.getD i undef = c i := by
  refine ⟨fun i => t.getD i undef, ?_, fun _ => rfl⟩
  have h1 := arr_lits t
  rw [h] at h1
  exact h1.trans (by kernel_rfl)

theorem DkAt.lenL {w : World} {X : Nat → Prop} {b sb mb : Nat} {d : Dk} (h : DkAt w X b sb mb d) {i : Nat} (hi : i < d.n) : (d.last i).length = d.sz := by
  have h1 := h.lenS i hi
  have h2 := h.lenD i
  unfold Dk.last
  cases e : d.dirty i with
  | none => exact h1
  | some l => exact h2 l hi e

noncomputable def open49 : Code := Try.f49.body.getD .skip
noncomputable def secs49 : Code := (blockAt 0 open49).getD .skip

set_option maxRecDepth 100000 in
set_option maxHeartbeats 1600000 in
theorem secs_any {b sb mb p : Nat} {d : Dk} {w : World} (side at_ beh : Nat) (v va vn vt vx : Value) (f : Act) (base : Nat) (hs : side < 2) (ha : at_ < beh) (hbh : beh ≤ d.n / 2) (hw : Well d) (h : DkAt w (fun k => base ≤ k) b sb mb d) (h3 : ∀ k, Own3 b sb mb k → k < base) (hp : p < base) (c0 : w.cell? ⟨p, 0, none⟩ = some (.pointer (some ⟨b, 0, none⟩)))
    (hbase : base ≤ w.heap.size) (hown : w.ownsRow base 5 1 v (rdAll d.last (side * (d.n / 2) + at_) (d.sz - 16) 1).length (bv (rdAll d.last (side * (d.n / 2) + at_) (d.sz - 16) 1)))
    (hF : Fr 135 [(0, .pointer (some ⟨p, 0, none⟩)), (1, .int .i64 (side : Int)), (2, va), (3, vx), (12, v), (14, vt), (15, vn), (16, .int .i64 (beh : Int)), (17, .int .i64 ((at_ : Int) + 1))] f) :
    Code.wp Try.prog secs49 (Exit.then (fun a' w' => (∃ v', w'.ownsRow base 5 1 v' (rdAll d.last (side * (d.n / 2) + at_) (d.sz - 16) (beh - at_)).length (bv (rdAll d.last (side * (d.n / 2) + at_) (d.sz - 16) (beh - at_))) ∧
      Fr 135 [(0, .pointer (some ⟨p, 0, none⟩)), (1, .int .i64 (side : Int)), (2, va), (3, vx), (12, v'), (14, vt), (15, vn), (16, .int .i64 (beh : Int))] a') ∧ Mod (fun k => base ≤ k) w w') Nope) f w := by
  obtain ⟨i0, hi, hz0, hz1, hz2⟩ := info_parts info_u8
  refine wp_part fun J K' hJ hK => ?_
  obtain ⟨ts, ds⟩ := f
  obtain ⟨hsz, hds, hs0, hs1, hs2, hs3, hs12, hs14, hs15, hs16, hs17, -⟩ := hF
  dsimp only at hsz hds hs0 hs1 hs2 hs3 hs12 hs14 hs15 hs16 hs17
  subst hds
  obtain ⟨c, rfl, hc⟩ := lit135 ts hsz
  rw [hc] at hs0
  rw [hc] at hs1
  rw [hc] at hs2
  rw [hc] at hs3
  rw [hc] at hs12
  rw [hc] at hs14
  rw [hc] at hs15
  rw [hc] at hs16
  rw [hc] at hs17
  simp only [hs0, hs1, hs2, hs3, hs12, hs14, hs15, hs16, hs17]
  clear hc hsz hs0 hs1 hs2 hs3 hs12 hs14 hs15 hs16 hs17

  have HJ := Lib.hid hJ
  have HO := Lib.hid hown
  have HD := Lib.hid h
  have HW := Lib.hid hw
  have hn2 : d.n ≤ 4096 := h.n2
  have hz1' : 64 ≤ d.sz := h.s1
  have hz2' : d.sz ≤ 4096 := h.s2
  have hlenX := fun k => Lib.hid (rdAll_le (S := d.last) (base := side * (d.n / 2) + at_) (size := d.sz - 16) k)
  have HL := Lib.hid hlenX
  have HC := Lib.hid c0
  clear hJ hown h hw hlenX c0
  generalize hm : d.sz - 16 = m at *
  generalize hk : d.n / 2 = H at *
  have hm1 : 48 ≤ m := by omega
  have hm2 : m ≤ 4080 := by omega
  have hH : H ≤ 2048 := by omega
  have HM := Lib.hid hm
  have HK := Lib.hid hk
  clear hm hk hn2
  conv => arg 2; whnf
  go_wp2_with fail
  go_loopw [12, 17] (fun u i wr => ∃ k : Nat, at_ + k ≤ beh ∧ 1 ≤ k ∧ i = .int .i64 ((at_ : Int) + (k : Int)) ∧ wr.ownsRow base 5 1 u (rdAll d.last (side * H + at_) m k).length (bv (rdAll d.last (side * H + at_) m k)) ∧ Mod (fun k => base ≤ k) w wr) (fun _ i _ => beh - (intOf i).toNat)
  case atStart => exact ⟨1, by omega, by omega, rfl, HO.out, Mod.refl _ _⟩
  case round =>
    clear HO
    obtain ⟨k, hk1, hk2, rfl, hown, hmod⟩ := hrel
    have HM1 := Lib.hid hmod
    have hd1 := HD.out.keep hmod (fun e => by have := h3 b (.inl rfl); omega) (fun e => by have := h3 sb (.inr (.inl rfl)); omega) (fun e => by have := h3 mb (.inr (.inr rfl)); omega) (fun k hk => .inl hk)
    have hc1 := hmod.cell HC.out (fun e => by dsimp only at e; omega)
    by_cases hlt : at_ + k < beh
    · have hi1 : (at_ : Int) + (k : Int) < (beh : Int) := by omega
      have HSEC := sector_yes (p := p) side (at_ + k) hs (by rw [HK.out]; omega) HW.out hd1 hc1
      rw [HK.out] at HSEC
      have HSEC := Lib.hid HSEC
      have HO := Lib.hid hown
      have HD1 := Lib.hid hd1
      have HC1 := Lib.hid hc1
      have hL := (HL.out k).out
      have hL2 : (rdAll d.last (side * H + at_) m k).length ≤ 2048 * 4080 := Nat.le_trans hL (Nat.mul_le_mul (by omega) hm2)
      have HLEN := Lib.hid (hd1.lenL (i := side * H + (at_ + k)) (by
        have h1 : side = 0 ∨ side = 1 := by omega
        have := HK.out
        rcases h1 with g | g
        · subst g; omega
        · subst g; omega))
      clear hown hmod hd1 hc1 hL
      rw [Int.natCast_add] at HSEC
      go_wp2_with fail
      refine HSEC.out.mono ?_
      clear HSEC
      rintro e w1 ⟨v1, rfl, hm1, ho1⟩
      obtain ⟨g, cap, rfl, hgb⟩ := own_shape ho1 (by omega)
      have hsl := Sl.of_own (X := No) ho1 (fun _ _ f => f)
      have hmsz : m ≤ d.sz := by have := HM.out; omega
      obtain ⟨g', o', c', hsh, hcap1, hcap2, _⟩ := hsl.shape (by omega)
      cases hsh
      have hsl2 := hsl.takeN (m := m) (by rw [bv_length, HLEN.out]) (by omega)
      rw [← bv_take] at hsl2
      have hmc : (m : Int) ≤ (cap : Int) := by omega
      have HS2 := Lib.hid hsl2
      have HSZ := lsize_any (HD1.out.stay hm1) (hm1.cell HC1.out (fun f => f))
      rw [HM.out] at HSZ
      have HSZ := Lib.hid HSZ
      have HO1 := Lib.hid (own_keepM HO.out hm1 (fun _ _ f => f))
      have HM2 := Lib.hid (HM1.out.trans (hm1.weaken fun _ _ f => f.elim))
      have htl : ((d.last (side * H + (at_ + k))).take m).length = m := by rw [List.length_take, HLEN.out]; omega
      have HTL := Lib.hid htl
      have hbw : base ≤ w1.heap.size := by have := HM2.out.size; omega
      clear hsl hsl2 ho1 HD1 HC1 HO htl
      go_wp2_with fail
      refine HSZ.out.mono ?_
      clear HSZ
      rintro e w2 ⟨rfl, h2⟩
      subst h2
      go_wp2_with (at_builtin; refine app_sl _ rfl _ _ 33 rfl base 5 i0 (.int .u8 0) 1 1 Try.underlying33 hi hz0 hz1 hz2 rfl (by decide) _ _ _ rfl HO1.out No 5 _ _ _ rfl HS2.out ?_ (bv_one _) ?_ ?_ hbw ?_)
      · rw [bv_length, HTL.out, Nat.mul_one]
      · unfold maxLen; omega
      · omega
      intro v' w2 hown2 hg2 _
      have hnew := rdAll_succ d.last (side * H + at_) m k
      rw [Nat.add_assoc] at hnew
      have HO2 := Lib.hid (show w2.ownsRow base 5 1 v' (rdAll d.last (side * H + at_) m (k + 1)).length (bv (rdAll d.last (side * H + at_) m (k + 1))) by
        rw [hnew, List.length_append, HTL.out, bv_append]; exact hown2)
      have HM3 := Lib.hid (HM2.out.trans (Mod.of_grown (S := fun q => base ≤ q) hg2 (fun q e _ => (HO1.out.lt _ e).1)))
      clear hown2 hg2 hnew
      go_wp2_with fail
      exact ⟨⟨k + 1, by omega, by omega, by go_num, HO2.out, HM3.out⟩, by go_light; simp only [intOf]; omega⟩
    · have hkn : beh - at_ = k := by omega
      have hnlt : ¬ (at_ : Int) + (k : Int) < (beh : Int) := by omega
      rw [hkn] at HJ
      clear hd1 hc1
      have HO := Lib.hid hown
      clear hown hmod
      go_wp2_with fail
      exact Met.intro (HJ.out _ _ ⟨⟨_, HO.out, rfl, rfl, rfl, rfl, rfl, rfl, rfl, rfl, rfl, rfl, trivial⟩, HM1.out⟩)

end Go.Proofs.Ytnchclleiccofaa
