/-
  LatchPlays: for every input the law returns true, and its arguments read as they did. No conditions beyond the given statement's own.
-/
import Derived.Test.YtkeopmfmlciadaaGreatJLatch
import Derived.Test.YtkeopmfmlciadaaGreatJBase
import Derived.Deep.Slices
import Derived.Deep.Fields
import Derived.ProofKit
import Derived.OpenShut
import Derived.ShutString
import Derived.ChangeOld
namespace Go.Proofs.YtkeopmfmlciadaaGreat
open Go.RowKit Go.Maps Go.Sort Go.ChangeShapes Go.WideShapes Go.ChangeAt

theorem refuse_off (hs : Option (Nat × Nat)) (ow : Int) (E : Nat) : refuse hs false ow E = false := by
  cases hs with
  | none => rfl
  | some p => rfl

theorem refuse_mine (o E : Nat) : refuse (some (o, E)) true (o : Int) E = true := by simp [refuse]

theorem left_off (ow o : Int) : leftB false ow o = false := rfl
theorem left_it (o : Int) : leftB true o o = false := by simp [leftB]
theorem left_not (ow o : Int) (h : ¬ ow = o) : leftB true ow o = true := by simp [leftB, h]

theorem add_atL (b o i : Nat) : (⟨b, o, none⟩ : Addr).add i = ⟨b, o + i, none⟩ := by
  unfold Addr.add
  split
  · rename_i h; subst h; rfl
  · rfl

theorem cellsL {w : World} {base b o c : Nat} {cs : List Value} (h : w.cells? base (⟨b, o, none⟩ : Addr) c = some cs) : cs.length = c ∧ ∀ j u, cs[j]? = some u → w.cell? ⟨b, o + j, none⟩ = some u := by
  obtain ⟨_, hlen, hcell⟩ := World.cells?_some h
  refine ⟨hlen, fun j u hj => ?_⟩
  have hj7 : j < c := by have := (List.getElem?_eq_some_iff.1 hj).1; omega
  have := hcell j hj7
  rw [hj, add_atL] at this
  exact this

/-- A script's acts. -/
structure LsIn (w : World) (a : Option Addr) (n : Nat) (l : List (Nat × Nat)) : Prop where
  len : l.length = n
  at_ : ∀ i (hi : i < l.length), ∃ b o, a = some ⟨b, o, none⟩ ∧ w.cell? ⟨b, o + i * 2, none⟩ = some (.int .u8 (l[i].1 : Nat)) ∧ w.cell? ⟨b, o + i * 2 + 1, none⟩ = some (.int .u8 (l[i].2 : Nat))
  low : ∀ p ∈ l, p.1 < 256 ∧ p.2 < 256

set_option maxRecDepth 100000 in
theorem l25_open {H : Type} {enc : TypeId × Value → H} {w : World} {base : Nat} {held : Bool} {n : Nat} {cs : List Value} {x : DataW H × List MemPlace} (h : DataW.trod enc Tryz.prog w base (fun _ => true) held n 66 cs = some x) :
    ∃ v : Nat × Nat, cs = [.int .u8 (v.1 : Nat), .int .u8 (v.2 : Nat)] ∧ v.1 < 256 ∧ v.2 < 256 := by
  obtain ⟨xs, m, _, rfl, hlen, hxl, hf⟩ := DataW.trod_struct Tryz.underlying66 h
  have hx : xs.length = 2 := hxl
  have hc : cs.length = 2 := hlen.trans (by kernel_rfl)
  match cs, hc with
  | [c0, c1], _ =>
    have e5 : Tryz.prog.cellsOf 5 = 1 := by kernel_rfl
    have g0 : DataW.trod enc Tryz.prog w base (fun _ => true) held m 5 (([c0, c1].drop 0).take (Tryz.prog.cellsOf 5)) = xs[0]? := hf 0 _ rfl
    rw [e5, List.getElem?_eq_getElem (by omega)] at g0
    have g1 : DataW.trod enc Tryz.prog w base (fun _ => true) held m 5 (([c0, c1].drop 1).take (Tryz.prog.cellsOf 5)) = xs[1]? := hf 1 _ rfl
    rw [e5, List.getElem?_eq_getElem (by omega)] at g1
    obtain ⟨n0, z0, _, w0⟩ := DataW.trod_int Tryz.underlying5 g0
    obtain ⟨n1, z1, _, w1⟩ := DataW.trod_int Tryz.underlying5 g1
    simp only [List.drop_zero, List.drop_succ_cons, List.take_succ_cons, List.take_zero, List.cons.injEq, and_true] at z0 z1
    subst z0 z1
    obtain ⟨k, rfl⟩ := byte_of n0 w0
    obtain ⟨m, rfl⟩ := byte_of n1 w1
    exact ⟨(k.toNat, m.toNat), rfl, k.toNat_lt, m.toNat_lt⟩

set_option maxRecDepth 100000 in
theorem ls25_open {H : Type} {enc : TypeId × Value → H} {w : World} {base : Nat} {held : Bool} {fuel : Nat} {cs : List Value} {x : DataW H × List MemPlace}
    (h : DataW.trod enc Tryz.prog w base (fun _ => true) held fuel 64 cs = some x) : ∃ a len cap, ∃ l : List (Nat × Nat), cs = [.slice a len cap] ∧ LsIn w a len l := by
  rcases Go.Deep.open_slice Tryz.underlying64 h with ⟨hcs, _⟩ | ⟨ad, len, cap, m, n, D, Pl, hcs, _, hl, _, hm, _, hx⟩
  · exact ⟨none, 0, 0, [], hcs, rfl, fun i hi => absurd hi (Nat.not_lt_zero i), fun p hp => by cases hp⟩
  · have hlm : len ≤ m := by rw [hm]; split <;> omega
    obtain ⟨b, o, sp⟩ := ad
    have e7 : Tryz.prog.cellsOf 66 = 2 := by kernel_rfl
    have hsp : 0 < len → sp = none := fun h0 => by
      obtain ⟨cs', h1, _⟩ := hx 0 (by omega)
      rw [e7] at h1
      obtain ⟨_, hlen, hcell⟩ := World.cells?_some h1
      have h2 := hcell 0 (by omega)
      rw [List.getElem?_eq_getElem (by omega)] at h2
      simpa [Addr.add] using World.cell?_spot h2
    have key : ∀ i, i < len → ∃ v : Nat × Nat, sp = none ∧ w.cell? ⟨b, o + i * 2, none⟩ = some (.int .u8 (v.1 : Nat)) ∧ w.cell? ⟨b, o + i * 2 + 1, none⟩ = some (.int .u8 (v.2 : Nat)) ∧ v.1 < 256 ∧ v.2 < 256 := fun i hi => by
      obtain ⟨cs', h1, h2⟩ := hx i (by omega)
      have hs := hsp (by omega)
      subst hs
      rw [e7, add_atL] at h1
      obtain ⟨v, rfl, hk, hn⟩ := l25_open h2
      exact ⟨v, rfl, (cellsL h1).2 0 _ rfl, (cellsL h1).2 1 _ rfl, hk, hn⟩
    obtain ⟨f, hf⟩ := Go.Deep.choose_lt key
    refine ⟨some ⟨b, o, sp⟩, len, cap, (List.range len).map f, hcs, by simp, fun i hi => ?_, fun p hp => ?_⟩
    · have hi' : i < len := by simpa using hi
      obtain ⟨hs, hc0, hc1, _⟩ := hf i hi'
      refine ⟨b, o, by rw [hs], ?_⟩
      simpa using And.intro hc0 hc1
    · obtain ⟨i, hi, rfl⟩ := List.mem_map.1 hp
      exact (hf i (List.mem_range.1 hi)).2.2.2

/-- The loop's state. -/
def Pl25 (w wr : World) (b i s x : Nat) (ev hv ov nv : Value) : Prop :=
  ∃ (E : Nat) (hs : Option (Nat × Nat)) (held : Bool) (ow : Int) (X : Nat → Prop), ev = .int .i64 (E : Int) ∧ 1 ≤ E ∧ E ≤ i + 1 ∧ Ly w wr 800 512 b s E hs false (3 + 10 * i) (3 + 10 * i) X ∧ X x ∧ LtAt wr x s E ow held ∧
    ((held = true ∧ ∃ o : Nat, o < 3 ∧ ow = (o : Int) ∧ hs = some (o, E) ∧ hv = .int .i64 (o : Int) ∧ ov = .int .i64 (o : Int) ∧ nv = .int .i64 (E : Int)) ∨
     (held = false ∧ hv = .int .i64 (-1) ∧ ((hs = none ∧ ov = .int .i64 (-1) ∧ nv = .int .i64 0) ∨ ∃ o e : Nat, o < 3 ∧ 1 ≤ e ∧ e ≤ 1000 ∧ hs = some (o, e) ∧ ov = .int .i64 (o : Int) ∧ nv = .int .i64 (e : Int))))

set_option maxRecDepth 100000 in
set_option maxHeartbeats 16000000 in
theorem plays25_walk (aa : Option Addr) (la ca : Nat) (l : List (Nat × Nat)) {w : World} (hl : LsIn w aa la l) :
    Calls Tryz.prog 9 #[.slice aa la ca] w fun e w' => e = .returned (.bool true) ∧ Mod No w w' := by
  refine calls_hide fun R hR => ?_
  have HA := Lib.hid hl
  obtain rfl := hl.len
  clear hl
  go_enter Tryz.func9, Tryz.ntmps9
  go_wp2_with fail
  with_reducible refine (known25_any w).mono ?_
  rintro e w0 ⟨rfl, hm0⟩
  have HM0 := Lib.hid hm0
  clear hm0
  by_cases h40 : 40 < l.length
  · have q : (40 : Int) < (l.length : Int) := by omega
    go_wp2_with fail
    exact fin hR ⟨rfl, HM0.out⟩
  have q : (l.length : Int) ≤ 40 := by omega
  go_wp2_with fail
  with_reducible refine (disk_new No 800 512 w0 (no_lt5 w0)).mono ?_
  rintro e w1 ⟨b, sb, mb, rfl, hb1, hb2, hb3, hd1, hm1⟩
  have HD1 := Lib.hid (show DkAt w1 No b sb mb (Dk.new 800 512) ∧ (w.heap.size ≤ b ∧ w.heap.size ≤ sb ∧ w.heap.size ≤ mb) ∧ Mod No w w1 from ⟨hd1, by have := HM0.out.size; omega, HM0.out.trans hm1⟩)
  clear hb1 hb2 hb3 hd1 hm1
  go_wp2_with fail
  with_reducible refine (Sto.first (w0 := w) (n := 800) (z := 512) (N := 800) (sz := 512) (by decide) (by decide) (by decide) (by decide) HD1.out.1 HD1.out.2.1 HD1.out.2.2).mono ?_
  rintro e w2 ⟨s, O, rfl, hs2, -, -⟩
  have HY2 := Lib.hid (Ly.first hs2)
  clear hs2 HD1 HM0
  go_wp2_with fail
  with_reducible refine (HY2.out.open_ (by decide) (by decide) (by decide) (by decide) (by decide)).mono ?_
  rintro e w3 ⟨x, rfl, hy3, hx3, -, -⟩
  have HP3 := Lib.hid (show Pl25 w w3 b 0 s x (.int .i64 1) (.int .i64 (-1)) (.int .i64 (-1)) (.int .i64 0) from
    ⟨1, none, false, 0, _, rfl, by decide, by decide, hy3.more (by decide) (by decide), .inr rfl, hx3, .inr ⟨rfl, rfl, .inl ⟨rfl, rfl, rfl⟩⟩⟩)
  clear hy3 hx3 HY2
  go_wp2_with fail
  go_loopw [4, 6, 8, 9, 10, 11, 12] (fun sv xv ev hv ov nv iv wr => ∃ i s x : Nat, i ≤ l.length ∧ iv = .int .i64 i ∧ sv = .pointer (some ⟨s, 0, none⟩) ∧ xv = .pointer (some ⟨x, 0, none⟩) ∧ Pl25 w wr b i s x ev hv ov nv) (fun _ _ _ _ _ _ iv _ => 41 - (intOf iv).toNat)
  case atStart => exact ⟨0, s, x, by omega, rfl, rfl, rfl, HP3.out⟩
  case round =>
    clear HP3
    obtain ⟨i, s, x, hi, rfl, rfl, rfl, E, hs, held, ow, X, rfl, hE1, hE2, hy, hX, hx, hst⟩ := hrel
    have hi0 : (0 : Int) ≤ (i : Int) := Int.natCast_nonneg _
    have HY := Lib.hid hy
    have HX := Lib.hid hx
    have HXX := Lib.hid hX
    clear hy hx hX
    by_cases hlt : i < l.length
    · have hi1 : (i : Int) < (l.length : Int) := by omega
      obtain ⟨ab, ao, rfl, c0, c1⟩ := HA.out.at_ i hlt
      have c0 := HY.out.mod.cell c0 (fun f => f)
      have c1 := HY.out.mod.cell c1 (fun f => f)
      generalize (l[i]).1 = wh at *
      generalize (l[i]).2 = on at *
      obtain ⟨o, ho⟩ : ∃ o, o = on % 3 := ⟨_, rfl⟩
      have ho3 : o < 3 := by rw [ho]; exact Nat.mod_lt _ (by omega)
      have hoI : (on : Int) % 3 = (o : Int) := by omega
      have hoW : IntKind.i64.wrap (o : Int) = (o : Int) := by rw [IntKind.wrap_i64]; omega
      obtain ⟨k, hk⟩ : ∃ k, k = wh % 7 := ⟨_, rfl⟩
      have hk7 : k < 7 := by rw [hk]; exact Nat.mod_lt _ (by omega)
      have hkI : (wh : Int) % 7 = (k : Int) := by omega
      have ho0 : (0 : Int) ≤ (o : Int) := Int.natCast_nonneg _
      have ho1 : (o : Int) < 3 := by omega
      have hEI : (1 : Int) ≤ (E : Int) := by omega
      have hEJ : (E : Int) ≤ 100 := by omega
      clear ho hk
      rcases hst with ⟨rfl, o1, ho1', rfl, rfl, rfl, rfl, rfl⟩ | ⟨rfl, rfl, ⟨rfl, rfl, rfl⟩ | ⟨o1, e1, ho1', he1, he2, rfl, rfl, rfl⟩⟩
      · skip
        have hk6 : k = 0 ∨ k = 1 ∨ k = 2 ∨ k = 3 ∨ k = 4 ∨ k = 5 ∨ k = 6 := by omega
        clear hk7
        rcases hk6 with rfl | rfl | rfl | rfl | rfl | rfl | rfl
        · have hkI : (wh : Int) % 7 = 0 := hkI
          have HT := Lib.hid (HY.out.try_no HX.out (refuse_mine o1 E) (o : Int))
          go_wp2_with fail
          with_reducible refine HT.out.mono ?_
          clear HT
          rintro e wt ⟨rfl, hmt⟩
          have HYT := Lib.hid (HY.out.stay hmt)
          have HXT := Lib.hid (HX.out.stay hmt)
          clear hmt HY HX
          obtain ⟨wz, hwz⟩ : ∃ wz, wz = wt := ⟨_, rfl⟩
          rw [← hwz] at HYT HXT ⊢
          clear hwz
          have HHO := Lib.hid (show Calls Tryz.prog 30 #[.pointer (some ⟨x, 0, none⟩)] wz fun e w' => e = .returned (.tuple #[.int .i64 (o1 : Int), .int .i64 (E : Int), .bool true]) ∧ Mod No wz w' from HYT.out.holder HXT.out)
          go_wp2_with fail
          with_reducible refine HHO.out.mono ?_
          clear HHO
          rintro e wy ⟨rfl, hmy⟩
          have HYY := Lib.hid (HYT.out.stay hmy)
          have HXY := Lib.hid (HXT.out.stay hmy)
          have HEP := Lib.hid (lepoch_any HXY.out)
          clear hmy HYT HXT
          go_wp2_with fail
          with_reducible refine HEP.out.mono ?_
          clear HEP
          rintro e wx ⟨rfl, h2⟩
          subst h2
          go_wp2_with fail
          exact ⟨⟨i + 1, s, x, by omega, by go_num, rfl, rfl, _, _, _, _, _, rfl, by omega, by omega, HYY.out.more (by omega) (by omega), HXX.out, HXY.out, .inl ⟨rfl, o1, by omega, rfl, rfl, rfl, rfl, rfl⟩⟩, by go_light; simp only [intOf]; omega⟩
        · have hkI : (wh : Int) % 7 = 1 := hkI
          have HT := Lib.hid (HY.out.try_no HX.out (refuse_mine o1 E) (o : Int))
          go_wp2_with fail
          with_reducible refine HT.out.mono ?_
          clear HT
          rintro e wt ⟨rfl, hmt⟩
          have HYT := Lib.hid (HY.out.stay hmt)
          have HXT := Lib.hid (HX.out.stay hmt)
          clear hmt HY HX
          obtain ⟨wz, hwz⟩ : ∃ wz, wz = wt := ⟨_, rfl⟩
          rw [← hwz] at HYT HXT ⊢
          clear hwz
          have HHO := Lib.hid (show Calls Tryz.prog 30 #[.pointer (some ⟨x, 0, none⟩)] wz fun e w' => e = .returned (.tuple #[.int .i64 (o1 : Int), .int .i64 (E : Int), .bool true]) ∧ Mod No wz w' from HYT.out.holder HXT.out)
          go_wp2_with fail
          with_reducible refine HHO.out.mono ?_
          clear HHO
          rintro e wy ⟨rfl, hmy⟩
          have HYY := Lib.hid (HYT.out.stay hmy)
          have HXY := Lib.hid (HXT.out.stay hmy)
          have HEP := Lib.hid (lepoch_any HXY.out)
          clear hmy HYT HXT
          go_wp2_with fail
          with_reducible refine HEP.out.mono ?_
          clear HEP
          rintro e wx ⟨rfl, h2⟩
          subst h2
          go_wp2_with fail
          exact ⟨⟨i + 1, s, x, by omega, by go_num, rfl, rfl, _, _, _, _, _, rfl, by omega, by omega, HYY.out.more (by omega) (by omega), HXX.out, HXY.out, .inl ⟨rfl, o1, by omega, rfl, rfl, rfl, rfl, rfl⟩⟩, by go_light; simp only [intOf]; omega⟩
        · have hkI : (wh : Int) % 7 = 2 := hkI
          have HT := Lib.hid (HY.out.try_no HX.out (refuse_mine o1 E) (o : Int))
          go_wp2_with fail
          with_reducible refine HT.out.mono ?_
          clear HT
          rintro e wt ⟨rfl, hmt⟩
          have HYT := Lib.hid (HY.out.stay hmt)
          have HXT := Lib.hid (HX.out.stay hmt)
          clear hmt HY HX
          obtain ⟨wz, hwz⟩ : ∃ wz, wz = wt := ⟨_, rfl⟩
          rw [← hwz] at HYT HXT ⊢
          clear hwz
          have HHO := Lib.hid (show Calls Tryz.prog 30 #[.pointer (some ⟨x, 0, none⟩)] wz fun e w' => e = .returned (.tuple #[.int .i64 (o1 : Int), .int .i64 (E : Int), .bool true]) ∧ Mod No wz w' from HYT.out.holder HXT.out)
          go_wp2_with fail
          with_reducible refine HHO.out.mono ?_
          clear HHO
          rintro e wy ⟨rfl, hmy⟩
          have HYY := Lib.hid (HYT.out.stay hmy)
          have HXY := Lib.hid (HXT.out.stay hmy)
          have HEP := Lib.hid (lepoch_any HXY.out)
          clear hmy HYT HXT
          go_wp2_with fail
          with_reducible refine HEP.out.mono ?_
          clear HEP
          rintro e wx ⟨rfl, h2⟩
          subst h2
          go_wp2_with fail
          exact ⟨⟨i + 1, s, x, by omega, by go_num, rfl, rfl, _, _, _, _, _, rfl, by omega, by omega, HYY.out.more (by omega) (by omega), HXX.out, HXY.out, .inl ⟨rfl, o1, by omega, rfl, rfl, rfl, rfl, rfl⟩⟩, by go_light; simp only [intOf]; omega⟩
        · have hkI : (wh : Int) % 7 = 3 := hkI
          have HL := Lib.hid (HY.out.leave (o := (o : Int)) HX.out HXX.out)
          by_cases hoo : o1 = o
          · subst hoo
            go_wp2_with fail
            with_reducible refine HL.out.mono ?_
            clear HL
            rintro e wt ⟨rfl, hyt, hxt, -⟩
            rw [left_it] at hxt
            have HYT := Lib.hid hyt
            have HXT := Lib.hid hxt
            clear hyt hxt HY HX
            obtain ⟨wz, hwz⟩ : ∃ wz, wz = wt := ⟨_, rfl⟩
            rw [← hwz] at HYT HXT ⊢
            clear hwz
            have HHO := Lib.hid (show Calls Tryz.prog 30 #[.pointer (some ⟨x, 0, none⟩)] wz fun e w' => e = .returned (.tuple #[.int .i64 (o1 : Int), .int .i64 (E : Int), .bool true]) ∧ Mod No wz w' from HYT.out.holder HXT.out)
            go_wp2_with fail
            with_reducible refine HHO.out.mono ?_
            clear HHO
            rintro e wy ⟨rfl, hmy⟩
            have HYY := Lib.hid (HYT.out.stay hmy)
            have HXY := Lib.hid (HXT.out.stay hmy)
            have HEP := Lib.hid (lepoch_any HXY.out)
            clear hmy HYT HXT
            go_wp2_with fail
            with_reducible refine HEP.out.mono ?_
            clear HEP
            rintro e wx ⟨rfl, h2⟩
            subst h2
            go_wp2_with fail
            exact ⟨⟨i + 1, s, x, by omega, by go_num, rfl, rfl, _, _, _, _, _, rfl, by omega, by omega, HYY.out.more (by omega) (by omega), HXX.out, HXY.out, .inr ⟨rfl, rfl, .inr ⟨o1, E, by omega, by omega, by omega, rfl, rfl, rfl⟩⟩⟩, by go_light; simp only [intOf]; omega⟩
          · have hooI : ((o1 : Int) == (o : Int)) = false := by rw [beq_eq_false_iff_ne]; omega
            have hooJ : ¬ (o1 : Int) = (o : Int) := by omega
            go_wp2_with fail
            with_reducible refine HL.out.mono ?_
            clear HL
            rintro e wt ⟨rfl, hyt, hxt, -⟩
            rw [left_not _ _ hooJ] at hxt
            have HYT := Lib.hid hyt
            have HXT := Lib.hid hxt
            clear hyt hxt HY HX
            obtain ⟨wz, hwz⟩ : ∃ wz, wz = wt := ⟨_, rfl⟩
            rw [← hwz] at HYT HXT ⊢
            clear hwz
            have HHO := Lib.hid (show Calls Tryz.prog 30 #[.pointer (some ⟨x, 0, none⟩)] wz fun e w' => e = .returned (.tuple #[.int .i64 (o1 : Int), .int .i64 (E : Int), .bool true]) ∧ Mod No wz w' from HYT.out.holder HXT.out)
            go_wp2_with fail
            with_reducible refine HHO.out.mono ?_
            clear HHO
            rintro e wy ⟨rfl, hmy⟩
            have HYY := Lib.hid (HYT.out.stay hmy)
            have HXY := Lib.hid (HXT.out.stay hmy)
            have HEP := Lib.hid (lepoch_any HXY.out)
            clear hmy HYT HXT
            go_wp2_with fail
            with_reducible refine HEP.out.mono ?_
            clear HEP
            rintro e wx ⟨rfl, h2⟩
            subst h2
            go_wp2_with fail
            exact ⟨⟨i + 1, s, x, by omega, by go_num, rfl, rfl, _, _, _, _, _, rfl, by omega, by omega, HYY.out.more (by omega) (by omega), HXX.out, HXY.out, .inl ⟨rfl, o1, by omega, rfl, rfl, rfl, rfl, rfl⟩⟩, by go_light; simp only [intOf]; omega⟩
        · have hkI : (wh : Int) % 7 = 4 := hkI
          have HL := Lib.hid (HY.out.leave (o := (o : Int)) HX.out HXX.out)
          by_cases hoo : o1 = o
          · subst hoo
            go_wp2_with fail
            with_reducible refine HL.out.mono ?_
            clear HL
            rintro e wt ⟨rfl, hyt, hxt, -⟩
            rw [left_it] at hxt
            have HYT := Lib.hid hyt
            have HXT := Lib.hid hxt
            clear hyt hxt HY HX
            obtain ⟨wz, hwz⟩ : ∃ wz, wz = wt := ⟨_, rfl⟩
            rw [← hwz] at HYT HXT ⊢
            clear hwz
            have HHO := Lib.hid (show Calls Tryz.prog 30 #[.pointer (some ⟨x, 0, none⟩)] wz fun e w' => e = .returned (.tuple #[.int .i64 (o1 : Int), .int .i64 (E : Int), .bool true]) ∧ Mod No wz w' from HYT.out.holder HXT.out)
            go_wp2_with fail
            with_reducible refine HHO.out.mono ?_
            clear HHO
            rintro e wy ⟨rfl, hmy⟩
            have HYY := Lib.hid (HYT.out.stay hmy)
            have HXY := Lib.hid (HXT.out.stay hmy)
            have HEP := Lib.hid (lepoch_any HXY.out)
            clear hmy HYT HXT
            go_wp2_with fail
            with_reducible refine HEP.out.mono ?_
            clear HEP
            rintro e wx ⟨rfl, h2⟩
            subst h2
            go_wp2_with fail
            exact ⟨⟨i + 1, s, x, by omega, by go_num, rfl, rfl, _, _, _, _, _, rfl, by omega, by omega, HYY.out.more (by omega) (by omega), HXX.out, HXY.out, .inr ⟨rfl, rfl, .inr ⟨o1, E, by omega, by omega, by omega, rfl, rfl, rfl⟩⟩⟩, by go_light; simp only [intOf]; omega⟩
          · have hooI : ((o1 : Int) == (o : Int)) = false := by rw [beq_eq_false_iff_ne]; omega
            have hooJ : ¬ (o1 : Int) = (o : Int) := by omega
            go_wp2_with fail
            with_reducible refine HL.out.mono ?_
            clear HL
            rintro e wt ⟨rfl, hyt, hxt, -⟩
            rw [left_not _ _ hooJ] at hxt
            have HYT := Lib.hid hyt
            have HXT := Lib.hid hxt
            clear hyt hxt HY HX
            obtain ⟨wz, hwz⟩ : ∃ wz, wz = wt := ⟨_, rfl⟩
            rw [← hwz] at HYT HXT ⊢
            clear hwz
            have HHO := Lib.hid (show Calls Tryz.prog 30 #[.pointer (some ⟨x, 0, none⟩)] wz fun e w' => e = .returned (.tuple #[.int .i64 (o1 : Int), .int .i64 (E : Int), .bool true]) ∧ Mod No wz w' from HYT.out.holder HXT.out)
            go_wp2_with fail
            with_reducible refine HHO.out.mono ?_
            clear HHO
            rintro e wy ⟨rfl, hmy⟩
            have HYY := Lib.hid (HYT.out.stay hmy)
            have HXY := Lib.hid (HXT.out.stay hmy)
            have HEP := Lib.hid (lepoch_any HXY.out)
            clear hmy HYT HXT
            go_wp2_with fail
            with_reducible refine HEP.out.mono ?_
            clear HEP
            rintro e wx ⟨rfl, h2⟩
            subst h2
            go_wp2_with fail
            exact ⟨⟨i + 1, s, x, by omega, by go_num, rfl, rfl, _, _, _, _, _, rfl, by omega, by omega, HYY.out.more (by omega) (by omega), HXX.out, HXY.out, .inl ⟨rfl, o1, by omega, rfl, rfl, rfl, rfl, rfl⟩⟩, by go_light; simp only [intOf]; omega⟩
        · have hkI : (wh : Int) % 7 = 5 := hkI
          have HRO := Lib.hid (HY.out.reopen (by omega))
          go_wp2_with fail
          with_reducible refine HRO.out.mono ?_
          clear HRO
          rintro e wo ⟨s', rfl, hyo, -⟩
          have HO := Lib.hid (hyo.open_ (by decide) (by decide) (by omega) (by omega) (by omega))
          clear hyo HY HX
          go_wp2_with fail
          with_reducible refine HO.out.mono ?_
          clear HO
          rintro e wt ⟨x', rfl, hyt, hxt, -, -⟩
          have HYT := Lib.hid hyt
          have HXT := Lib.hid hxt
          clear hyt hxt
          obtain ⟨wz, hwz⟩ : ∃ wz, wz = wt := ⟨_, rfl⟩
          rw [← hwz] at HYT HXT ⊢
          clear hwz
          have HHO := Lib.hid (show Calls Tryz.prog 30 #[.pointer (some ⟨x', 0, none⟩)] wz fun e w' => e = .returned (.tuple #[.int .i64 (o1 : Int), .int .i64 (E : Int), .bool true]) ∧ Mod No wz w' from HYT.out.holder HXT.out)
          go_wp2_with fail
          with_reducible refine HHO.out.mono ?_
          clear HHO
          rintro e wy ⟨rfl, hmy⟩
          have HYY := Lib.hid (HYT.out.stay hmy)
          have HXY := Lib.hid (HXT.out.stay hmy)
          have HEP := Lib.hid (lepoch_any HXY.out)
          clear hmy HYT HXT
          go_wp2_with fail
          with_reducible refine HEP.out.mono ?_
          clear HEP
          rintro e wx ⟨rfl, h2⟩
          subst h2
          go_wp2_with fail
          exact ⟨⟨i + 1, s', x', by omega, by go_num, rfl, rfl, _, _, _, _, _, by go_num, by omega, by omega, HYY.out.more (by omega) (by omega), (.inr rfl), HXY.out, .inr ⟨rfl, rfl, .inr ⟨o1, E, by omega, by omega, by omega, rfl, rfl, rfl⟩⟩⟩, by go_light; simp only [intOf]; omega⟩
        · have hkI : (wh : Int) % 7 = 6 := hkI
          go_wp2_with fail
          exact ⟨⟨i + 1, s, x, by omega, by go_num, rfl, rfl, _, _, _, _, _, rfl, by omega, by omega, HY.out.more (by omega) (by omega), HXX.out, HX.out, .inl ⟨rfl, o1, by omega, rfl, rfl, rfl, rfl, rfl⟩⟩, by go_light; simp only [intOf]; omega⟩
      · skip
        have hk6 : k = 0 ∨ k = 1 ∨ k = 2 ∨ k = 3 ∨ k = 4 ∨ k = 5 ∨ k = 6 := by omega
        clear hk7
        rcases hk6 with rfl | rfl | rfl | rfl | rfl | rfl | rfl
        · have hkI : (wh : Int) % 7 = 0 := hkI
          have HT := Lib.hid (HY.out.try_yes (by decide) (by decide) (by omega) (by omega) HX.out HXX.out (by omega) (refuse_off _ _ _) o (by omega))
          go_wp2_with fail
          with_reducible refine HT.out.mono ?_
          clear HT
          rintro e wt ⟨rfl, hyt, hxt, -⟩
          have HYT := Lib.hid hyt
          have HXT := Lib.hid hxt
          clear hyt hxt HY HX
          obtain ⟨wz, hwz⟩ : ∃ wz, wz = wt := ⟨_, rfl⟩
          rw [← hwz] at HYT HXT ⊢
          clear hwz
          have HHO := Lib.hid (show Calls Tryz.prog 30 #[.pointer (some ⟨x, 0, none⟩)] wz fun e w' => e = .returned (.tuple #[.int .i64 (o : Int), .int .i64 (E : Int), .bool true]) ∧ Mod No wz w' from HYT.out.holder HXT.out)
          go_wp2_with fail
          with_reducible refine HHO.out.mono ?_
          clear HHO
          rintro e wy ⟨rfl, hmy⟩
          have HYY := Lib.hid (HYT.out.stay hmy)
          have HXY := Lib.hid (HXT.out.stay hmy)
          have HEP := Lib.hid (lepoch_any HXY.out)
          clear hmy HYT HXT
          go_wp2_with fail
          with_reducible refine HEP.out.mono ?_
          clear HEP
          rintro e wx ⟨rfl, h2⟩
          subst h2
          go_wp2_with fail
          exact ⟨⟨i + 1, s, x, by omega, by go_num, rfl, rfl, _, _, _, _, _, rfl, by omega, by omega, HYY.out.more (by omega) (by omega), HXX.out, HXY.out, .inl ⟨rfl, o, by omega, rfl, rfl, rfl, rfl, rfl⟩⟩, by go_light; simp only [intOf]; omega⟩
        · have hkI : (wh : Int) % 7 = 1 := hkI
          have HT := Lib.hid (HY.out.try_yes (by decide) (by decide) (by omega) (by omega) HX.out HXX.out (by omega) (refuse_off _ _ _) o (by omega))
          go_wp2_with fail
          with_reducible refine HT.out.mono ?_
          clear HT
          rintro e wt ⟨rfl, hyt, hxt, -⟩
          have HYT := Lib.hid hyt
          have HXT := Lib.hid hxt
          clear hyt hxt HY HX
          obtain ⟨wz, hwz⟩ : ∃ wz, wz = wt := ⟨_, rfl⟩
          rw [← hwz] at HYT HXT ⊢
          clear hwz
          have HHO := Lib.hid (show Calls Tryz.prog 30 #[.pointer (some ⟨x, 0, none⟩)] wz fun e w' => e = .returned (.tuple #[.int .i64 (o : Int), .int .i64 (E : Int), .bool true]) ∧ Mod No wz w' from HYT.out.holder HXT.out)
          go_wp2_with fail
          with_reducible refine HHO.out.mono ?_
          clear HHO
          rintro e wy ⟨rfl, hmy⟩
          have HYY := Lib.hid (HYT.out.stay hmy)
          have HXY := Lib.hid (HXT.out.stay hmy)
          have HEP := Lib.hid (lepoch_any HXY.out)
          clear hmy HYT HXT
          go_wp2_with fail
          with_reducible refine HEP.out.mono ?_
          clear HEP
          rintro e wx ⟨rfl, h2⟩
          subst h2
          go_wp2_with fail
          exact ⟨⟨i + 1, s, x, by omega, by go_num, rfl, rfl, _, _, _, _, _, rfl, by omega, by omega, HYY.out.more (by omega) (by omega), HXX.out, HXY.out, .inl ⟨rfl, o, by omega, rfl, rfl, rfl, rfl, rfl⟩⟩, by go_light; simp only [intOf]; omega⟩
        · have hkI : (wh : Int) % 7 = 2 := hkI
          have HT := Lib.hid (HY.out.try_yes (by decide) (by decide) (by omega) (by omega) HX.out HXX.out (by omega) (refuse_off _ _ _) o (by omega))
          go_wp2_with fail
          with_reducible refine HT.out.mono ?_
          clear HT
          rintro e wt ⟨rfl, hyt, hxt, -⟩
          have HYT := Lib.hid hyt
          have HXT := Lib.hid hxt
          clear hyt hxt HY HX
          obtain ⟨wz, hwz⟩ : ∃ wz, wz = wt := ⟨_, rfl⟩
          rw [← hwz] at HYT HXT ⊢
          clear hwz
          have HHO := Lib.hid (show Calls Tryz.prog 30 #[.pointer (some ⟨x, 0, none⟩)] wz fun e w' => e = .returned (.tuple #[.int .i64 (o : Int), .int .i64 (E : Int), .bool true]) ∧ Mod No wz w' from HYT.out.holder HXT.out)
          go_wp2_with fail
          with_reducible refine HHO.out.mono ?_
          clear HHO
          rintro e wy ⟨rfl, hmy⟩
          have HYY := Lib.hid (HYT.out.stay hmy)
          have HXY := Lib.hid (HXT.out.stay hmy)
          have HEP := Lib.hid (lepoch_any HXY.out)
          clear hmy HYT HXT
          go_wp2_with fail
          with_reducible refine HEP.out.mono ?_
          clear HEP
          rintro e wx ⟨rfl, h2⟩
          subst h2
          go_wp2_with fail
          exact ⟨⟨i + 1, s, x, by omega, by go_num, rfl, rfl, _, _, _, _, _, rfl, by omega, by omega, HYY.out.more (by omega) (by omega), HXX.out, HXY.out, .inl ⟨rfl, o, by omega, rfl, rfl, rfl, rfl, rfl⟩⟩, by go_light; simp only [intOf]; omega⟩
        · have hkI : (wh : Int) % 7 = 3 := hkI
          have HL := Lib.hid (HY.out.leave (o := (o : Int)) HX.out HXX.out)
          go_wp2_with fail
          with_reducible refine HL.out.mono ?_
          clear HL
          rintro e wt ⟨rfl, hyt, hxt, -⟩
          rw [left_off] at hxt
          have HYT := Lib.hid hyt
          have HXT := Lib.hid hxt
          clear hyt hxt HY HX
          obtain ⟨wz, hwz⟩ : ∃ wz, wz = wt := ⟨_, rfl⟩
          rw [← hwz] at HYT HXT ⊢
          clear hwz
          have HHO := Lib.hid (show Calls Tryz.prog 30 #[.pointer (some ⟨x, 0, none⟩)] wz fun e w' => e = .returned (.tuple #[.int .i64 0, .int .i64 0, .bool false]) ∧ Mod No wz w' from HYT.out.holder HXT.out)
          go_wp2_with fail
          with_reducible refine HHO.out.mono ?_
          clear HHO
          rintro e wy ⟨rfl, hmy⟩
          have HYY := Lib.hid (HYT.out.stay hmy)
          have HXY := Lib.hid (HXT.out.stay hmy)
          have HEP := Lib.hid (lepoch_any HXY.out)
          clear hmy HYT HXT
          go_wp2_with fail
          with_reducible refine HEP.out.mono ?_
          clear HEP
          rintro e wx ⟨rfl, h2⟩
          subst h2
          go_wp2_with fail
          exact ⟨⟨i + 1, s, x, by omega, by go_num, rfl, rfl, _, _, _, _, _, rfl, by omega, by omega, HYY.out.more (by omega) (by omega), HXX.out, HXY.out, .inr ⟨rfl, rfl, .inl ⟨rfl, rfl, rfl⟩⟩⟩, by go_light; simp only [intOf]; omega⟩
        · have hkI : (wh : Int) % 7 = 4 := hkI
          have HL := Lib.hid (HY.out.leave (o := (o : Int)) HX.out HXX.out)
          go_wp2_with fail
          with_reducible refine HL.out.mono ?_
          clear HL
          rintro e wt ⟨rfl, hyt, hxt, -⟩
          rw [left_off] at hxt
          have HYT := Lib.hid hyt
          have HXT := Lib.hid hxt
          clear hyt hxt HY HX
          obtain ⟨wz, hwz⟩ : ∃ wz, wz = wt := ⟨_, rfl⟩
          rw [← hwz] at HYT HXT ⊢
          clear hwz
          have HHO := Lib.hid (show Calls Tryz.prog 30 #[.pointer (some ⟨x, 0, none⟩)] wz fun e w' => e = .returned (.tuple #[.int .i64 0, .int .i64 0, .bool false]) ∧ Mod No wz w' from HYT.out.holder HXT.out)
          go_wp2_with fail
          with_reducible refine HHO.out.mono ?_
          clear HHO
          rintro e wy ⟨rfl, hmy⟩
          have HYY := Lib.hid (HYT.out.stay hmy)
          have HXY := Lib.hid (HXT.out.stay hmy)
          have HEP := Lib.hid (lepoch_any HXY.out)
          clear hmy HYT HXT
          go_wp2_with fail
          with_reducible refine HEP.out.mono ?_
          clear HEP
          rintro e wx ⟨rfl, h2⟩
          subst h2
          go_wp2_with fail
          exact ⟨⟨i + 1, s, x, by omega, by go_num, rfl, rfl, _, _, _, _, _, rfl, by omega, by omega, HYY.out.more (by omega) (by omega), HXX.out, HXY.out, .inr ⟨rfl, rfl, .inl ⟨rfl, rfl, rfl⟩⟩⟩, by go_light; simp only [intOf]; omega⟩
        · have hkI : (wh : Int) % 7 = 5 := hkI
          have HRO := Lib.hid (HY.out.reopen (by omega))
          go_wp2_with fail
          with_reducible refine HRO.out.mono ?_
          clear HRO
          rintro e wo ⟨s', rfl, hyo, -⟩
          have HO := Lib.hid (hyo.open_ (by decide) (by decide) (by omega) (by omega) (by omega))
          clear hyo HY HX
          go_wp2_with fail
          with_reducible refine HO.out.mono ?_
          clear HO
          rintro e wt ⟨x', rfl, hyt, hxt, -, -⟩
          have HYT := Lib.hid hyt
          have HXT := Lib.hid hxt
          clear hyt hxt
          obtain ⟨wz, hwz⟩ : ∃ wz, wz = wt := ⟨_, rfl⟩
          rw [← hwz] at HYT HXT ⊢
          clear hwz
          have HHO := Lib.hid (show Calls Tryz.prog 30 #[.pointer (some ⟨x', 0, none⟩)] wz fun e w' => e = .returned (.tuple #[.int .i64 0, .int .i64 0, .bool false]) ∧ Mod No wz w' from HYT.out.holder HXT.out)
          go_wp2_with fail
          with_reducible refine HHO.out.mono ?_
          clear HHO
          rintro e wy ⟨rfl, hmy⟩
          have HYY := Lib.hid (HYT.out.stay hmy)
          have HXY := Lib.hid (HXT.out.stay hmy)
          have HEP := Lib.hid (lepoch_any HXY.out)
          clear hmy HYT HXT
          go_wp2_with fail
          with_reducible refine HEP.out.mono ?_
          clear HEP
          rintro e wx ⟨rfl, h2⟩
          subst h2
          go_wp2_with fail
          exact ⟨⟨i + 1, s', x', by omega, by go_num, rfl, rfl, _, _, _, _, _, by go_num, by omega, by omega, HYY.out.more (by omega) (by omega), (.inr rfl), HXY.out, .inr ⟨rfl, rfl, .inl ⟨rfl, rfl, rfl⟩⟩⟩, by go_light; simp only [intOf]; omega⟩
        · have hkI : (wh : Int) % 7 = 6 := hkI
          have HPA := Lib.hid (lpair_any (x := x) (w := wr))
          go_wp2_with fail
          with_reducible refine HPA.out.mono ?_
          clear HPA
          rintro e wp ⟨rfl, hmp⟩
          obtain ⟨wq, hwq⟩ : ∃ wq, wq = wp.alloc (.cells #[.string ⟨#[108, 47, 104, 111, 108, 100, 101, 114]⟩, .string ⟨#[]⟩, .bool true] 32) := ⟨_, rfl⟩
          obtain ⟨g, hg⟩ : ∃ g, g = wp.heap.size := ⟨_, rfl⟩
          have hgq : wq.heap[g]? = some (.cells #[.string ⟨keyH.toArray⟩, .string ⟨#[]⟩, .bool true] 32 (0, 0)) := by rw [hwq, hg]; exact heap_alloc_new _ _
          have hmq : Mod No wr wq := by rw [hwq]; exact hmp.alloc _
          have HTK := Lib.hid ((HY.out.stay hmq).takes (by decide) (by decide) (by omega) (by omega) hgq)
          have HXQ := Lib.hid (HX.out.stay hmq)
          have HG := Lib.hid hg
          have HWQ := Lib.hid hwq
          clear hmp hwq hg hgq hmq HY HX
          go_wp2_with (rw [← HWQ.out, ← HG.out])
          with_reducible refine HTK.out.mono ?_
          clear HTK HWQ HG
          rintro e wt ⟨rfl, hyt, hmt⟩
          have HYT := Lib.hid hyt
          have HXT := Lib.hid (HXQ.out.keep hmt (fun f => f HXX.out))
          clear hyt hmt HXQ
          obtain ⟨wz, hwz⟩ : ∃ wz, wz = wt := ⟨_, rfl⟩
          rw [← hwz] at HYT HXT ⊢
          clear hwz
          have HHO := Lib.hid (show Calls Tryz.prog 30 #[.pointer (some ⟨x, 0, none⟩)] wz fun e w' => e = .returned (.tuple #[.int .i64 0, .int .i64 0, .bool false]) ∧ Mod No wz w' from HYT.out.holder HXT.out)
          go_wp2_with fail
          with_reducible refine HHO.out.mono ?_
          clear HHO
          rintro e wy ⟨rfl, hmy⟩
          have HYY := Lib.hid (HYT.out.stay hmy)
          have HXY := Lib.hid (HXT.out.stay hmy)
          have HEP := Lib.hid (lepoch_any HXY.out)
          clear hmy HYT HXT
          go_wp2_with fail
          with_reducible refine HEP.out.mono ?_
          clear HEP
          rintro e wx ⟨rfl, h2⟩
          subst h2
          go_wp2_with fail
          exact ⟨⟨i + 1, s, x, by omega, by go_num, rfl, rfl, _, _, _, _, _, rfl, by omega, by omega, HYY.out.more (by omega) (by omega), HXX.out, HXY.out, .inr ⟨rfl, rfl, .inl ⟨rfl, rfl, rfl⟩⟩⟩, by go_light; simp only [intOf]; omega⟩
      · skip
        have hk6 : k = 0 ∨ k = 1 ∨ k = 2 ∨ k = 3 ∨ k = 4 ∨ k = 5 ∨ k = 6 := by omega
        clear hk7
        rcases hk6 with rfl | rfl | rfl | rfl | rfl | rfl | rfl
        · have hkI : (wh : Int) % 7 = 0 := hkI
          have HT := Lib.hid (HY.out.try_yes (by decide) (by decide) (by omega) (by omega) HX.out HXX.out (by omega) (refuse_off _ _ _) o (by omega))
          go_wp2_with fail
          with_reducible refine HT.out.mono ?_
          clear HT
          rintro e wt ⟨rfl, hyt, hxt, -⟩
          have HYT := Lib.hid hyt
          have HXT := Lib.hid hxt
          clear hyt hxt HY HX
          obtain ⟨wz, hwz⟩ : ∃ wz, wz = wt := ⟨_, rfl⟩
          rw [← hwz] at HYT HXT ⊢
          clear hwz
          have HHO := Lib.hid (show Calls Tryz.prog 30 #[.pointer (some ⟨x, 0, none⟩)] wz fun e w' => e = .returned (.tuple #[.int .i64 (o : Int), .int .i64 (E : Int), .bool true]) ∧ Mod No wz w' from HYT.out.holder HXT.out)
          go_wp2_with fail
          with_reducible refine HHO.out.mono ?_
          clear HHO
          rintro e wy ⟨rfl, hmy⟩
          have HYY := Lib.hid (HYT.out.stay hmy)
          have HXY := Lib.hid (HXT.out.stay hmy)
          have HEP := Lib.hid (lepoch_any HXY.out)
          clear hmy HYT HXT
          go_wp2_with fail
          with_reducible refine HEP.out.mono ?_
          clear HEP
          rintro e wx ⟨rfl, h2⟩
          subst h2
          go_wp2_with fail
          exact ⟨⟨i + 1, s, x, by omega, by go_num, rfl, rfl, _, _, _, _, _, rfl, by omega, by omega, HYY.out.more (by omega) (by omega), HXX.out, HXY.out, .inl ⟨rfl, o, by omega, rfl, rfl, rfl, rfl, rfl⟩⟩, by go_light; simp only [intOf]; omega⟩
        · have hkI : (wh : Int) % 7 = 1 := hkI
          have HT := Lib.hid (HY.out.try_yes (by decide) (by decide) (by omega) (by omega) HX.out HXX.out (by omega) (refuse_off _ _ _) o (by omega))
          go_wp2_with fail
          with_reducible refine HT.out.mono ?_
          clear HT
          rintro e wt ⟨rfl, hyt, hxt, -⟩
          have HYT := Lib.hid hyt
          have HXT := Lib.hid hxt
          clear hyt hxt HY HX
          obtain ⟨wz, hwz⟩ : ∃ wz, wz = wt := ⟨_, rfl⟩
          rw [← hwz] at HYT HXT ⊢
          clear hwz
          have HHO := Lib.hid (show Calls Tryz.prog 30 #[.pointer (some ⟨x, 0, none⟩)] wz fun e w' => e = .returned (.tuple #[.int .i64 (o : Int), .int .i64 (E : Int), .bool true]) ∧ Mod No wz w' from HYT.out.holder HXT.out)
          go_wp2_with fail
          with_reducible refine HHO.out.mono ?_
          clear HHO
          rintro e wy ⟨rfl, hmy⟩
          have HYY := Lib.hid (HYT.out.stay hmy)
          have HXY := Lib.hid (HXT.out.stay hmy)
          have HEP := Lib.hid (lepoch_any HXY.out)
          clear hmy HYT HXT
          go_wp2_with fail
          with_reducible refine HEP.out.mono ?_
          clear HEP
          rintro e wx ⟨rfl, h2⟩
          subst h2
          go_wp2_with fail
          exact ⟨⟨i + 1, s, x, by omega, by go_num, rfl, rfl, _, _, _, _, _, rfl, by omega, by omega, HYY.out.more (by omega) (by omega), HXX.out, HXY.out, .inl ⟨rfl, o, by omega, rfl, rfl, rfl, rfl, rfl⟩⟩, by go_light; simp only [intOf]; omega⟩
        · have hkI : (wh : Int) % 7 = 2 := hkI
          have HT := Lib.hid (HY.out.try_yes (by decide) (by decide) (by omega) (by omega) HX.out HXX.out (by omega) (refuse_off _ _ _) o (by omega))
          go_wp2_with fail
          with_reducible refine HT.out.mono ?_
          clear HT
          rintro e wt ⟨rfl, hyt, hxt, -⟩
          have HYT := Lib.hid hyt
          have HXT := Lib.hid hxt
          clear hyt hxt HY HX
          obtain ⟨wz, hwz⟩ : ∃ wz, wz = wt := ⟨_, rfl⟩
          rw [← hwz] at HYT HXT ⊢
          clear hwz
          have HHO := Lib.hid (show Calls Tryz.prog 30 #[.pointer (some ⟨x, 0, none⟩)] wz fun e w' => e = .returned (.tuple #[.int .i64 (o : Int), .int .i64 (E : Int), .bool true]) ∧ Mod No wz w' from HYT.out.holder HXT.out)
          go_wp2_with fail
          with_reducible refine HHO.out.mono ?_
          clear HHO
          rintro e wy ⟨rfl, hmy⟩
          have HYY := Lib.hid (HYT.out.stay hmy)
          have HXY := Lib.hid (HXT.out.stay hmy)
          have HEP := Lib.hid (lepoch_any HXY.out)
          clear hmy HYT HXT
          go_wp2_with fail
          with_reducible refine HEP.out.mono ?_
          clear HEP
          rintro e wx ⟨rfl, h2⟩
          subst h2
          go_wp2_with fail
          exact ⟨⟨i + 1, s, x, by omega, by go_num, rfl, rfl, _, _, _, _, _, rfl, by omega, by omega, HYY.out.more (by omega) (by omega), HXX.out, HXY.out, .inl ⟨rfl, o, by omega, rfl, rfl, rfl, rfl, rfl⟩⟩, by go_light; simp only [intOf]; omega⟩
        · have hkI : (wh : Int) % 7 = 3 := hkI
          have HL := Lib.hid (HY.out.leave (o := (o : Int)) HX.out HXX.out)
          go_wp2_with fail
          with_reducible refine HL.out.mono ?_
          clear HL
          rintro e wt ⟨rfl, hyt, hxt, -⟩
          rw [left_off] at hxt
          have HYT := Lib.hid hyt
          have HXT := Lib.hid hxt
          clear hyt hxt HY HX
          obtain ⟨wz, hwz⟩ : ∃ wz, wz = wt := ⟨_, rfl⟩
          rw [← hwz] at HYT HXT ⊢
          clear hwz
          have HHO := Lib.hid (show Calls Tryz.prog 30 #[.pointer (some ⟨x, 0, none⟩)] wz fun e w' => e = .returned (.tuple #[.int .i64 (o1 : Int), .int .i64 (e1 : Int), .bool true]) ∧ Mod No wz w' from HYT.out.holder HXT.out)
          go_wp2_with fail
          with_reducible refine HHO.out.mono ?_
          clear HHO
          rintro e wy ⟨rfl, hmy⟩
          have HYY := Lib.hid (HYT.out.stay hmy)
          have HXY := Lib.hid (HXT.out.stay hmy)
          have HEP := Lib.hid (lepoch_any HXY.out)
          clear hmy HYT HXT
          go_wp2_with fail
          with_reducible refine HEP.out.mono ?_
          clear HEP
          rintro e wx ⟨rfl, h2⟩
          subst h2
          go_wp2_with fail
          exact ⟨⟨i + 1, s, x, by omega, by go_num, rfl, rfl, _, _, _, _, _, rfl, by omega, by omega, HYY.out.more (by omega) (by omega), HXX.out, HXY.out, .inr ⟨rfl, rfl, .inr ⟨o1, e1, by omega, by omega, by omega, rfl, rfl, rfl⟩⟩⟩, by go_light; simp only [intOf]; omega⟩
        · have hkI : (wh : Int) % 7 = 4 := hkI
          have HL := Lib.hid (HY.out.leave (o := (o : Int)) HX.out HXX.out)
          go_wp2_with fail
          with_reducible refine HL.out.mono ?_
          clear HL
          rintro e wt ⟨rfl, hyt, hxt, -⟩
          rw [left_off] at hxt
          have HYT := Lib.hid hyt
          have HXT := Lib.hid hxt
          clear hyt hxt HY HX
          obtain ⟨wz, hwz⟩ : ∃ wz, wz = wt := ⟨_, rfl⟩
          rw [← hwz] at HYT HXT ⊢
          clear hwz
          have HHO := Lib.hid (show Calls Tryz.prog 30 #[.pointer (some ⟨x, 0, none⟩)] wz fun e w' => e = .returned (.tuple #[.int .i64 (o1 : Int), .int .i64 (e1 : Int), .bool true]) ∧ Mod No wz w' from HYT.out.holder HXT.out)
          go_wp2_with fail
          with_reducible refine HHO.out.mono ?_
          clear HHO
          rintro e wy ⟨rfl, hmy⟩
          have HYY := Lib.hid (HYT.out.stay hmy)
          have HXY := Lib.hid (HXT.out.stay hmy)
          have HEP := Lib.hid (lepoch_any HXY.out)
          clear hmy HYT HXT
          go_wp2_with fail
          with_reducible refine HEP.out.mono ?_
          clear HEP
          rintro e wx ⟨rfl, h2⟩
          subst h2
          go_wp2_with fail
          exact ⟨⟨i + 1, s, x, by omega, by go_num, rfl, rfl, _, _, _, _, _, rfl, by omega, by omega, HYY.out.more (by omega) (by omega), HXX.out, HXY.out, .inr ⟨rfl, rfl, .inr ⟨o1, e1, by omega, by omega, by omega, rfl, rfl, rfl⟩⟩⟩, by go_light; simp only [intOf]; omega⟩
        · have hkI : (wh : Int) % 7 = 5 := hkI
          have HRO := Lib.hid (HY.out.reopen (by omega))
          go_wp2_with fail
          with_reducible refine HRO.out.mono ?_
          clear HRO
          rintro e wo ⟨s', rfl, hyo, -⟩
          have HO := Lib.hid (hyo.open_ (by decide) (by decide) (by omega) (by omega) (by omega))
          clear hyo HY HX
          go_wp2_with fail
          with_reducible refine HO.out.mono ?_
          clear HO
          rintro e wt ⟨x', rfl, hyt, hxt, -, -⟩
          have HYT := Lib.hid hyt
          have HXT := Lib.hid hxt
          clear hyt hxt
          obtain ⟨wz, hwz⟩ : ∃ wz, wz = wt := ⟨_, rfl⟩
          rw [← hwz] at HYT HXT ⊢
          clear hwz
          have HHO := Lib.hid (show Calls Tryz.prog 30 #[.pointer (some ⟨x', 0, none⟩)] wz fun e w' => e = .returned (.tuple #[.int .i64 (o1 : Int), .int .i64 (e1 : Int), .bool true]) ∧ Mod No wz w' from HYT.out.holder HXT.out)
          go_wp2_with fail
          with_reducible refine HHO.out.mono ?_
          clear HHO
          rintro e wy ⟨rfl, hmy⟩
          have HYY := Lib.hid (HYT.out.stay hmy)
          have HXY := Lib.hid (HXT.out.stay hmy)
          have HEP := Lib.hid (lepoch_any HXY.out)
          clear hmy HYT HXT
          go_wp2_with fail
          with_reducible refine HEP.out.mono ?_
          clear HEP
          rintro e wx ⟨rfl, h2⟩
          subst h2
          go_wp2_with fail
          exact ⟨⟨i + 1, s', x', by omega, by go_num, rfl, rfl, _, _, _, _, _, by go_num, by omega, by omega, HYY.out.more (by omega) (by omega), (.inr rfl), HXY.out, .inr ⟨rfl, rfl, .inr ⟨o1, e1, by omega, by omega, by omega, rfl, rfl, rfl⟩⟩⟩, by go_light; simp only [intOf]; omega⟩
        · have hkI : (wh : Int) % 7 = 6 := hkI
          have HPA := Lib.hid (lpair_any (x := x) (w := wr))
          go_wp2_with fail
          with_reducible refine HPA.out.mono ?_
          clear HPA
          rintro e wp ⟨rfl, hmp⟩
          obtain ⟨wq, hwq⟩ : ∃ wq, wq = wp.alloc (.cells #[.string ⟨#[108, 47, 104, 111, 108, 100, 101, 114]⟩, .string ⟨#[]⟩, .bool true] 32) := ⟨_, rfl⟩
          obtain ⟨g, hg⟩ : ∃ g, g = wp.heap.size := ⟨_, rfl⟩
          have hgq : wq.heap[g]? = some (.cells #[.string ⟨keyH.toArray⟩, .string ⟨#[]⟩, .bool true] 32 (0, 0)) := by rw [hwq, hg]; exact heap_alloc_new _ _
          have hmq : Mod No wr wq := by rw [hwq]; exact hmp.alloc _
          have HTK := Lib.hid ((HY.out.stay hmq).takes (by decide) (by decide) (by omega) (by omega) hgq)
          have HXQ := Lib.hid (HX.out.stay hmq)
          have HG := Lib.hid hg
          have HWQ := Lib.hid hwq
          clear hmp hwq hg hgq hmq HY HX
          go_wp2_with (rw [← HWQ.out, ← HG.out])
          with_reducible refine HTK.out.mono ?_
          clear HTK HWQ HG
          rintro e wt ⟨rfl, hyt, hmt⟩
          have HYT := Lib.hid hyt
          have HXT := Lib.hid (HXQ.out.keep hmt (fun f => f HXX.out))
          clear hyt hmt HXQ
          obtain ⟨wz, hwz⟩ : ∃ wz, wz = wt := ⟨_, rfl⟩
          rw [← hwz] at HYT HXT ⊢
          clear hwz
          have HHO := Lib.hid (show Calls Tryz.prog 30 #[.pointer (some ⟨x, 0, none⟩)] wz fun e w' => e = .returned (.tuple #[.int .i64 0, .int .i64 0, .bool false]) ∧ Mod No wz w' from HYT.out.holder HXT.out)
          go_wp2_with fail
          with_reducible refine HHO.out.mono ?_
          clear HHO
          rintro e wy ⟨rfl, hmy⟩
          have HYY := Lib.hid (HYT.out.stay hmy)
          have HXY := Lib.hid (HXT.out.stay hmy)
          have HEP := Lib.hid (lepoch_any HXY.out)
          clear hmy HYT HXT
          go_wp2_with fail
          with_reducible refine HEP.out.mono ?_
          clear HEP
          rintro e wx ⟨rfl, h2⟩
          subst h2
          go_wp2_with fail
          exact ⟨⟨i + 1, s, x, by omega, by go_num, rfl, rfl, _, _, _, _, _, rfl, by omega, by omega, HYY.out.more (by omega) (by omega), HXX.out, HXY.out, .inr ⟨rfl, rfl, .inl ⟨rfl, rfl, rfl⟩⟩⟩, by go_light; simp only [intOf]; omega⟩
    · have hi1 : (l.length : Int) ≤ (i : Int) := by omega
      have HMZ := Lib.hid HY.out.mod
      clear HY HX hst
      go_wp2_with fail
      exact fin hR ⟨rfl, HMZ.out⟩

end Go.Proofs.YtkeopmfmlciadaaGreat
namespace Go.Proofs.YtkeopmfmlciadaaGreat.lawLatchPlays
open Go.ChangeShapes Go.WideShapes Go.ChangeAt Go.RowKit
open Go.ChangeMaps (open_string shut_string)

theorem own : ownKnob Tryz.prog.godebug = none := by kernel_rfl
theorem laidOut : laidOutB Tryz.prog = true := by kernel_rfl

set_option maxRecDepth 100000 in
theorem lifted (os : Os) (started : os.Started) (H : Type) (enc : TypeId × Value → H) :
    ReturnsInHanded {} Tryz.checked os 9 .any (Rows.latchPlaysSpec.pre6 enc Tryz.prog Tryz.f9 Rows.latchPlaysRow.domain false) (Rows.latchPlaysSpec.post enc Tryz.prog Tryz.f9 false true false false) := by
  refine returnsInHanded_of_change (C := Tryz.checked) own started (by kernel_rfl) Tryz.func9
    (ChangeSpec.witness6 (enc := enc) (C := Tryz.checked) false ⟨#[], #[.slice none 0 0], []⟩ 8 (by kernel_rfl) (by kernel_rfl) (by kernel_rfl) (by kernel_rfl)) ?_
  intro W base args ds gs before hval0 hW _ _
  have hval : ∀ (j : Nat) t v, Tryz.f9.params[j]? = some t → args[j]? = some v → Value.okWide Tryz.prog W .any base t v := hval0
  have hW' := hW
  obtain ⟨p, q, hA0, hV, rfl, hfz, hnd⟩ := hW
  have hA : DataW.TrodAll enc Tryz.prog W 0 (fun _ => true) true Tryz.f9.params.toList args.toList ds p := hA0
  rw [Tryz.params9] at hA hval
  obtain ⟨v0, vs0, d0, ds0, p0, q0, hargs, rfl, rfl, h0, r0⟩ := trodAll_cons hA
  obtain ⟨rfl, rfl, rfl⟩ := trodAll_nil r0
  obtain rfl : args = #[v0] := by cases args; simp_all
  obtain ⟨rfl, rfl⟩ := trodVars_none hV
  obtain ⟨a0, len0, cap0, rfl⟩ := okWide_slice Tryz.underlying64 (hval 0 64 v0 rfl rfl)
  have k0 := h0
  have lt0 : ∀ x ∈ p0, x.block < W.heap.size := by obtain ⟨m, hm⟩ := k0; exact DataW.trod_lt m _ _ _ hm
  obtain ⟨z0, w0⟩ : ∃ l, LsIn W a0 len0 l := by
    obtain ⟨fuel, hf⟩ := h0
    obtain ⟨a', len', cap', l', hcs, hl'⟩ := ls25_open hf
    simp [Value.cells] at hcs
    obtain ⟨rfl, rfl, rfl⟩ := hcs
    exact ⟨l', hl'⟩
  clear hA0 hval0
  refine (plays25_walk a0 len0 cap0 z0 w0).mono fun e W' ⟨he, hm⟩ => ?_
  have bel := hm.below
  subst he
  exact ⟨_, rfl, _, _, _, [], _, [], hW', trodAll_mk1 (shut_bool Tryz.underlying4 _), (trodAll_cons_mk (Below.trod laidOut (by kernel_rfl) (of_decide_eq_true (by kernel_rfl)) k0 bel lt0) trodAll_mk0), rfl, bel.frame _, fun h => by cases h⟩

/-- The statement. -/
theorem proved : Rows.LatchPlaysSaid :=
  OpenClaim.holds_of_wide 9 Tryz.f9 rfl rfl rfl rfl rfl rfl rfl ⟨rfl, rfl, rfl, rfl, rfl⟩ rfl rfl rfl rfl rfl (by kernel_rfl) Tryz.func9 (by kernel_rfl)
    (of_decide_eq_true (by kernel_rfl)) (by unfold Func.isWrapper; first | (rw [if_pos (by decide +kernel)]; kernel_rfl) | (rw [if_neg (by decide +kernel)]; exact ⟨rfl, rfl⟩))
    (fun os started H enc _ => lifted os started H enc)

end Go.Proofs.YtkeopmfmlciadaaGreat.lawLatchPlays
