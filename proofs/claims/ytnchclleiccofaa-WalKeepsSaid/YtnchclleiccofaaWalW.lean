/-
  Layer 4, the laws: known. No statement is proved here; no condition.
-/
import Derived.Test.YtnchclleiccofaaWalV
import Derived.Lib.SlBytesConst
namespace Go.Proofs.Ytnchclleiccofaa
open Go.RowKit

theorem recs_one {w : World} {g n : Nat} {u : Value} {r : List UInt8} (hg : w.heap[g]? = some (.cells #[u] 33 (0, 0))) (hu : Sl w No 5 u r.length (bv r)) (_ : n = 1) : Recs w No (.slice (some ⟨g, 0, none⟩) 1 1) [r] := by
  refine ⟨[u], rfl, .inr ⟨g, 0, 1, #[u], (0, 0), rfl, Nat.le_refl _, by unfold maxLen; omega, fun f => f, hg, Nat.le_refl _, fun i hi => by simp⟩, fun j x r' hx hr => ?_⟩
  obtain rfl : j = 0 := by
    rcases Nat.eq_zero_or_pos j with e | e
    · exact e
    · rw [List.getElem?_eq_none (by simp; omega)] at hx; cases hx
  simp at hx hr
  subst hx hr
  exact hu

theorem recs_two {w : World} {g : Nat} {u v : Value} {r s : List UInt8} (hg : w.heap[g]? = some (.cells #[u, v] 33 (0, 0))) (hu : Sl w No 5 u r.length (bv r)) (hv : Sl w No 5 v s.length (bv s)) : Recs w No (.slice (some ⟨g, 0, none⟩) 2 2) [r, s] := by
  refine ⟨[u, v], rfl, .inr ⟨g, 0, 2, #[u, v], (0, 0), rfl, Nat.le_refl _, by unfold maxLen; omega, fun f => f, hg, Nat.le_refl _, fun i hi => by simp⟩, fun j x r' hx hr => ?_⟩
  match j with
  | 0 => simp at hx hr; subst hx hr; exact hu
  | 1 => simp at hx hr; subst hx hr; exact hv
  | j + 2 => rw [List.getElem?_eq_none (by simp)] at hx; cases hx

theorem sl_lit {w : World} {g n : Nat} (l : List UInt8) {xs : Array Value} {t : TypeId} {fz : Nat × Nat} (hg : w.heap[g]? = some (.cells xs t fz)) (hx : xs = (bv l).toArray) (hn : l.length = n) (hm : n ≤ maxLen) : Sl w No t (.slice (some ⟨g, 0, none⟩) n n) l.length (bv l) := by
  subst hx
  exact .inr ⟨g, 0, n, _, fz, by rw [hn], by omega, hm, fun f => f, hg, by simp, fun i _ => by simp⟩

theorem no_lt (w : World) : ∀ k, No k → k < w.heap.size := fun _ f => f.elim

/-- make([]byte, m). -/
theorem make_bytes (M : Nat) (h : M ≤ 1000000000) : ∃ ZB : Array Value, ZB = (bv (List.replicate M 0)).toArray ∧ ∀ w, (Instr.makeSlice 33 (.int .i64 (M : Int)) (.int .i64 (M : Int))).run Try.prog w = .ok (.slice (some ⟨w.heap.size, 0, none⟩) M M) (w.alloc (.cells ZB 5)) :=
  ⟨_, rfl, fun w => by
    rw [← madeBytes]
    exact run_make_row' (P := Try.prog) 33 5 (.int .u8 0) 1 Try.underlying33 info_u8 rfl .i64 .i64 M (by omega) (by omega) w⟩

/-- The first log's records. -/
abbrev kRecs : List (List UInt8) := [[97], [98, 99]]

theorem wrE_long {H m at_ n : Nat} (h : 1048576 < n) : wrE H m at_ [List.replicate n 0] = 42 := by
  unfold wrE
  rw [if_pos (by simp [isLong]; omega)]

set_option maxRecDepth 100000 in
set_option maxHeartbeats 4000000 in
theorem known4_any (w : World) : Calls Try.prog 27 #[] w fun e w' => e = .returned (.bool true) ∧ Mod No w w' := by
  refine calls_hide fun R hR => ?_
  go_enter Try.func27, Try.ntmps27
  go_wp2_with fail
  with_reducible refine (disk_new No 60 256 w (no_lt w)).mono ?_
  rintro e w1 ⟨b, sb, mb, rfl, hb1, hb2, hb3, hd1, hm1⟩
  have HB := Lib.hid (And.intro hb1 (And.intro hb2 hb3))
  have HD1 := Lib.hid hd1
  have HM1 := Lib.hid hm1
  clear hb1 hb2 hb3 hd1 hm1
  go_wp2_with fail
  with_reducible refine (open_has (w := w1) (by decide) (by decide) (new_well 60 256) HD1.out (new_log 60 256)).mono ?_
  rintro e w2 ⟨p, ub, v, rfl, hL2, hr2, hm2, hp, hu⟩
  obtain ⟨ra, rc, rfl⟩ := (hr2.recs (X := No) (fun _ _ f => f)).len
  have HL2 := Lib.hid hL2
  have HM2 := Lib.hid (HM1.out.trans hm2)
  have HP := Lib.hid (And.intro hp hu)
  have HS1 := Lib.hid hm2.size
  have HS0 := Lib.hid HM1.out.size
  clear hL2 hr2 hm2 hp hu HM1 HD1
  have kc1 := Lib.run_convert_bytes_const (P := Try.prog) w2 33 5 #[.int .u8 97] 1 1 Try.underlying33 Try.underlying5
  have kc2 := Lib.run_convert_bytes_const (P := Try.prog) (w2.alloc (.cells #[.int .u8 97] 5 (1, 2))) 33 5 #[.int .u8 98, .int .u8 99] 2 2 Try.underlying33 Try.underlying5
  rw [show (w2.alloc (.cells #[.int .u8 97] 5 (1, 2))).heap.size = w2.heap.size + 1 by simp] at kc2
  go_wp2_with fail
  with_reducible refine (commit_any (rs := kRecs) (HL2.out.stay ((((Mod.refl No w2).alloc _).alloc _).alloc _)) ?h2 (by decide)).mono ?_
  case h2 =>
    refine recs_two (heap_at_new _ _ (by simp)) (sl_lit [97] (heap_alloc_old _ (heap_alloc_old _ (heap_at_new _ _ (by simp)))) rfl rfl (by decide)) (sl_lit [98, 99] (heap_alloc_old _ (heap_at_new _ _ (by simp))) rfl rfl (by decide))
  rintro e w3 ⟨he, hc⟩
  rw [show wrE ((Dk.new 60 256).n / 2) ((Dk.new 60 256).sz - 16) (Lg.at_ ⟨0, 0, 0, []⟩) kRecs = 0 by decide] at he hc
  subst he
  rcases hc with ⟨h, _⟩ | ⟨_, hm3, d', e1, e2, hL3⟩
  · exact absurd rfl h
  replace hL3 : LogHas w3 p b sb mb ub d' ⟨0, 1, 1, kRecs⟩ := hL3
  have c4 : w3.cell? ⟨p, 4, none⟩ = some (.int .i64 2) := cell_of (i := 4) hL3.at_.obj rfl
  have HE := Lib.hid (And.intro e1 e2)
  have HL3 := Lib.hid hL3
  have HM3 := Lib.hid hm3
  clear kc1 kc2 hm3 hL3 e1 e2
  go_wp2_with fail
  with_reducible refine (count_any c4).mono ?_
  rintro e w' ⟨rfl, h2⟩
  subst h2
  clear c4
  go_wp2_with fail
  with_reducible refine (open_has HL3.out.n HL3.out.sz HL3.out.well HL3.out.disk HL3.out.ok).mono ?_
  rintro e w4 ⟨p2, ub2, v2, rfl, -, hr4, hm4, -, -⟩
  have hr4 := hr4.recs (X := No) (fun _ _ f => f)
  obtain ⟨a4, cp4, rfl⟩ : ∃ a c, v2 = .slice a 2 c := hr4.len
  have HR4 := Lib.hid hr4
  have HL4 := Lib.hid (HL3.out.stay hm4)
  have HM4 := Lib.hid hm4
  clear hr4 hm4
  go_wp2_with fail
  with_reducible refine (disk_new No 9 256 w4 (no_lt w4)).mono ?_
  rintro e w5 ⟨b5, sb5, mb5, rfl, -, -, -, hd5, hm5⟩
  have HD5 := Lib.hid hd5
  have HM5 := Lib.hid hm5
  clear hd5 hm5
  go_wp2_with fail
  with_reducible refine (wopen_small (d := Dk.new 9 256) (.inl (by decide)) HD5.out).mono ?_
  rintro e w' ⟨rfl, h2⟩
  subst h2
  have hr5 := HR4.out.stay HM5.out
  obtain ⟨g1, o1, k1, u1, hv1, hu1, hc1⟩ := hr5.conv (k := 0) (by decide)
  obtain ⟨rfl, rfl⟩ : a4 = some ⟨g1, o1, none⟩ ∧ cp4 = k1 := by cases hv1; exact ⟨rfl, rfl⟩
  obtain ⟨g2, o2, k2, u2, hv2, hu2, hc2⟩ := hr5.conv (k := 1) (by decide)
  obtain ⟨rfl, rfl, rfl⟩ : g1 = g2 ∧ o1 = o2 ∧ cp4 = k2 := by cases hv2; exact ⟨rfl, rfl, rfl⟩
  replace hc1 : (convert 33 9 u1).run Try.prog w' = .ok (.string ⟨#[97]⟩) w' := hc1 0
  replace hc2 : (convert 33 9 u2).run Try.prog w' = .ok (.string ⟨#[98, 99]⟩) w' := hc2 0
  rw [Nat.add_zero] at hu1
  obtain ⟨ZB, hZB, hmk⟩ := make_bytes 1048577 (by decide)
  have hmk := hmk w'
  rw [show ((1048577 : Nat) : Int) = 1048577 from rfl] at hmk
  have HL5 := Lib.hid (HL4.out.stay HM5.out)
  have HZ := Lib.hid hZB
  clear hr5 hZB hv1 hv2
  go_wp2_with fail
  have hone : ([List.replicate 1048577 0] : List (List UInt8)).length ≤ 1000000000 := by
    rw [List.length_cons, List.length_nil]; omega
  with_reducible refine (commit_any (rs := [List.replicate 1048577 0]) (HL5.out.stay (((Mod.refl No w').alloc _).alloc _)) ?h2 hone).mono ?_
  case h2 =>
    refine recs_one (n := 1) (heap_at_new _ _ (by simp)) (sl_lit (List.replicate 1048577 0) (heap_alloc_old _ (heap_at_new _ _ rfl)) HZ.out List.length_replicate (by unfold maxLen; omega)) rfl
  rintro e w7 ⟨he, hc⟩
  rw [wrE_long (by omega)] at he hc
  subst he
  rcases hc with ⟨_, hm7⟩ | ⟨h, _⟩
  case inr => exact absurd h (by decide)
  have HM7 := Lib.hid hm7
  clear hone hm7 hc1 hc2 hu1 hu2 hmk
  go_wp2_with fail
  refine fin hR ⟨rfl, ?_⟩
  have h0 := HB.out
  have h1 := HP.out
  have h2 := HS0.out
  have m3 := (HM2.out.then ((((Mod.refl No w2).alloc _).alloc _).alloc _) (fun _ _ f => f.elim)).then HM3.out (S := No) (fun i hi e => by rcases e with (e | e | e) | e | e <;> omega)
  exact (((m3.trans HM4.out).trans HM5.out).trans (((Mod.refl No w').alloc _).alloc _)).trans HM7.out

end Go.Proofs.Ytnchclleiccofaa
