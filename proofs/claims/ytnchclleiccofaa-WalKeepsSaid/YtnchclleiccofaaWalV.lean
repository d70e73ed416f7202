/-
  Layer 4, the laws: same, size, known. No statement is proved here; no condition.
-/
import Derived.Test.YtnchclleiccofaaWalU
namespace Go.Proofs.Ytnchclleiccofaa
open Go.RowKit

/-- A row's records, one by one, in whatever world that only drew. -/
theorem Recs.conv {w : World} {X : Nat → Prop} {v : Value} {rs : List (List UInt8)} (h : Recs w X v rs) {k : Nat} (hk : k < rs.length) : ∃ b o c u, v = .slice (some ⟨b, o, none⟩) rs.length c ∧ w.cell? ⟨b, o + k, none⟩ = some u ∧
    ∀ nq, (convert 33 9 u).run Try.prog (w.drewN nq) = .ok (.string ⟨rs[k].toArray⟩) (w.drewN nq) := by
  obtain ⟨b, o, c, u, hv, hu, hs⟩ := h.at_ hk
  exact ⟨b, o, c, u, hv, hu, fun nq => string_of (P := Try.prog) (src := 33) (dst := 9) (e := 5) (hs.keep (S := No) ((Mod.refl No w).drewN nq) (fun _ _ _ f => f.elim)) Try.underlying33 Try.underlying5 Try.underlying9⟩

set_option maxRecDepth 100000 in
set_option maxHeartbeats 1000000 in
theorem same_ok {w : World} {X Y : Nat → Prop} {v u : Value} {rs : List (List UInt8)} (h1 : Recs w X v rs) (h2 : Recs w Y u rs) (hl : rs.length ≤ 1000000000) :
    Calls Try.prog 31 #[v, u] w fun e w' => e = .returned (.bool true) ∧ Mod No w w' := by
  refine calls_hide fun R hR => ?_
  obtain ⟨a1, c1, rfl⟩ := h1.len
  obtain ⟨a2, c2, rfl⟩ := h2.len
  have H1 := Lib.hid h1
  have H2 := Lib.hid h2
  clear h1 h2
  go_enter Try.func31, Try.ntmps31
  go_wp2_with fail
  go_loopw [5] (fun q wr => ∃ k : Nat, k ≤ rs.length ∧ q = .int .i64 k ∧ Mod No w wr) (fun q _ => rs.length - (intOf q).toNat)
  case atStart => exact ⟨0, by omega, rfl, Mod.refl _ _⟩
  case round =>
    obtain ⟨k, hk, rfl, hmod⟩ := hrel
    have hk0 : (0 : Int) ≤ (k : Int) := Int.natCast_nonneg _
    by_cases hlt : k < rs.length
    · have hk1 : (k : Int) < (rs.length : Int) := by omega
      obtain ⟨b1, o1, k1, u1, hv1, hu1, hc1⟩ := (H1.out.stay hmod).conv hlt
      obtain ⟨b2, o2, k2, u2, hv2, hu2, hc2⟩ := (H2.out.stay hmod).conv hlt
      cases hv1
      cases hv2
      have HM := Lib.hid hmod
      generalize (⟨rs[k].toArray⟩ : ByteArray) = Z at *
      clear hmod
      go_wp2_with fail
      go_quiet (fail)
      go_wp2_with fail
      exact ⟨⟨k + 1, by omega, by go_num, HM.out.drewN _⟩, by go_light; simp only [intOf]; omega⟩
    · have hkn : k = rs.length := by omega
      subst hkn
      have HM := Lib.hid hmod
      clear hmod
      go_wp2_with fail
      exact fin hR ⟨rfl, HM.out⟩

/-- What size tells. -/
def sizeN (rs : List (List UInt8)) : Nat := (rs.map fun r => r.length + 16).sum

theorem sizeN_take (rs : List (List UInt8)) (k : Nat) (hk : k < rs.length) : sizeN (rs.take (k + 1)) = sizeN (rs.take k) + (rs[k].length + 16) := by
  unfold sizeN
  rw [List.take_succ_eq_append_getElem hk, List.map_append, List.sum_append]
  simp

theorem sizeN_body (rs : List (List UInt8)) : sizeN rs = (bodyB rs).length + 12 * rs.length := by
  unfold sizeN bodyB
  induction rs with
  | nil => rfl
  | cons r rs ih =>
    simp only [List.map_cons, List.sum_cons, List.flatMap_cons, List.length_append, List.length_cons, recB, be_len]
    rw [ih]; omega

set_option maxRecDepth 100000 in
set_option maxHeartbeats 1000000 in
theorem lsum_any {w : World} {X : Nat → Prop} {v : Value} {rs : List (List UInt8)} (h : Recs w X v rs) (hl : rs.length ≤ 1000) (hr : ∀ r ∈ rs, r.length ≤ 100000) :
    Calls Try.prog 36 #[v] w fun e w' => e = .returned (.int .i64 (sizeN rs : Nat)) ∧ w' = w := by
  refine calls_hide fun R hR => ?_
  obtain ⟨a, c, rfl⟩ := h.len
  have H := Lib.hid h
  have HR := Lib.hid hr
  clear h hr
  go_enter Try.func36, Try.ntmps36
  go_wp2_with fail
  go_loopw [3, 4] (fun x q wr => wr = w ∧ ∃ k n : Nat, k ≤ rs.length ∧ q = .int .i64 k ∧ x = .int .i64 n ∧ n = sizeN (rs.take k) ∧ n ≤ k * 100016) (fun _ q _ => rs.length - (intOf q).toNat)
  case atStart => exact ⟨rfl, 0, 0, by omega, rfl, rfl, rfl, by omega⟩
  case round =>
    obtain ⟨rfl, k, n, hk, rfl, rfl, hn, hb⟩ := hrel
    have hk0 : (0 : Int) ≤ (k : Int) := Int.natCast_nonneg _
    have HN := Lib.hid hn
    clear hn
    by_cases hlt : k < rs.length
    · have hk1 : (k : Int) < (rs.length : Int) := by omega
      obtain ⟨g, o, c', u, hv, hu, hsl⟩ := H.out.at_ hlt
      cases hv
      obtain ⟨ua, uc, rfl⟩ := hsl.len
      have hrl := HR.out rs[k] (List.getElem_mem hlt)
      have HT := Lib.hid (sizeN_take rs k hlt)
      clear hsl
      generalize rs[k].length = m at *
      have hn8 : n ≤ 200000000 := by omega
      go_wp2_with fail
      exact ⟨⟨trivial, k + 1, n + (m + 16), by omega, by go_num, by go_num, by rw [HT.out, HN.out], by omega⟩, by go_light; simp only [intOf]; omega⟩
    · have hkn : k = rs.length := by omega
      subst hkn
      go_wp2_with fail
      exact fin hR ⟨by rw [HN.out, List.take_length]; rfl, rfl⟩

end Go.Proofs.Ytnchclleiccofaa
