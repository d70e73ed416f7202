/-
  Layer 4, the log: Reset. No statement is proved here; no condition.
-/
import Derived.Test.YtnchclleiccofaaWalS
namespace Go.Proofs.Ytnchclleiccofaa
open Go.RowKit

set_option maxRecDepth 100000 in
set_option maxHeartbeats 4000000 in
theorem reset_any {w : World} {p b sb mb ub : Nat} {d : Dk} {L : Lg} {v : Value} {rs : List (List UInt8)} (h : LogHas w p b sb mb ub d L) (hv : Recs w No v rs) (hl : rs.length ≤ 1000000000) (hT : L.turn + 1 < 4611686018427387904) :
    Calls Try.prog 33 #[.pointer (some ⟨p, 0, none⟩), v] w fun e w' => e = .returned (.int .i64 (wrE (d.n / 2) (d.sz - 16) 0 rs)) ∧
      ((wrE (d.n / 2) (d.sz - 16) 0 rs ≠ 0 ∧ Mod No w w') ∨ (wrE (d.n / 2) (d.sz - 16) 0 rs = 0 ∧ Mod (fun q => Own3 b sb mb q ∨ q = ub ∨ q = p) w w' ∧
        ∃ d', d'.n = d.n ∧ d'.sz = d.sz ∧ LogHas w' p b sb mb ub d' ⟨L.turn + 1, 1, secs (d.sz - 16) (32 + (bodyB rs).length), rs⟩)) := by
  refine calls_hide fun R hR => ?_
  obtain ⟨a, c, rfl⟩ := hv.len
  obtain ⟨hb1, hb2, hb3, hb4, hb5⟩ := h.bounds
  obtain ⟨m, hm⟩ : ∃ m, m = d.sz - 16 := ⟨_, rfl⟩
  obtain ⟨H, hH⟩ : ∃ H, H = d.n / 2 := ⟨_, rfl⟩
  have hp0 := h.at_.obj
  have c1 := cell_of (i := 1) hp0 rfl
  have HWR := wwrite_any (w := w) (rs := rs) (v := .slice a rs.length c) (L.turn + 1) 0 0 m H ((L.turn + 1) % 2 * H) (by have := h.sz; omega) hH.symm rfl (by have := h.sz; omega) h.well h.disk hp0 h.at_.undone h.ne hv hl (by omega) hT (by omega)
  rw [show ((L.turn + 1 : Nat) : Int) = (L.turn : Int) + 1 from rfl, show (((0 : Nat)) : Int) = 0 from rfl, Nat.zero_add] at HWR
  have HWR := Lib.hid HWR
  have HL := Lib.hid (And.intro h (And.intro hm hH))
  have hpo := obj_not_own h.disk hp0 (by decide) (by decide)
  have hpu : p ≠ ub := fun e => by subst e; exact mp_not_cells h.at_.undone _ _ _ hp0
  have HPO := Lib.hid (And.intro hpo hpu)
  rw [← hm, ← hH] at hR
  clear h hv hm hH hp0 hpo hpu
  have hT2 : (L.turn : Int) ≤ 9223372036854775807 := by omega
  have HT := Lib.hid hT
  clear hT
  go_enter Try.func33, Try.ntmps33
  go_wp2_with fail
  with_reducible refine HWR.out.mono ?_
  clear HWR
  rintro e w1 (⟨he, rfl, hm1⟩ | ⟨he, hk, rfl, hdk, hmp, hm1⟩)
  · have HE := Lib.hid he
    have M1 := Lib.hid hm1
    clear he hm1 c1 hT2
    generalize wrE H m 0 rs = x at *
    have hx := HE.out
    have hx2 : (x == 0) = false := by simpa using hx
    go_wp2_with fail
    exact fin hR ⟨rfl, .inl ⟨HE.out, M1.out⟩⟩
  · have hpw := hm1.keep (show w.heap[p]? = some (LgObj b ub L.turn L.next L.at_ L.all.length) from HL.out.1.at_.obj) (fun e => e.elim HPO.out.1 HPO.out.2)
    have HE := Lib.hid he
    have HX := Lib.hid (And.intro hk (And.intro hdk (And.intro hmp hm1)))
    have HPW := Lib.hid hpw
    obtain ⟨at2, hat2⟩ : ∃ at2, at2 = secs m (32 + (bodyB rs).length) := ⟨_, rfl⟩
    have k1 : (at2 : Int) ≤ 2048 := by have := HL.out.2.2; omega
    have k0 : (0 : Int) ≤ (at2 : Int) := Int.natCast_nonneg _
    rw [← hat2]
    have HA := Lib.hid hat2
    have c1 := cell_of (i := 1) hpw rfl
    have c2 := cell_of (i := 2) hpw rfl
    have c3 := cell_of (i := 3) hpw rfl
    have c4 := cell_of (i := 4) hpw rfl
    have f1 := frozen_of 1 hpw
    have f2 := frozen_of 2 hpw
    have f3 := frozen_of 3 hpw
    have f4 := frozen_of 4 hpw
    clear he hk hdk hmp hm1 hpw hat2
    go_wp2_with fail
    obtain ⟨hk, ⟨d', e1, e2, e3, hdk, hlaid⟩, hmp, hm1⟩ := HX.out
    obtain ⟨w2, hw2⟩ : ∃ w2, w2 = (((w1.setCell ⟨p, 1, none⟩ (.int .u64 ((L.turn : Int) + 1))).setCell ⟨p, 2, none⟩ (.int .u64 1)).setCell ⟨p, 3, none⟩ (.int .i64 (at2 : Int))).setCell ⟨p, 4, none⟩ (.int .i64 (rs.length : Int)) := ⟨_, rfl⟩
    have hm2 : Mod (fun q => q = p) w1 w2 := by rw [hw2]; exact ((((Mod.refl (fun q => q = p) w1).setCell (fun _ => rfl) _).setCell (fun _ => rfl) _).setCell (fun _ => rfl) _).setCell (fun _ => rfl) _
    have hp2 : w2.heap[p]? = some (LgObj b ub (L.turn + 1) 1 at2 rs.length) := by
      rw [hw2, heap_setCell (heap_setCell (heap_setCell (heap_setCell HPW.out _) _) _) _]; rfl
    have hwe := wrE_ok HE.out
    obtain ⟨hL, hm, hH⟩ := HL.out
    refine fin hR ⟨by rw [HE.out]; rfl, .inr ⟨HE.out, ?_, d', e1, e2, ?_⟩⟩
    · show Mod _ w _
      rw [← hw2]
      exact (hm1.weaken fun _ _ e => e.elim .inl fun e => .inr (.inl e)).trans (hm2.weaken fun _ _ e => .inr (.inr e))
    · rw [← hw2, ← HA.out]
      refine ⟨hdk.keep hm2 (fun e => HPO.out.1 (.inl e.symm)) (fun e => HPO.out.1 (.inr (.inl e.symm))) (fun e => HPO.out.1 (.inr (.inr e.symm))) (fun q e => .inr fun cur fz hx => by
        subst e; rw [HPW.out] at hx; cases hx), ⟨hp2, hmp.keep hm2 fun e => HPO.out.2 e.symm⟩, hL.ne, e3, by rw [e1]; exact hL.n, by rw [e2]; exact hL.sz, ?_⟩
      rw [e1, e2, HA.out, ← hm, ← hH]
      refine LogOK.reset (by have := hL.sz; omega) (by rw [hm, hH]; exact hL.ok) (fun r hr => by have := hwe.1 r hr; omega) ?_ hk HT.out hlaid
      have h1 := hwe.2
      have h2 : (H - 0) * m ≤ 2048 * 4080 := Nat.mul_le_mul (by omega) (by omega)
      omega

end Go.Proofs.Ytnchclleiccofaa
