/-
  The law WalKeeps: its script, read as it comes in. No statement is proved here; no condition.
-/
import Derived.Test.YtnchclleiccofaaWalX
import Derived.Deep.Slices
import Derived.Deep.Fields
import Derived.ProofKit
import Derived.OpenShut
import Derived.ShutString
import Derived.ChangeOld
namespace Go.Proofs.Ytnchclleiccofaa
open Go.ChangeShapes Go.WideShapes Go.ChangeAt Go.RowKit

/-- An act of WalKeeps. -/
structure ActW where
  what : Int
  a : Option Addr
  n : Nat
  c : Nat
  bs : List UInt8

instance : Inhabited ActW := ⟨⟨0, none, 0, 0, []⟩⟩

structure ActsInW (w : World) (aa : Option Addr) (la : Nat) (l : List ActW) : Prop where
  len : l.length = la
  at_ : ∀ i (hi : i < l.length), ∃ b o, aa = some ⟨b, o, none⟩ ∧ w.cell? ⟨b, o + i * 2, none⟩ = some (.int .i64 l[i].what) ∧ w.cell? ⟨b, o + i * 2 + 1, none⟩ = some (.slice l[i].a l[i].n l[i].c) ∧ In w l[i].a l[i].n (bv l[i].bs) ∧ l[i].bs.length = l[i].n

theorem add_atW (b o i : Nat) : (⟨b, o, none⟩ : Addr).add i = ⟨b, o + i, none⟩ := by
  unfold Addr.add
  split
  · rename_i h; subst h; rfl
  · rfl

theorem cell2 {w : World} {base b o : Nat} {cs : List Value} (h : w.cells? base (⟨b, o, none⟩ : Addr) 2 = some cs) : cs.length = 2 ∧ ∀ j u, cs[j]? = some u → w.cell? ⟨b, o + j, none⟩ = some u := by
  obtain ⟨_, hlen, hcell⟩ := World.cells?_some h
  refine ⟨hlen, fun j u hj => ?_⟩
  have hj7 : j < 2 := by have := (List.getElem?_eq_some_iff.1 hj).1; omega
  have := hcell j hj7
  rw [hj, add_atW] at this
  exact this

set_option maxRecDepth 100000 in
theorem actW_open {H : Type} {enc : TypeId × Value → H} {w : World} {base : Nat} {held : Bool} {n : Nat} {cs : List Value} {x : DataW H × List MemPlace} (h : DataW.trod enc Try.prog w base (fun _ => true) held n 69 cs = some x) :
    ∃ v : ActW, cs = [.int .i64 v.what, .slice v.a v.n v.c] ∧ In w v.a v.n (bv v.bs) ∧ v.bs.length = v.n := by
  obtain ⟨xs, m, _, rfl, hlen, hxl, hf⟩ := DataW.trod_struct Try.underlying69 h
  have hx : xs.length = 2 := hxl
  have hc : cs.length = 2 := hlen.trans (by kernel_rfl)
  match cs, hc with
  | [c0, c1], _ =>
    have e3 : Try.prog.cellsOf 3 = 1 := by kernel_rfl
    have e33 : Try.prog.cellsOf 33 = 1 := by kernel_rfl
    have g0 : DataW.trod enc Try.prog w base (fun _ => true) held m 3 (([c0, c1].drop 0).take (Try.prog.cellsOf 3)) = xs[0]? := hf 0 _ rfl
    rw [e3, List.getElem?_eq_getElem (by omega)] at g0
    have g1 : DataW.trod enc Try.prog w base (fun _ => true) held m 33 (([c0, c1].drop 1).take (Try.prog.cellsOf 33)) = xs[1]? := hf 1 _ rfl
    rw [e33, List.getElem?_eq_getElem (by omega)] at g1
    obtain ⟨n0, z0, _, w0⟩ := DataW.trod_int Try.underlying3 g0
    simp only [List.drop_zero, List.drop_succ_cons, List.take_succ_cons, List.take_zero, List.cons.injEq, and_true] at z0 g1
    subst z0
    have key : ∃ a len cap zs, c1 = .slice a len cap ∧ InRow .u8 w a len cap zs := by
      rcases open_ints Try.underlying33 Try.underlying5 (by kernel_rfl) g1 with ⟨hcs, _⟩ | ⟨x, l, c, zs, hcs, _, hl, hm, hz, _, hcell, hwz⟩
      · simp at hcs
        exact ⟨none, 0, 0, [], hcs, .inl ⟨rfl, rfl, rfl, rfl⟩⟩
      · simp at hcs
        exact ⟨_, _, _, zs, hcs, .inr ⟨_, rfl, hl, hm, by simpa using hz, hcell, hwz⟩⟩
    obtain ⟨a, len, cap, zs, rfl, hin⟩ := key
    obtain ⟨bs, hbl, hbs⟩ := in_bytes hin
    exact ⟨⟨n0, a, len, cap, bs⟩, rfl, hbs, hbl⟩

set_option maxRecDepth 100000 in
theorem actsW_open {H : Type} {enc : TypeId × Value → H} {w : World} {base : Nat} {held : Bool} {fuel : Nat} {a : Option Addr} {len cap : Nat} {x : DataW H × List MemPlace}
    (h : DataW.trod enc Try.prog w base (fun _ => true) held fuel 66 [.slice a len cap] = some x) : ∃ l : List ActW, ActsInW w a len l := by
  rcases Go.Deep.open_slice Try.underlying66 h with ⟨hcs, _⟩ | ⟨ad, len', cap', m, n, D, Pl, hcs, _, hl, _, hm, _, hx⟩
  · simp at hcs
    obtain ⟨rfl, rfl, rfl⟩ := hcs
    exact ⟨[], rfl, fun i hi => absurd hi (Nat.not_lt_zero i)⟩
  · simp at hcs
    obtain ⟨rfl, rfl, rfl⟩ := hcs
    have hlm : len ≤ m := by rw [hm]; split <;> omega
    obtain ⟨b, o, sp⟩ := ad
    have e7 : Try.prog.cellsOf 69 = 2 := by kernel_rfl
    have hsp : 0 < len → sp = none := fun h0 => by
      obtain ⟨cs', h1, _⟩ := hx 0 (by omega)
      rw [e7] at h1
      obtain ⟨_, hlen, hcell⟩ := World.cells?_some h1
      have h2 := hcell 0 (by omega)
      rw [List.getElem?_eq_getElem (by omega)] at h2
      simpa [Addr.add] using World.cell?_spot h2
    have key : ∀ i, i < len → ∃ v : ActW, sp = none ∧ w.cell? ⟨b, o + i * 2, none⟩ = some (.int .i64 v.what) ∧ w.cell? ⟨b, o + i * 2 + 1, none⟩ = some (.slice v.a v.n v.c) ∧ In w v.a v.n (bv v.bs) ∧ v.bs.length = v.n := fun i hi => by
      obtain ⟨cs', h1, h2⟩ := hx i (by omega)
      have hs := hsp (by omega)
      subst hs
      rw [e7, add_atW] at h1
      obtain ⟨v, rfl, hi, hl⟩ := actW_open h2
      exact ⟨v, rfl, (cell2 h1).2 0 _ rfl, (cell2 h1).2 1 _ rfl, hi, hl⟩
    obtain ⟨f, hf⟩ := Go.Deep.choose_lt key
    refine ⟨(List.range len).map f, by simp, fun i hi => ?_⟩
    have hi' : i < len := by simpa using hi
    obtain ⟨hs, hc⟩ := hf i hi'
    refine ⟨b, o, by rw [hs], ?_⟩
    simpa using hc

/-- Rows of records are joined. -/
theorem Recs.joined {w1 w2 : World} {O : Nat → Prop} {base : Nat} {v1 v2 : Value} {al rs : List (List UInt8)} {vs us : List Value} (e1 : vs.length = al.length) (e2 : us.length = rs.length)
    (h1 : ∀ (j : Nat) (u : Value) (r : List UInt8), vs[j]? = some u → al[j]? = some r → Sl w1 O 5 u r.length (bv r)) (h2 : ∀ (j : Nat) (u : Value) (r : List UInt8), us[j]? = some u → rs[j]? = some r → Sl w1 O 5 u r.length (bv r))
    (ho : w1.ownsRow base 33 1 v1 al.length vs) (hg : w1.grownBy w2 v1.ownBlock) (hown : w2.ownsRow base 33 1 v2 (al.length + rs.length) (vs ++ us)) (hO : ∀ q, O q → q < base) : Recs w2 O v2 (al ++ rs) := by
  have hm := Mod.of_grown (S := fun q => v1.ownBlock = some q) hg (fun q e _ => e)
  have hk : ∀ {n : Nat} {xs : List Value} {x : Value}, Sl w1 O 5 x n xs → Sl w2 O 5 x n xs := fun hs => hs.keep hm fun k cur fz hk _ e => by
    obtain ⟨cur', hc⟩ := own_heapM ho hk
    rw [hc] at e
    cases e
  refine ⟨vs ++ us, by simp [e1, e2], by rw [List.length_append]; exact Sl.of_own hown fun q hq h => by have := hO q h; omega, fun j y z hy hz => ?_⟩
  rcases Nat.lt_or_ge j vs.length with g | g
  · rw [List.getElem?_append_left g] at hy
    rw [List.getElem?_append_left (by omega)] at hz
    exact hk (h1 j y z hy hz)
  · rw [List.getElem?_append_right g] at hy
    rw [List.getElem?_append_right (by omega), ← e1] at hz
    exact hk (h2 _ y z hy hz)

set_option maxRecDepth 100000 in
set_option maxHeartbeats 1000000 in
theorem light_any {w : World} {aa : Option Addr} {la ca : Nat} {l : List ActW} (h : ActsInW w aa la l) :
    Calls Try.prog 34 #[.slice aa la ca] w fun e w' => (∃ o : Bool, e = .returned (.bool o) ∧ (o = true → la ≤ 30 ∧ ∀ i (hi : i < l.length), l[i].n ≤ 6)) ∧ w' = w := by
  refine calls_hide fun R hR => ?_
  have H := Lib.hid h
  clear h
  by_cases h30 : 30 < la
  · have q : (30 : Int) < (la : Int) := by omega
    go_enter Try.func34, Try.ntmps34
    go_wp2_with fail
    exact fin hR ⟨⟨false, rfl, fun h => by cases h⟩, rfl⟩
  have q : (la : Int) ≤ 30 := by omega
  go_enter Try.func34, Try.ntmps34
  go_wp2_with fail
  go_loopw [3] (fun x wr => wr = w ∧ ∃ k : Nat, k ≤ la ∧ x = .int .i64 k ∧ ∀ i (hi : i < l.length), i < k → l[i].n ≤ 6) (fun x _ => la - (intOf x).toNat)
  case atStart => exact ⟨rfl, 0, by omega, rfl, fun i _ h => by omega⟩
  case round =>
    obtain ⟨rfl, k, hk, rfl, hno⟩ := hrel
    have HNO := Lib.hid hno
    clear hno
    have hk0 : (0 : Int) ≤ (k : Int) := Int.natCast_nonneg _
    by_cases hlt : k < la
    · have hk1 : (k : Int) < (la : Int) := by omega
      obtain ⟨b, o, rfl, c0, c1, -, -⟩ := H.out.at_ k (by rw [H.out.len]; exact hlt)
      have HNX := Lib.hid (show ∀ n, n = (l[k]'(by rw [H.out.len]; exact hlt)).n → n ≤ 6 → ∀ i (hi : i < l.length), i < k + 1 → l[i].n ≤ 6 from fun n hn hle i hi hik => by
        by_cases e : i = k
        · subst e; omega
        · exact HNO.out i hi (by omega))
      generalize hn : (l[k]'(by rw [H.out.len]; exact hlt)).n = n at *
      have HN := Lib.hid hn
      clear hn c0
      by_cases h6 : 6 < n
      · have q6 : (6 : Int) < (n : Int) := by omega
        go_wp2_with fail
        exact fin hR ⟨⟨false, rfl, fun h => by cases h⟩, rfl⟩
      · have q6 : (n : Int) ≤ 6 := by omega
        go_wp2_with fail
        exact ⟨⟨trivial, k + 1, by omega, by go_num, HNX.out n rfl (by omega)⟩, by go_light; simp only [intOf]; omega⟩
    · have hkn : k = la := by omega
      subst hkn
      go_wp2_with fail
      exact fin hR ⟨⟨true, rfl, fun _ => ⟨by omega, fun i hi => HNO.out i hi (by rw [← H.out.len]; exact hi)⟩⟩, rfl⟩

end Go.Proofs.Ytnchclleiccofaa
