/-
  Layer 4, the laws: a log and its disk as a law has them. No statement is proved here; no condition.
-/
import Derived.Test.YtnchclleiccofaaWalW
namespace Go.Proofs.Ytnchclleiccofaa
open Go.RowKit Go.Maps

/-- A log at p over a disk at b of N sectors of 256 bytes, all of it new since w0 and within O. -/
structure St (w0 w : World) (N b p : Nat) (O : Nat → Prop) (L : Lg) : Prop where
  has : ∃ sb mb ub d, LogHas w p b sb mb ub d L ∧ d.n = N ∧ d.sz = 256 ∧ ∀ q, Own3 b sb mb q ∨ q = ub ∨ q = p → O q
  low : ∀ q, O q → w0.heap.size ≤ q
  high : ∀ q, O q → q < w.heap.size
  mod : Mod No w0 w

theorem St.stay {w0 w w' : World} {N b p : Nat} {O : Nat → Prop} {L : Lg} (h : St w0 w N b p O L) (hm : Mod No w w') : St w0 w' N b p O L := by
  obtain ⟨sb, mb, ub, d, h1, h2, h3, h4⟩ := h.has
  exact ⟨⟨sb, mb, ub, d, h1.stay hm, h2, h3, h4⟩, h.low, fun q hq => Nat.lt_of_lt_of_le (h.high q hq) hm.size, h.mod.trans hm⟩

theorem Recs.weak {w : World} {X Y : Nat → Prop} {v : Value} {rs : List (List UInt8)} (h : Recs w X v rs) (hy : ∀ k, k < w.heap.size → Y k → X k) : Recs w Y v rs := by
  obtain ⟨vs, h1, h2, h3⟩ := h.row
  exact ⟨vs, h1, h2.shrink hy, fun j u r hu hr => (h3 j u r hu hr).shrink hy⟩

theorem Recs.no {w : World} {X : Nat → Prop} {v : Value} {rs : List (List UInt8)} (h : Recs w X v rs) : Recs w No v rs := h.weak fun _ _ f => f.elim

theorem Recs.avoid {w : World} {X : Nat → Prop} {v : Value} {rs : List (List UInt8)} (h : Recs w X v rs) : Recs w (fun q => X q ∨ w.heap.size ≤ q) v rs := by
  obtain ⟨vs, h1, h2, h3⟩ := h.row
  exact ⟨vs, h1, h2.avoid, fun j u r hu hr => (h3 j u r hu hr).avoid⟩

/-- What a log comes to behind a commit. -/
def stepC (N : Nat) (L : Lg) (rs : List (List UInt8)) : Lg := if wrE (N / 2) 240 L.at_ rs = 0 then ⟨L.turn, L.next + 1, L.at_ + secs 240 (32 + (bodyB rs).length), L.all ++ rs⟩ else L
def stepR (N : Nat) (L : Lg) (rs : List (List UInt8)) : Lg := if wrE (N / 2) 240 0 rs = 0 then ⟨L.turn + 1, 1, secs 240 (32 + (bodyB rs).length), rs⟩ else L

theorem St.commit {w0 w : World} {N b p : Nat} {O : Nat → Prop} {L : Lg} {v : Value} {rs : List (List UInt8)} (h : St w0 w N b p O L) (hv : Recs w No v rs) (hl : rs.length ≤ 1000000000) :
    Calls Try.prog 29 #[.pointer (some ⟨p, 0, none⟩), v] w fun e w' => e = .returned (.int .i64 (wrE (N / 2) 240 L.at_ rs)) ∧ St w0 w' N b p O (stepC N L rs) ∧ Mod O w w' := by
  obtain ⟨sb, mb, ub, d, h1, rfl, h3, h4⟩ := h.has
  refine (commit_any h1 hv hl).mono ?_
  rw [h3]
  rintro e w' ⟨rfl, ⟨he, hm⟩ | ⟨he, hm, d', e1, e2, hL⟩⟩
  · refine ⟨rfl, ?_, hm.weaken fun _ _ f => f.elim⟩
    unfold stepC
    rw [if_neg he]
    exact h.stay hm
  · have hmO : Mod O w w' := hm.weaken fun q _ e => h4 q e
    refine ⟨rfl, ?_, hmO⟩
    unfold stepC
    rw [if_pos he]
    exact ⟨⟨sb, mb, ub, d', hL, e1, e2, h4⟩, h.low, fun q hq => Nat.lt_of_lt_of_le (h.high q hq) hm.size, h.mod.then hmO fun i hi e => by have := h.low i e; omega⟩

theorem St.reset {w0 w : World} {N b p : Nat} {O : Nat → Prop} {L : Lg} {v : Value} {rs : List (List UInt8)} (h : St w0 w N b p O L) (hv : Recs w No v rs) (hl : rs.length ≤ 1000000000) (hT : L.turn ≤ 1000000000) :
    Calls Try.prog 33 #[.pointer (some ⟨p, 0, none⟩), v] w fun e w' => e = .returned (.int .i64 (wrE (N / 2) 240 0 rs)) ∧ St w0 w' N b p O (stepR N L rs) ∧ Mod O w w' := by
  obtain ⟨sb, mb, ub, d, h1, rfl, h3, h4⟩ := h.has
  refine (reset_any h1 hv hl (by omega)).mono ?_
  rw [h3]
  rintro e w' ⟨rfl, ⟨he, hm⟩ | ⟨he, hm, d', e1, e2, hL⟩⟩
  · refine ⟨rfl, ?_, hm.weaken fun _ _ f => f.elim⟩
    unfold stepR
    rw [if_neg he]
    exact h.stay hm
  · have hmO : Mod O w w' := hm.weaken fun q _ e => h4 q e
    refine ⟨rfl, ?_, hmO⟩
    unfold stepR
    rw [if_pos he]
    exact ⟨⟨sb, mb, ub, d', hL, e1, e2, h4⟩, h.low, fun q hq => Nat.lt_of_lt_of_le (h.high q hq) hm.size, h.mod.then hmO fun i hi e => by have := h.low i e; omega⟩

theorem St.count {w0 w : World} {N b p : Nat} {O : Nat → Prop} {L : Lg} (h : St w0 w N b p O L) :
    Calls Try.prog 32 #[.pointer (some ⟨p, 0, none⟩)] w fun e w' => e = .returned (.int .i64 (L.all.length : Int)) ∧ w' = w := by
  obtain ⟨sb, mb, ub, d, h1, -⟩ := h.has
  exact count_any (cell_of (i := 4) h1.at_.obj rfl)

theorem St.room {w0 w : World} {N b p : Nat} {O : Nat → Prop} {L : Lg} (h : St w0 w N b p O L) :
    Calls Try.prog 35 #[.pointer (some ⟨p, 0, none⟩)] w fun e w' => e = .returned (.int .i64 (roomI (N / 2) 240 L.at_)) ∧ w' = w := by
  obtain ⟨sb, mb, ub, d, h1, rfl, h3, -⟩ := h.has
  have := room_any h1
  rw [h3] at this
  exact this

theorem OwnRecs.recsO {w : World} {base p ub : Nat} {O : Nat → Prop} {v : Value} {rs : List (List UInt8)} {cp : Array Value} {D : DataW Value} (h : OwnRecs w base v rs) (hO : ∀ q, O q → q < base) (hp : w.heap[p]? = some (.cells cp 84 (0, 0))) (hu : Mp w 3 ub D) :
    Recs w (fun q => O q ∨ q = p ∨ q = ub) v rs := by
  obtain ⟨vs, h1, h2, h3⟩ := h.row
  have key : ∀ {n : Nat} {xs : List Value} {x : Value} (t : TypeId), t ≠ 84 → Sl w (fun k => k < base) t x n xs → Sl w (fun q => O q ∨ q = p ∨ q = ub) t x n xs := by
    rintro n xs x t ht (hs | ⟨blk, o, c, cur, fz, hv, hn, hc, hx, hh, hl, hr⟩)
    · exact .inl hs
    · refine .inr ⟨blk, o, c, cur, fz, hv, hn, hc, ?_, hh, hl, hr⟩
      rintro (e | e | e)
      · exact hx (hO _ e)
      · subst e; rw [hp] at hh; cases hh; exact ht rfl
      · subst e; exact mp_not_cells hu _ _ _ hh
  exact ⟨vs, h1, key _ (by decide) (Sl.of_own h2 fun q h1 h2 => by omega), fun j u r hu' hr => key _ (by decide) (h3 j u r hu' hr)⟩

theorem St.reopen {w0 w : World} {N b p : Nat} {O : Nat → Prop} {L : Lg} (h : St w0 w N b p O L) :
    Calls Try.prog 28 #[.pointer (some ⟨b, 0, none⟩)] w fun e w' => ∃ (p' : Nat) (v : Value) (O' : Nat → Prop), e = .returned (.tuple #[.pointer (some ⟨p', 0, none⟩), v, .int .i64 0]) ∧ St w0 w' N b p' O' L ∧ St w0 w' N b p O L ∧ Recs w' O' v L.all ∧ (∀ q, q < w.heap.size → O' q → O q) ∧ Mod No w w' := by
  obtain ⟨sb, mb, ub, d, h1, rfl, h3, h4⟩ := h.has
  refine (open_has h1.n h1.sz h1.well h1.disk h1.ok).mono ?_
  rintro e w' ⟨p', ub', v, rfl, hL, hr, hm, hp, hu⟩
  have hsz := h.mod.size
  obtain ⟨es, cc, hx⟩ := hL.at_.undone.heap
  refine ⟨p', v, fun q => O q ∨ q = p' ∨ q = ub', rfl, ⟨⟨sb, mb, ub', d, hL, rfl, h3, fun q e => ?_⟩, fun q e => ?_, fun q e => ?_, h.mod.trans hm⟩, h.stay hm, hr.recsO h.high hL.at_.obj hL.at_.undone, fun q hq e => ?_, hm⟩
  · rcases e with e | e | e
    · exact .inl (h4 q (.inl e))
    · exact .inr (.inr e)
    · exact .inr (.inl e)
  · rcases e with e | e | e
    · exact h.low q e
    · omega
    · omega
  · rcases e with e | e | e
    · exact Nat.lt_of_lt_of_le (h.high q e) hm.size
    · subst e; exact lt_of_heap hL.at_.obj
    · subst e; exact lt_of_heap hx
  · rcases e with e | e | e
    · exact e
    · omega
    · omega

/-- A disk, new since w0, of which nobody else has anything: its log is opened. -/
theorem St.first {w0 w : World} {n : Int} {N b sb mb : Nat} (hN : ((Dk.new n 256).n) = N) (hN2 : 16 ≤ N) (hd : DkAt w No b sb mb (Dk.new n 256)) (hb : w0.heap.size ≤ b ∧ w0.heap.size ≤ sb ∧ w0.heap.size ≤ mb) (hm0 : Mod No w0 w) :
    Calls Try.prog 28 #[.pointer (some ⟨b, 0, none⟩)] w fun e w' => ∃ (p : Nat) (v : Value) (O : Nat → Prop), e = .returned (.tuple #[.pointer (some ⟨p, 0, none⟩), v, .int .i64 0]) ∧ St w0 w' N b p O ⟨0, 0, 0, []⟩ ∧ Recs w' O v [] ∧ Mod No w w' := by
  subst hN
  refine (open_has (L := ⟨0, 0, 0, []⟩) hN2 (by decide : 128 ≤ 256) (new_well n 256) hd (new_log n 256)).mono ?_
  rintro e w' ⟨p, ub, v, rfl, hL, hr, hm, hp, hu⟩
  have hsz := hm0.size
  obtain ⟨es, cc, hx⟩ := hL.at_.undone.heap
  refine ⟨p, v, fun q => Own3 b sb mb q ∨ q = p ∨ q = ub, rfl, ⟨⟨sb, mb, ub, Dk.new n 256, hL, rfl, rfl, fun q e => ?_⟩, fun q e => ?_, fun q e => ?_, hm0.trans hm⟩, hr.recsO (fun q e => hd.lt e) hL.at_.obj hL.at_.undone, hm⟩
  · rcases e with e | e | e
    · exact .inl e
    · exact .inr (.inr e)
    · exact .inr (.inl e)
  · rcases e with (e | e | e) | e | e <;> omega
  · rcases e with e | e | e
    · exact Nat.lt_of_lt_of_le (hd.lt e) hm.size
    · subst e; exact lt_of_heap hL.at_.obj
    · subst e; exact lt_of_heap hx

/-- batch, beside a log. -/
theorem St.batch {w0 w : World} {N b p : Nat} {O : Nat → Prop} {L : Lg} (h : St w0 w N b p O L) (q : Int) (i : Nat) (hq : q = (i : Int)) (hi : i ≤ 1000) (a : Option Addr) (n c : Nat) (bs : List UInt8) (hlen : bs.length = n) (hn : n ≤ 1000) (hin : In w a n (bv bs)) :
    Calls Try.prog 30 #[.int .i64 q, .slice a n c] w fun e w' => ∃ v', e = .returned v' ∧ Recs w' O v' (batchB i bs) ∧ St w0 w' N b p O L ∧ Mod No w w' := by
  subst hq
  refine (batch_any i hi a n c bs hlen hn hin).mono ?_
  rintro e w' ⟨v', rfl, hr, hm⟩
  exact ⟨v', rfl, hr.recs fun k hk e => by have := h.high k e; omega, h.stay hm, hm⟩

theorem in_lit {w : World} {g n : Nat} (l : List UInt8) {xs : Array Value} {t : TypeId} {fz : Nat × Nat} (hg : w.heap[g]? = some (.cells xs t fz)) (hx : xs = (bv l).toArray) (hn : l.length = n) : In w (some ⟨g, 0, none⟩) n (bv l) := by
  subst hx hn
  refine ⟨by simp, fun i hi => ⟨g, 0, rfl, ?_⟩⟩
  rw [Nat.zero_add]
  exact cell_of hg (bv_get l i hi) |>.trans (bv_get l i hi).symm

theorem stepC_turn (N : Nat) (L : Lg) (rs : List (List UInt8)) : (stepC N L rs).turn = L.turn := by
  unfold stepC; split <;> rfl

theorem batchB_body (i : Nat) (bs : List UInt8) : (bodyB (batchB i bs)).length ≤ 259 * bs.length := by
  have h : ∀ l : List (List UInt8), (∀ r ∈ l, r.length ≤ 255) → (bodyB l).length ≤ 259 * l.length := by
    intro l
    induction l with
    | nil => intro _; simp [bodyB]
    | cons r l ih =>
      intro hr
      have h1 := hr r (by simp)
      have h2 := ih fun r' h' => hr r' (by simp [h'])
      have e : bodyB (r :: l) = recB r ++ bodyB l := by simp [bodyB]
      rw [e, List.length_append, List.length_cons]
      simp only [recB, List.length_append, be_len]
      omega
  have := h (batchB i bs) (fun r hr => batchB_mem hr)
  rwa [batchB_len] at this

theorem batchB_short (i : Nat) (bs : List UInt8) : (batchB i bs).any isLong = false := by
  rw [List.any_eq_false]
  intro r hr
  have := batchB_mem hr
  unfold isLong
  simp; omega

theorem wrE_batch {H at_ i : Nat} {bs : List UInt8} (h : 32 + 259 * bs.length ≤ (H - at_) * 240) : wrE H 240 at_ (batchB i bs) = 0 := by
  unfold wrE
  rw [if_neg (by rw [batchB_short]; decide), if_neg (by have := batchB_body i bs; omega)]

end Go.Proofs.Ytnchclleiccofaa
