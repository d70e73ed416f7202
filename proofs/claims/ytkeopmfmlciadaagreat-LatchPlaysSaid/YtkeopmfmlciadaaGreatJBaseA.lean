/-
  Layer 3, the disk: Write. No statement is proved here; no condition.
-/
import Derived.Test.YtkeopmfmlciadaaGreatRows
import Derived.WalkKit
import Derived.WalkSpells
import Derived.WalkLawsBesides
import Derived.BigQuiet
import Derived.Deep.QuietTactic
import Derived.Deep.RegionHeld3
import Derived.Lib.Hide
import Derived.Maps.Own
import Derived.Maps.OwnOps
import Derived.Maps.OwnSet
import Derived.Maps.RangeWalk
namespace Go.Proofs.YtkeopmfmlciadaaGreat
open Go.RowKit

/-- A post that the walk cannot look into. -/
theorem calls_hide {P : Program} {f : FuncId} {args : Array Value} {w : World} {R : Ending → World → Prop}
    (h : ∀ R' : Ending → World → Prop, Hid (∀ e w', R e w' → R' e w') → Calls P f args w R') : Calls P f args w R :=
  h R (Lib.hid fun _ _ h => h)

theorem fin {R R' : Ending → World → Prop} (h : Hid (∀ e w', R e w' → R' e w')) {e : Ending} {w' : World} (hr : R e w') : R' e w' := h.out _ _ hr

theorem cell_of {w : World} {b i : Nat} {xs : List Value} {e : TypeId} {fz : Nat × Nat} {v : Value} (h : w.heap[b]? = some (.cells xs.toArray e fz)) (hi : xs[i]? = some v) : w.cell? ⟨b, i, none⟩ = some v := by
  simp [World.cell?, h, hi]
theorem cell_ofA {w : World} {b i : Nat} {xs : Array Value} {e : TypeId} {fz : Nat × Nat} {v : Value} (h : w.heap[b]? = some (.cells xs e fz)) (hi : xs[i]? = some v) : w.cell? ⟨b, i, none⟩ = some v := by
  simp [World.cell?, h, hi]
theorem frozen_of {w : World} {b : Nat} {xs : Array Value} {e : TypeId} (i : Nat) (h : w.heap[b]? = some (.cells xs e (0, 0))) : w.frozen? ⟨b, i, none⟩ = false := by
  simp [World.frozen?, h]
theorem lt_of_heap {w : World} {b : Nat} {o : Obj} (h : w.heap[b]? = some o) : b < w.heap.size := by
  rcases Nat.lt_or_ge b w.heap.size with h' | h'
  · exact h'
  · simp [Array.getElem?_eq_none h'] at h
theorem heap_setCell {w : World} {b i : Nat} {xs : Array Value} {e : TypeId} {fz : Nat × Nat} (h : w.heap[b]? = some (.cells xs e fz)) (v : Value) :
    (w.setCell ⟨b, i, none⟩ v).heap[b]? = some (.cells (xs.setIfInBounds i v) e fz) := by
  simp [World.setCell, Array.getElem?_modify, h]
theorem heap_setCell_ne {w : World} {a : Addr} {k : Nat} (v : Value) (h : k ≠ a.block) : (w.setCell a v).heap[k]? = w.heap[k]? := Below.heap_setCell w a v k h
theorem heap_alloc_new (w : World) (o : Obj) : (w.alloc o).heap[w.heap.size]? = some o := by
  show (w.heap.push o)[w.heap.size]? = _
  simp
theorem heap_alloc_old {w : World} {k : Nat} {x : Obj} (o : Obj) (h : w.heap[k]? = some x) : (w.alloc o).heap[k]? = some x := by
  rw [Below.heap_alloc w o k (lt_of_heap h)]; exact h

theorem heap_at_new (w : World) (o : Obj) {n : Nat} (hn : n = w.heap.size) : (w.alloc o).heap[n]? = some o := by subst hn; exact heap_alloc_new w o

/-- The shape of a slice of one's own that is not empty. -/
theorem own_shape {w : World} {base : Nat} {e : TypeId} {size : Nat} {v : Value} {n : Nat} {xs : List Value} (h : w.ownsRow base e size v n xs) (hn : 0 < n) : ∃ g cap, v = .slice (some ⟨g, 0, none⟩) n cap ∧ base ≤ g := by
  obtain ⟨_, ⟨_, h0⟩ | ⟨g, cap, cur, hv, hg, _⟩⟩ := h
  · omega
  · exact ⟨g, cap, hv, hg⟩

theorem own_len {w : World} {base : Nat} {e : TypeId} {size : Nat} {v : Value} {n : Nat} {xs : List Value} (h : w.ownsRow base e size v n xs) : ∃ a c, v = .slice a n c := by
  obtain ⟨_, ⟨hv, h0⟩ | ⟨g, cap, cur, hv, hg, _⟩⟩ := h
  · exact ⟨none, 0, by rw [hv, h0]⟩
  · exact ⟨_, _, hv⟩
/-- Of what there was, only blocks of S may have turned. -/
structure Mod (S : Nat → Prop) (w w' : World) : Prop where
  os : w'.os = w.os
  tape : w'.tape = w.tape
  output : w'.output = w.output
  size : w.heap.size ≤ w'.heap.size
  block : ∀ k, k < w.heap.size → ¬ S k → w'.heap[k]? = w.heap[k]?

def No : Nat → Prop := fun _ => False

theorem Mod.refl (S : Nat → Prop) (w : World) : Mod S w w := ⟨rfl, rfl, rfl, Nat.le_refl _, fun _ _ _ => rfl⟩
theorem Mod.weaken {S T : Nat → Prop} {w w' : World} (h : Mod S w w') (hs : ∀ k, k < w.heap.size → S k → T k) : Mod T w w' :=
  ⟨h.os, h.tape, h.output, h.size, fun k hk hn => h.block k hk fun s => hn (hs k hk s)⟩
theorem Mod.trans {S : Nat → Prop} {a b c : World} (h : Mod S a b) (k : Mod S b c) : Mod S a c :=
  ⟨k.os.trans h.os, k.tape.trans h.tape, k.output.trans h.output, Nat.le_trans h.size k.size,
    fun i hi hn => (k.block i (Nat.lt_of_lt_of_le hi h.size) hn).trans (h.block i hi hn)⟩
/-- What comes behind may turn what is new besides. -/
theorem Mod.then {S T : Nat → Prop} {a b c : World} (h : Mod S a b) (k : Mod T b c) (ht : ∀ i, i < a.heap.size → T i → S i) : Mod S a c :=
  ⟨k.os.trans h.os, k.tape.trans h.tape, k.output.trans h.output, Nat.le_trans h.size k.size,
    fun i hi hn => (k.block i (Nat.lt_of_lt_of_le hi h.size) fun t => hn (ht i hi t)).trans (h.block i hi hn)⟩
theorem Mod.alloc {S : Nat → Prop} {a w : World} (h : Mod S a w) (o : Obj) : Mod S a (w.alloc o) :=
  h.then (T := No) ⟨rfl, rfl, rfl, by simp, fun k hk _ => Below.heap_alloc _ _ _ hk⟩ (fun _ _ f => f.elim)
theorem Mod.setCell {S : Nat → Prop} {a w : World} (h : Mod S a w) {p : Addr} (hp : p.block < a.heap.size → S p.block) (u : Value) : Mod S a (w.setCell p u) :=
  h.then (T := fun k => k = p.block) ⟨rfl, rfl, rfl, by simp [World.setCell], fun k _ hn => Below.heap_setCell _ _ _ _ hn⟩ (fun i hi e => by subst e; exact hp hi)
theorem Mod.drew {S : Nat → Prop} {a w : World} (h : Mod S a w) : Mod S a w.drew := ⟨h.os, h.tape, h.output, h.size, h.block⟩
theorem Mod.drewN {S : Nat → Prop} {a w : World} (h : Mod S a w) (n : Nat) : Mod S a (w.drewN n) := ⟨h.os, h.tape, h.output, h.size, h.block⟩
theorem Mod.of_below {S : Nat → Prop} {w w' : World} (h : Below w.heap.size w w') : Mod S w w' := ⟨h.os, h.tape, h.output, h.size, fun k hk _ => h.block k hk⟩
theorem Mod.below {w w' : World} (h : Mod No w w') : Below w.heap.size w w' := ⟨h.os, h.tape, h.output, h.size, fun k hk => h.block k hk (fun f => f)⟩
theorem Mod.of_grown {S : Nat → Prop} {w w' : World} {row : Option Nat} (h : w.grownBy w' row) (hr : ∀ k, row = some k → k < w.heap.size → S k) : Mod S w w' :=
  ⟨h.os, h.tape, h.output, h.size, fun k hk hn => h.block k hk fun e => hn (hr k e.symm hk)⟩
theorem Mod.keep {S : Nat → Prop} {w w' : World} (h : Mod S w w') {k : Nat} {o : Obj} (hk : w.heap[k]? = some o) (hn : ¬ S k) : w'.heap[k]? = some o := by
  rw [h.block k (lt_of_heap hk) hn]; exact hk

theorem lt_of_cell {w : World} {a : Addr} {v : Value} (h : w.cell? a = some v) : a.block < w.heap.size := World.block_lt_of_cell? w _ h
theorem Mod.cell {S : Nat → Prop} {w w' : World} (h : Mod S w w') {a : Addr} {v : Value} (hc : w.cell? a = some v) (hn : ¬ S a.block) : w'.cell? a = some v := by
  rw [World.cell?_of_block (w := w) (h.block a.block (lt_of_cell hc) hn)]; exact hc

/-- A slice that reads as the cells xs (n elements of type e), and lies outside X. -/
def Sl (w : World) (X : Nat → Prop) (e : TypeId) (v : Value) (n : Nat) (xs : List Value) : Prop :=
  (v = .slice none 0 0 ∧ n = 0 ∧ xs = []) ∨
  ∃ blk o c cur fz, v = .slice (some ⟨blk, o, none⟩) n c ∧ n ≤ c ∧ c ≤ maxLen ∧ ¬ X blk ∧ w.heap[blk]? = some (.cells cur e fz) ∧ o + xs.length ≤ cur.size ∧
    ∀ i, i < xs.length → cur[o + i]? = xs[i]?

theorem Sl.keep {S X : Nat → Prop} {w w' : World} {e : TypeId} {v : Value} {n : Nat} {xs : List Value} (h : Sl w X e v n xs) (hm : Mod S w w')
    (hs : ∀ k cur fz, S k → ¬ X k → w.heap[k]? ≠ some (.cells cur e fz)) : Sl w' X e v n xs := by
  rcases h with h | ⟨blk, o, c, cur, fz, hv, hn, hc, hx, hh, hl, hr⟩
  · exact .inl h
  · exact .inr ⟨blk, o, c, cur, fz, hv, hn, hc, hx, hm.keep hh (fun s => hs blk cur fz s hx hh), hl, hr⟩

theorem Sl.shrink {X Y : Nat → Prop} {w : World} {e : TypeId} {v : Value} {n : Nat} {xs : List Value} (h : Sl w X e v n xs) (hy : ∀ k, k < w.heap.size → Y k → X k) : Sl w Y e v n xs := by
  rcases h with h | ⟨blk, o, c, cur, fz, hv, hn, hc, hx, hh, hl, hr⟩
  · exact .inl h
  · exact .inr ⟨blk, o, c, cur, fz, hv, hn, hc, fun y => hx (hy blk (lt_of_heap hh) y), hh, hl, hr⟩

theorem Sl.of_own {X : Nat → Prop} {w : World} {base : Nat} {e : TypeId} {size : Nat} {v : Value} {n : Nat} {xs : List Value} (h : w.ownsRow base e size v n xs) (hx : ∀ k, base ≤ k → ¬ X k) : Sl w X e v n xs := by
  obtain ⟨hl, h | ⟨g, cap, cur, hv, hg, hh, hn, hc, hs, ht⟩⟩ := h
  · obtain ⟨hv, hn⟩ := h
    subst hn
    exact .inl ⟨hv, rfl, List.eq_nil_of_length_eq_zero (by simpa using hl)⟩
  · have hle : xs.length ≤ cur.size := by
      rw [← ht]; simp
      exact Nat.min_le_right _ _
    refine .inr ⟨g, 0, cap, cur, (0, 0), hv, hn, hc, hx g hg, hh, by simpa using hle, fun i hi => ?_⟩
    rw [← ht, List.getElem?_take, if_pos (by rw [← hl]; exact hi)]
    simp

theorem Sl.cell {X : Nat → Prop} {w : World} {e : TypeId} {n c : Nat} {xs : List Value} {a : Addr} (h : Sl w X e (.slice (some a) n c) n xs) {i : Nat} (hi : i < xs.length) :
    w.cell? ⟨a.block, a.off + i, none⟩ = xs[i]? := by
  rcases h with ⟨h, _⟩ | ⟨blk, o, c', cur, fz, hv, hn, hc, hx, hh, hl, hr⟩
  · cases h
  · cases hv
    simp only [World.cell?, hh]
    simpa using hr i hi

theorem Sl.len {X : Nat → Prop} {w : World} {e : TypeId} {v : Value} {n : Nat} {xs : List Value} (h : Sl w X e v n xs) : ∃ a c, v = .slice a n c := by
  rcases h with ⟨hv, hn, _⟩ | ⟨blk, o, c, _, _, hv, _⟩
  · exact ⟨none, 0, by rw [hv, hn]⟩
  · exact ⟨_, _, hv⟩
/-- The shape of a slice that is not empty. -/
theorem Sl.shape {X : Nat → Prop} {w : World} {e : TypeId} {v : Value} {n : Nat} {xs : List Value} (h : Sl w X e v n xs) (hn : 0 < n) : ∃ blk o c, v = .slice (some ⟨blk, o, none⟩) n c ∧ n ≤ c ∧ c ≤ maxLen ∧ ¬ X blk := by
  rcases h with ⟨_, h0, _⟩ | ⟨blk, o, c, _, _, hv, h1, h2, h3, _⟩
  · omega
  · exact ⟨blk, o, c, hv, h1, h2, h3⟩

theorem Sl.avoid {X : Nat → Prop} {w : World} {e : TypeId} {v : Value} {n : Nat} {xs : List Value} (h : Sl w X e v n xs) : Sl w (fun q => X q ∨ w.heap.size ≤ q) e v n xs := by
  rcases h with h | ⟨blk, o, c, cur, fz, hv, hn, hc, hx, hh, hl, hr⟩
  · exact .inl h
  · exact .inr ⟨blk, o, c, cur, fz, hv, hn, hc, fun h => h.elim hx (fun h => by have := lt_of_heap hh; omega), hh, hl, hr⟩

/-- Bytes as values. -/
def bv (l : List UInt8) : List Value := l.map fun c => .int .u8 c.toNat
@[simp] theorem bv_length (l : List UInt8) : (bv l).length = l.length := by simp [bv]
theorem bv_get (l : List UInt8) (i : Nat) (h : i < l.length) : (bv l)[i]? = some (.int .u8 l[i].toNat) := by simp [bv, h]
theorem bv_one (l : List UInt8) : ∀ u ∈ bv l, u.oneCell' = true := by
  intro u hu
  obtain ⟨_, _, rfl⟩ := List.mem_map.1 hu
  rfl

theorem grown_refl (w : World) (row : Option Nat) : w.grownBy w row := ⟨rfl, rfl, rfl, Nat.le_refl _, fun _ _ _ => rfl⟩

/-- append of whatever slice that is read (nil too) to a slice of one's own. -/
theorem app_sl {P : Program} (w : World) {ops : Array Oper} {rest : List Oper} {o : Oper} {a : Act} {Q : Exit → Act → World → Prop} (hgd : o.guard = none) (s x : Operand) (t : TypeId)
    (ho : o.op = .call { callee := .builtin .append, args := #[s, x], argTypes := #[t, t] })
    (base : Nat) (e : TypeId) (i : TypeInfo) (z : Value) (size bytes : Nat) (ht : P.underlying t = some (.slice e)) (hi : P.info? e = some i) (hz : i.zero = some z)
    (hsize : i.size = size) (hby : i.bytes = bytes) (hzs : z.cells.size = size) (hsz : 0 < size)
    (v : Value) (n : Nat) (xs : List Value) (hs : a.eval s = v) (hown : w.ownsRow base e size v n xs)
    (X : Nat → Prop) (e' : TypeId) (xv : Value) (m : Nat) (news : List Value) (hx : a.eval x = xv) (hsl : Sl w X e' xv m news) (hl : news.length = m * size) (h1 : ∀ u ∈ news, u.oneCell' = true)
    (h63 : n + m ≤ maxLen) (hbytes : (n + m) * bytes ≤ 140737488355328) (hbase : base ≤ w.heap.size)
    (h : ∀ v' w', w'.ownsRow base e size v' (n + m) (xs ++ news) → w.grownBy w' v.ownBlock → (v' = .slice none 0 0 ↔ v = .slice none 0 0 ∧ m = 0) → wpList P ops Q rest (a.put o.dst v') w') : wpList P ops Q (o :: rest) a w := by
  rcases hsl with ⟨rfl, rfl, rfl⟩ | ⟨blk, of, c, cur, fz, rfl, hn, hc, hX, hh, hle, hr⟩
  · refine wpList_plain hgd fun K hK' => ?_
    have hrun := run_append_owned_none (P := P) w base t o.type e i size ht hi v n xs hown
    unfold Oper.wp
    simp only [execOp, ho, resolve, invoke, builtin, Sem.run_bind, Sem.run_pure, Result.andThen_ok, List.map_toArray, List.map_cons, List.map_nil, hs, hx, hrun]
    exact hK' _ _ (h v w (by simpa using hown) (grown_refl _ _) (by simp))
  · refine wpList_append_own w hgd s x t ho base e i z size bytes ht hi hz hsize hby hzs hsz v n xs hs hown _ m c news hx hl (fun j u hu => ?_) h1 h63 hbytes hbase h
    have hj : j < news.length := (List.getElem?_eq_some_iff.1 hu).1
    simp only [World.cell?, Addr.add_lit, hh]
    simpa [hu] using hr j hj

/-- One operation of a region that draws its order, by its own law. -/
theorem step_of {P : Program} {ops : Array Oper} {o : Oper} {a : Act} {w : World} {K : Act → World → Prop} {Q : Exit → Act → World → Prop} {E : Prop} (hg : o.guard = none) (h : o.wp P a w K Q) :
    if Region.wanted o (yielded ops a.tmps) = true then Oper.wp P o a w K Q else E := by
  have hw : Region.wanted o (yielded ops a.tmps) = true := by simp [Region.wanted, hg]
  rw [if_pos hw]
  exact h

theorem wp_app_sl {P : Program} (w : World) {o : Oper} {a : Act} {K : Act → World → Prop} {Q : Exit → Act → World → Prop} (s x : Operand) (t : TypeId)
    (ho : o.op = .call { callee := .builtin .append, args := #[s, x], argTypes := #[t, t] })
    (base : Nat) (e : TypeId) (i : TypeInfo) (z : Value) (size bytes : Nat) (ht : P.underlying t = some (.slice e)) (hi : P.info? e = some i) (hz : i.zero = some z)
    (hsize : i.size = size) (hby : i.bytes = bytes) (hzs : z.cells.size = size) (hsz : 0 < size)
    (v : Value) (n : Nat) (xs : List Value) (hs : a.eval s = v) (hown : w.ownsRow base e size v n xs)
    (X : Nat → Prop) (e' : TypeId) (xv : Value) (m : Nat) (news : List Value) (hx : a.eval x = xv) (hsl : Sl w X e' xv m news) (hl : news.length = m * size) (h1 : ∀ u ∈ news, u.oneCell' = true)
    (h63 : n + m ≤ maxLen) (hbytes : (n + m) * bytes ≤ 140737488355328) (hbase : base ≤ w.heap.size)
    (h : ∀ v' w', w'.ownsRow base e size v' (n + m) (xs ++ news) → w.grownBy w' v.ownBlock → (v' = .slice none 0 0 ↔ v = .slice none 0 0 ∧ m = 0) → K (a.put o.dst v') w') : o.wp P a w K Q := by
  rcases hsl with ⟨rfl, rfl, rfl⟩ | ⟨blk, of, c, cur, fz, rfl, hn, hc, hX, hh, hle, hr⟩
  · have hrun := run_append_owned_none (P := P) w base t o.type e i size ht hi v n xs hown
    unfold Oper.wp
    simp only [execOp, ho, resolve, invoke, builtin, Sem.run_bind, Sem.run_pure, Result.andThen_ok, List.map_toArray, List.map_cons, List.map_nil, hs, hx, hrun]
    exact h v w (by simpa using hown) (grown_refl _ _) (by simp)
  · refine wp_append_own w s x t ho base e i z size bytes ht hi hz hsize hby hzs hsz v n xs hs hown _ m c news hx hl (fun j u hu => ?_) h1 h63 hbytes hbase h
    have hj : j < news.length := (List.getElem?_eq_some_iff.1 hu).1
    simp only [World.cell?, Addr.add_lit, hh]
    simpa [hu] using hr j hj

/-- string(b), at a slice that reads as bytes. -/
theorem string_of {P : Program} {w : World} {X : Nat → Prop} {src dst e e' : TypeId} {v : Value} {l : List UInt8} (h : Sl w X e' v l.length (bv l)) (hs : P.underlying src = some (.slice e)) (he : P.underlying e = some (.int .u8)) (hd : P.underlying dst = some .string) :
    (convert src dst v).run P w = .ok (.string ⟨l.toArray⟩) w := by
  rcases h with ⟨rfl, hn, hl⟩ | ⟨blk, o, c, cur, fz, rfl, hn, hc, hx, hh, hle, hr⟩
  · have : l = [] := List.eq_nil_of_length_eq_zero hn
    subst this
    rw [run_convert_bytes_string w src dst e none 0 0 hs he hd]
    rfl
  · refine run_convert_bytes_back w src dst e ⟨blk, o, none⟩ c l hs he hd fun j hj => ?_
    simp only [World.cell?, Addr.add_lit, hh]
    have := hr j (by simpa using hj)
    rw [bv_get l j hj] at this
    simpa using this

end Go.Proofs.YtkeopmfmlciadaaGreat
namespace Go.Proofs.YtkeopmfmlciadaaGreat
open Go.RowKit

set_option maxRecDepth 100000 in
set_option maxHeartbeats 400000 in
theorem within_any (x l m : Int) (w : World) :
    Calls Tryz.prog 36 #[.int .i64 x, .int .i64 l, .int .i64 m] w fun e w' => e = .returned (.int .i64 (min (max x l) m)) ∧ w = w' := by
  refine calls_hide fun R hR => ?_
  rcases Int.lt_or_le x l with h1 | h1
  · rcases Int.lt_or_le m l with h2 | h2
    · have e1 : min (max x l) m = m := by omega
      rw [e1] at hR; clear e1
      go_enter Tryz.func36, Tryz.ntmps36
      go_wp2
      exact fin hR ⟨rfl, rfl⟩
    · have e1 : min (max x l) m = l := by omega
      rw [e1] at hR; clear e1
      go_enter Tryz.func36, Tryz.ntmps36
      go_wp2
      exact fin hR ⟨rfl, rfl⟩
  · rcases Int.lt_or_le m x with h2 | h2
    · have e1 : min (max x l) m = m := by omega
      rw [e1] at hR; clear e1
      go_enter Tryz.func36, Tryz.ntmps36
      go_wp2
      exact fin hR ⟨rfl, rfl⟩
    · have e1 : min (max x l) m = x := by omega
      rw [e1] at hR; clear e1
      go_enter Tryz.func36, Tryz.ntmps36
      go_wp2
      exact fin hR ⟨rfl, rfl⟩

set_option maxRecDepth 100000 in
set_option maxHeartbeats 400000 in
theorem sectors_any (p : Addr) (a : Option Addr) (n c : Nat) (w : World) (h0 : w.cell? p = some (.slice a n c)) :
    Calls Tryz.prog 53 #[.pointer (some p)] w fun e w' => e = .returned (.int .i64 n) ∧ w = w' := by
  go_enter Tryz.func53, Tryz.ntmps53
  go_wp2
  go_ret
  exact ⟨rfl, rfl⟩

set_option maxRecDepth 100000 in
set_option maxHeartbeats 400000 in
theorem size_any (p : Addr) (sb n c : Nat) (a : Option Addr) (m k : Nat) (w : World) (hn : 0 < n) (h0 : w.cell? p = some (.slice (some ⟨sb, 0, none⟩) n c)) (h1 : w.cell? ⟨sb, 0, none⟩ = some (.slice a m k)) :
    Calls Tryz.prog 54 #[.pointer (some p)] w fun e w' => e = .returned (.int .i64 m) ∧ w = w' := by
  go_enter Tryz.func54, Tryz.ntmps54
  go_wp2
  go_ret
  exact ⟨rfl, rfl⟩

/-- What 'at' answers. -/
def atE (dead : Bool) (i : Int) (n : Nat) : Int := if dead then 32 else if i < 0 ∨ (n : Int) ≤ i then 30 else 0

set_option maxRecDepth 100000 in
set_option maxHeartbeats 400000 in
theorem at_any (b : Nat) (sa : Option Addr) (n c : Nat) (vm : Value) (cut : Int) (dead : Bool) (i : Int) (w : World)
    (hb : w.heap[b]? = some (.cells #[.slice sa n c, vm, .int .i64 cut, .bool dead] 84 (0, 0))) :
    Calls Tryz.prog 118 #[.pointer (some ⟨b, 0, none⟩), .int .i64 i] w fun e w' => e = .returned (.int .i64 (atE dead i n)) ∧ w = w' := by
  have c0 := cell_of (i := 0) hb rfl
  have c3 := cell_of (i := 3) hb rfl
  clear hb
  refine calls_hide fun R hR => ?_
  cases dead
  · rcases Int.lt_or_le i 0 with h1 | h1
    · go_enter Tryz.func118, Tryz.ntmps118
      go_wp2
      exact fin hR ⟨by simp [atE, h1], rfl⟩
    · rcases Int.lt_or_le i n with h2 | h2
      · go_enter Tryz.func118, Tryz.ntmps118
        go_wp2
        exact fin hR ⟨by simp [atE]; omega, rfl⟩
      · go_enter Tryz.func118, Tryz.ntmps118
        go_wp2
        exact fin hR ⟨by simp [atE]; omega, rfl⟩
  · go_enter Tryz.func118, Tryz.ntmps118
    go_wp2
    exact fin hR ⟨by simp [atE], rfl⟩

set_option maxRecDepth 100000 in
set_option maxHeartbeats 400000 in
theorem powered_any (b : Nat) (vs vm : Value) (cut : Int) (dead : Bool) (w : World) (hcut : -1 ≤ cut) (hcut2 : cut ≤ 9223372036854775807)
    (hb : w.heap[b]? = some (.cells #[vs, vm, .int .i64 cut, .bool dead] 84 (0, 0))) :
    Calls Tryz.prog 119 #[.pointer (some ⟨b, 0, none⟩)] w fun e w' =>
      e = .returned (.int .i64 (if cut = 0 then 32 else 0)) ∧
      w'.heap[b]? = some (.cells #[vs, vm, .int .i64 (if 0 < cut then cut - 1 else cut), .bool (if cut = 0 then true else dead)] 84 (0, 0)) ∧ Mod (· = b) w w' ∧ w'.heap.size = w.heap.size := by
  have c2 := cell_of (i := 2) hb rfl
  have c3 := cell_of (i := 3) hb rfl
  have f2 := frozen_of 2 hb
  have f3 := frozen_of 3 hb
  have HB := Lib.hid hb
  clear hb
  refine calls_hide fun R hR => ?_
  by_cases h0 : cut = 0
  · subst h0
    go_enter Tryz.func119, Tryz.ntmps119
    go_wp2
    exact fin hR ⟨rfl, by rw [heap_setCell HB.out]; rfl, (Mod.refl (· = b) _).setCell (fun _ => rfl) _, by simp⟩
  · have hb0 : (cut == 0) = false := by simpa using h0
    by_cases h1 : 0 < cut
    · go_enter Tryz.func119, Tryz.ntmps119
      go_wp2
      exact fin hR ⟨by simp [h0], by rw [heap_setCell HB.out]; simp [h0, h1], (Mod.refl (· = b) _).setCell (fun _ => rfl) _, by simp⟩
    · go_enter Tryz.func119, Tryz.ntmps119
      go_wp2
      refine fin hR ⟨by simp [h0], ?_, Mod.refl _ _, rfl⟩
      rw [HB.out, if_neg (by omega), if_neg h0]

end Go.Proofs.YtkeopmfmlciadaaGreat
namespace Go.Proofs.YtkeopmfmlciadaaGreat
open Go.RowKit Go.Maps

/-- An element, as it stands. -/
def heldR : Value → Option (DataW Value × List MemPlace) := fun v => some (.held v, [])

/-- Block b is a map that reads as D. -/
def Mp (w : World) (k : TypeId) (b : Nat) (D : DataW Value) : Prop := w.ownsMap Tryz.prog k heldR b (Maps.size D) D

theorem Mp.of_owns {w : World} {k : TypeId} {b n : Nat} {D : DataW Value} (h : w.ownsMap Tryz.prog k heldR b n D) : Mp w k b D := by
  obtain ⟨es, clock, hb, F, _, rfl⟩ := h
  exact ⟨es, clock, hb, F, by simp [Maps.size, length_sorted], rfl⟩

theorem Mp.heap {w : World} {k : TypeId} {b : Nat} {D : DataW Value} (h : Mp w k b D) : ∃ es clock, w.heap[b]? = some (.map es clock) := by
  obtain ⟨es, clock, hb, _⟩ := h
  exact ⟨es, clock, hb⟩

theorem Mp.keep {S : Nat → Prop} {w w' : World} {k : TypeId} {b : Nat} {D : DataW Value} (h : Mp w k b D) (hm : Mod S w w') (hs : ¬ S b) : Mp w' k b D := by
  obtain ⟨es, clock, hb, r⟩ := h
  exact ⟨es, clock, hm.keep hb hs, r⟩

theorem Mp.made (w : World) (k : TypeId) : Mp (w.alloc (.map #[] 0)) k w.heap.size (.map []) := World.ownsMap_made w _ _ _

theorem zero_of {w : World} {e : TypeId} {z : Value} (hz : (Tryz.prog.info? e).bind (·.zero) = some z) : (zeroValue e).run Tryz.prog w = .ok z w := by
  cases hi : Tryz.prog.info? e with
  | none => simp [hi] at hz
  | some i =>
    simp only [hi, Option.bind_some] at hz
    unfold zeroValue typeInfo
    simp [hi, hz]

section
variable {w : World} {t k e : TypeId} {b : Nat} {D : DataW Value} {key : Value} {kl : Lit}

theorem Mp.look_hit {v : Value} {z : Value} (h : Mp w k b D) (K : Keyed Tryz.prog k) (ht : Tryz.prog.underlying t = some (.map k e)) (hz : (zeroValue e).run Tryz.prog w = .ok z w) (hkey : keyOf Tryz.prog k key = some kl)
    (hh : Maps.has D kl = true) (hat : ∀ zd, D.atKey kl zd = .held v) : (Instr.lookup t (.map (some b)) key true).run Tryz.prog w = .ok (.tuple #[v, .bool true]) w := by
  obtain ⟨v', ps, hrun, hv⟩ := World.ownsMap.look_ok h K ht hz (zd := .held z) (zp := []) rfl hkey
  rw [hh] at hrun
  rw [hat] at hv
  cases hv
  exact hrun

theorem Mp.look_miss {z : Value} (h : Mp w k b D) (K : Keyed Tryz.prog k) (ht : Tryz.prog.underlying t = some (.map k e)) (hz : (zeroValue e).run Tryz.prog w = .ok z w) (hkey : keyOf Tryz.prog k key = some kl)
    (hh : Maps.has D kl = false) : (Instr.lookup t (.map (some b)) key true).run Tryz.prog w = .ok (.tuple #[z, .bool false]) w := by
  obtain ⟨v', ps, hrun, hv⟩ := World.ownsMap.look_ok h K ht hz (zd := .held z) (zp := []) rfl hkey
  rw [hh] at hrun
  rw [Maps.atKey_of_not_has hh] at hv
  cases hv
  exact hrun

theorem Mp.get_hit {v : Value} {z : Value} (h : Mp w k b D) (K : Keyed Tryz.prog k) (ht : Tryz.prog.underlying t = some (.map k e)) (hz : (zeroValue e).run Tryz.prog w = .ok z w) (hkey : keyOf Tryz.prog k key = some kl)
    (hat : ∀ zd, D.atKey kl zd = .held v) : (Instr.lookup t (.map (some b)) key false).run Tryz.prog w = .ok v w := by
  obtain ⟨v', ps, hrun, hv⟩ := World.ownsMap.lookup h K ht hz (zd := .held z) (zp := []) rfl hkey
  rw [hat] at hv
  cases hv
  exact hrun

theorem Mp.get_miss {z : Value} (h : Mp w k b D) (K : Keyed Tryz.prog k) (ht : Tryz.prog.underlying t = some (.map k e)) (hz : (zeroValue e).run Tryz.prog w = .ok z w) (hkey : keyOf Tryz.prog k key = some kl)
    (hh : Maps.has D kl = false) : (Instr.lookup t (.map (some b)) key false).run Tryz.prog w = .ok z w := by
  obtain ⟨v', ps, hrun, hv⟩ := World.ownsMap.lookup h K ht hz (zd := .held z) (zp := []) rfl hkey
  rw [Maps.atKey_of_not_has hh] at hv
  cases hv
  exact hrun

theorem mod_of_turned {w w' : World} {b : Nat} (h : w.mapTurned w' b) : Mod (· = b) w w' ∧ w'.heap.size = w.heap.size := by
  refine ⟨Mod.of_grown h.grown (by rintro k ⟨⟩ _; rfl), ?_⟩
  obtain ⟨es, clock, es', clock', hb, rfl⟩ := h
  simp [Go.ChangeMaps.setBlock]

theorem Mp.store {val : Value} (h : Mp w k b D) (K : Keyed Tryz.prog k) (ht : Tryz.prog.underlying t = some (.map k e)) (hn : Maps.size D < maxLen) (hkey : keyOf Tryz.prog k key = some kl) :
    ∃ w', (Instr.mapUpdate t (.map (some b)) key val).run Tryz.prog w = .ok () w' ∧ Mp w' k b (D.put kl (.held val)) ∧ Mod (· = b) w w' ∧ w'.heap.size = w.heap.size := by
  obtain ⟨w', hrun, ho, ht'⟩ := World.ownsMap.store h K ht hn (val := val) (d := .held val) (ps := []) hkey rfl
  obtain ⟨h1, h2⟩ := mod_of_turned ht'
  exact ⟨w', hrun, Mp.of_owns ho, h1, h2⟩

theorem Mp.drop (h : Mp w k b D) (K : Keyed Tryz.prog k) (ht : Tryz.prog.underlying t = some (.map k e)) (hkey : keyOf Tryz.prog k key = some kl) (ty : TypeId) :
    ∃ w', (Builtin.delete_ #[t, k] ty #[.map (some b), key]).run Tryz.prog w = .ok (.tuple #[]) w' ∧ Mp w' k b (D.del kl) ∧ Mod (· = b) w w' ∧ w'.heap.size = w.heap.size := by
  obtain ⟨w', hrun, ho, ht'⟩ := World.ownsMap.drop h K ht hkey ty
  obtain ⟨h1, h2⟩ := mod_of_turned ht'
  exact ⟨w', hrun, Mp.of_owns ho, h1, h2⟩

theorem Mp.clear (h : Mp w k b D) (ht : Tryz.prog.underlying t = some (.map k e)) :
    ∃ w', (∀ ty, (Builtin.clear_ #[t] ty #[.map (some b)]).run Tryz.prog w = .ok (.tuple #[]) w') ∧ Mp w' k b (.map []) ∧ Mod (· = b) w w' ∧ w'.heap.size = w.heap.size := by
  obtain ⟨es, clock, hb, F, _, _⟩ := h
  refine ⟨Go.ChangeMaps.setBlock w b (.map #[] clock), fun ty => ?_, ⟨#[], clock, Go.ChangeMaps.heap_setBlock_same hb _, ?_, by simp, rfl⟩, ?_⟩
  · simp [Builtin.clear_, run_underlying ht, Go.MapKept.run_getObj_map hb, Go.MapKept.run_setObj_map _ hb, Result.andThen, Go.ChangeMaps.setBlock]
  · exact ⟨by simp, Go.MapKept.stamped_empty clock, by simp⟩
  · exact mod_of_turned ⟨es, clock, #[], clock, hb, rfl⟩

/-- m[k] = v, at the operation. -/
theorem wpList_store {ops : Array Oper} {rest : List Oper} {o : Oper} {a : Act} {Q : Exit → Act → World → Prop} (hg : o.guard = none) (m x v : Operand) (t : TypeId) (hop : o.op = Op.mapUpdate t m x v)
    (K : Keyed Tryz.prog k) (ht : Tryz.prog.underlying t = some (.map k e)) (hm : a.eval m = .map (some b)) (h : Mp w k b D) (hn : Maps.size D < maxLen) (key val : Value) (kl : Lit) (hx : a.eval x = key) (hv : a.eval v = val)
    (hkey : keyOf Tryz.prog k key = some kl)
    (hK : ∀ w', Mp w' k b (D.put kl (.held val)) → Mod (· = b) w w' → w'.heap.size = w.heap.size → wpList Tryz.prog ops Q rest (a.put o.dst undef) w') :
    wpList Tryz.prog ops Q (o :: rest) a w := by
  refine wpList_plain hg fun K' hK' => ?_
  obtain ⟨w', hrun, r1, r2, r3⟩ := h.store K ht hn (val := val) hkey
  unfold Oper.wp
  simp [execOp, hop, hm, hx, hv, hrun, Result.andThen]
  exact hK' _ _ (hK w' r1 r2 r3)

/-- m[k] = v, in a region that draws its order. -/
theorem wp_store {o : Oper} {a : Act} {K : Act → World → Prop} {Q : Exit → Act → World → Prop} (m x v : Operand) (t : TypeId) (hop : o.op = Op.mapUpdate t m x v)
    (Ky : Keyed Tryz.prog k) (ht : Tryz.prog.underlying t = some (.map k e)) (hm : a.eval m = .map (some b)) (h : Mp w k b D) (hn : Maps.size D < maxLen) (key val : Value) (kl : Lit) (hx : a.eval x = key) (hv : a.eval v = val)
    (hkey : keyOf Tryz.prog k key = some kl)
    (hK : ∀ w', Mp w' k b (D.put kl (.held val)) → Mod (· = b) w w' → w'.heap.size = w.heap.size → K (a.put o.dst undef) w') : o.wp Tryz.prog a w K Q := by
  obtain ⟨w', hrun, r1, r2, r3⟩ := h.store Ky ht hn (val := val) hkey
  unfold Oper.wp
  simp only [execOp, hop, hm, hx, hv, Sem.run_bind, Sem.run_pure, hrun, Result.andThen]
  exact hK w' r1 r2 r3

/-- delete(m, k), at the operation. -/
theorem wpList_drop {ops : Array Oper} {rest : List Oper} {o : Oper} {a : Act} {Q : Exit → Act → World → Prop} (hg : o.guard = none) (m x : Operand) (t k : TypeId)
    (hop : o.op = Op.call { callee := Callee.builtin Builtin.delete, args := #[m, x], argTypes := #[t, k] })
    (K : Keyed Tryz.prog k) (ht : Tryz.prog.underlying t = some (.map k e)) (hm : a.eval m = .map (some b)) (h : Mp w k b D) (key : Value) (kl : Lit) (hx : a.eval x = key)
    (hkey : keyOf Tryz.prog k key = some kl)
    (hK : ∀ w', Mp w' k b (D.del kl) → Mod (· = b) w w' → w'.heap.size = w.heap.size → wpList Tryz.prog ops Q rest (a.put o.dst (.tuple #[])) w') :
    wpList Tryz.prog ops Q (o :: rest) a w := by
  refine wpList_plain hg fun K' hK' => ?_
  obtain ⟨w', hrun, r1, r2, r3⟩ := h.drop K ht hkey o.type
  unfold Oper.wp
  simp [execOp, hop, resolve, invoke, builtin, hm, hx, hrun, Result.andThen]
  exact hK' _ _ (hK w' r1 r2 r3)

theorem Mp.tidy (h : Mp w k b D) (K : Keyed Tryz.prog k) : Tidy D := World.ownsMap.tidy h K
end

theorem has_iff {es : List (Lit × DataW Value)} {kl : Lit} : Maps.has (.map es) kl = true ↔ ∃ p ∈ es, p.1.sameKey kl = true := by
  simp [Maps.has_eq, List.any_eq_true]

theorem sameKey_self_int (q : IntKind) (i : Int) : (Lit.int q i).sameKey (.int q i) = true := by simp [Lit.sameKey]

/-- A map whose keys are numbers below n has no more than n entries. -/
theorem size_le_of_range {D : DataW Value} {q : IntKind} {n : Nat} (hD : Tidy D) (hr : ∀ kl, Maps.has D kl = true → ∃ i : Nat, i < n ∧ kl = .int q i) (hs : ∀ es, D = .map es → ∀ p ∈ es, ∃ x : Int, p.1 = .int q x) : Maps.size D ≤ n := by
  obtain ⟨es, rfl, hp⟩ := hD
  have hk : ∀ p ∈ es, ∃ i : Nat, i < n ∧ p.1 = .int q i := fun p hpm => by
    obtain ⟨x, hx⟩ := hs es rfl p hpm
    exact hr p.1 (has_iff.2 ⟨p, hpm, by rw [hx]; exact sameKey_self_int q x⟩)
  have hnd : (es.map fun p => p.1).Nodup := by
    rw [List.nodup_iff_pairwise_ne, List.pairwise_map]
    exact hp
  have hsub : (es.map fun p => p.1) ⊆ (List.range n).map fun i : Nat => Lit.int q i := by
    intro l hl
    obtain ⟨p, hpm, rfl⟩ := List.mem_map.1 hl
    obtain ⟨i, hi, e⟩ := hk p hpm
    exact List.mem_map.2 ⟨i, List.mem_range.2 hi, e.symm⟩
  have := hnd.length_le_of_subset hsub
  simpa [Maps.size_eq] using this

theorem ranges_keep {S : Nat → Prop} {w w' : World} {k : TypeId} {b r n : Nat} {D : DataW Value} {left : Lit → Bool} {cnt : Nat} (h : w.ranges Tryz.prog k heldR b r n D left cnt) (hm : Mod S w w') (hb : ¬ S b) (hr : ¬ S r) : w'.ranges Tryz.prog k heldR b r n D left cnt := by
  obtain ⟨es, clock, since, seen, c0, h1, h2, h3, h4, h5, h6⟩ := h
  exact ⟨es, clock, since, seen, c0, hm.keep h1 hb, h2, h3, h4, hm.keep h5 hr, h6⟩

end Go.Proofs.YtkeopmfmlciadaaGreat
namespace Go.Proofs.YtkeopmfmlciadaaGreat
open Go.RowKit Go.Maps

theorem info_u8 : (Tryz.prog.info? 5).map (fun i => (i.zero, i.size, i.bytes)) = some (some (.int .u8 0), 1, 1) := by kernel_rfl
theorem info_bs : (Tryz.prog.info? 45).map (fun i => (i.zero, i.size, i.bytes)) = some (some (.slice none 0 0), 1, 24) := by kernel_rfl

set_option maxRecDepth 100000 in
set_option maxHeartbeats 400000 in
theorem clone_bytes (X : Nat → Prop) (v : Value) (l : List Value) (w : World) (h : Sl w X 5 v l.length l) (h1 : ∀ u ∈ l, u.oneCell' = true) (hsz : l.length ≤ 140737488355328) :
    Calls Tryz.prog 72 #[v] w fun e w' => ∃ v', e = .returned v' ∧ w'.ownsRow w.heap.size 5 1 v' l.length l ∧ (v' = .slice none 0 0 ↔ v = .slice none 0 0) ∧ Mod No w w' := by
  obtain ⟨i0, hi, hz0, hz1, hz2⟩ := info_parts info_u8
  refine calls_hide fun R hR => ?_
  have H := Lib.hid h
  rcases h with ⟨rfl, hn, hl⟩ | ⟨blk, of, c, cur, fz, rfl, hn, hc, hX, hh, hle, hr⟩
  · have hl' := Lib.hid hl
    clear hn hl
    have e1 := Lib.run_eql_slice_nil (P := Tryz.prog)
    go_enter Tryz.func72, Tryz.ntmps72
    go_wp2
    refine fin hR ⟨.slice none 0 0, rfl, ?_, by simp, Mod.refl _ _⟩
    rw [hl'.out]
    exact World.ownsRow_nil _ _ _ _
  · clear hh hr hle
    have e1 := Lib.run_eql_slice_nil (P := Tryz.prog)
    have hown : (w.alloc (.cells #[] 5)).ownsRow w.heap.size 5 1 (.slice (some ⟨w.heap.size, 0, none⟩) 0 0) 0 [] := World.ownsRow_lit w #[] 0 (Nat.le_refl _) (by unfold maxLen; omega) rfl
    have hsl : Sl (w.alloc (.cells #[] 5)) X 5 (.slice (some ⟨blk, of, none⟩) l.length c) l.length l := H.out.keep (S := No) ((Mod.refl No w).alloc _) (fun _ _ _ f => f.elim)
    have HO := Lib.hid hown
    have HS := Lib.hid hsl
    clear hown hsl
    go_enter Tryz.func72, Tryz.ntmps72
    go_wp2_with (at_builtin; refine app_sl _ rfl _ _ 45 rfl w.heap.size 5 i0 (.int .u8 0) 1 1 Tryz.underlying45 hi hz0 hz1 hz2 rfl (by decide) _ _ _ rfl HO.out X 5 _ _ _ rfl HS.out ?_ h1 ?_ ?_ ?_ ?_)
    · simp
    · unfold maxLen; omega
    · omega
    · simp
    intro v' w1 hown' hg hnil
    have HO' := Lib.hid hown'
    have HG := Lib.hid hg
    have HN := Lib.hid hnil
    clear hown' hg hnil
    go_wp2
    refine fin hR ⟨v', rfl, HO'.out, ?_, ?_⟩
    · simp [HN.out]
    · exact ((Mod.refl No w).alloc _).then (Mod.of_grown (S := fun k => k = w.heap.size) HG.out (by rintro k ⟨⟩ _; rfl)) (fun i hi e => by subst e; omega)

/-- A disk, as the document has it: how many sectors, how great; what is sure, what was written since; behind how many writes the power goes (-1: never); whether it is gone. -/
structure Dk where
  n : Nat
  sz : Nat
  sure : Nat → List UInt8
  dirty : Nat → Option (List UInt8)
  cut : Int
  dead : Bool

/-- A sector, as it was written last. -/
def Dk.last (d : Dk) (i : Nat) : List UInt8 := (d.dirty i).getD (d.sure i)

theorem key_int : Keyed Tryz.prog 3 := int_keyed Tryz.underlying3
theorem keyOf_nat (i : Nat) (h : i ≤ 9223372036854775807) : keyOf Tryz.prog 3 (.int .i64 (i : Int)) = some (.int .i64 (i : Int)) :=
  keyOf_int_mk Tryz.underlying3 (WalkArith.wf_i64 (by omega))

/-- The map of what was written. -/
structure DirtyAt (w : World) (X : Nat → Prop) (mb n sz : Nat) (dirty : Nat → Option (List UInt8)) (D : DataW Value) : Prop where
  mp : Mp w 3 mb D
  keys : ∀ kl, Maps.has D kl = true → ∃ i : Nat, i < n ∧ kl = .int .i64 (i : Int)
  gone : ∀ i, i < n → dirty i = none → Maps.has D (.int .i64 (i : Int)) = false
  here : ∀ i l, i < n → dirty i = some l → Maps.has D (.int .i64 (i : Int)) = true ∧ ∃ v, (∀ zd, D.atKey (.int .i64 (i : Int)) zd = .held v) ∧ Sl w X 5 v sz (bv l)

/-- The sectors that are sure. -/
structure SureAt (w : World) (X : Nat → Prop) (sb n sz : Nat) (sure : Nat → List UInt8) (cur : Array Value) : Prop where
  heap : w.heap[sb]? = some (.cells cur 45 (0, 0))
  len : n ≤ cur.size
  cell : ∀ i, i < n → ∃ v, cur[i]? = some v ∧ Sl w X 5 v sz (bv (sure i))

/-- A disk in memory: its struct, its sure sectors, its map; no bytes of its own lie in X. -/
structure DkAt (w : World) (X : Nat → Prop) (b sb mb : Nat) (d : Dk) : Prop where
  obj : ∃ sc, w.heap[b]? = some (.cells #[.slice (some ⟨sb, 0, none⟩) d.n sc, .map (some mb), .int .i64 d.cut, .bool d.dead] 84 (0, 0)) ∧ d.n ≤ sc ∧ sc ≤ maxLen
  sure : ∃ cur, SureAt w X sb d.n d.sz d.sure cur
  dirty : ∃ D, DirtyAt w X mb d.n d.sz d.dirty D
  lenS : ∀ i, i < d.n → (d.sure i).length = d.sz
  lenD : ∀ i l, i < d.n → d.dirty i = some l → l.length = d.sz
  n1 : 1 ≤ d.n
  n2 : d.n ≤ 4096
  s1 : 64 ≤ d.sz
  s2 : d.sz ≤ 4096
  c1 : -1 ≤ d.cut
  c2 : d.cut ≤ 9223372036854775807

/-- What may turn beside a disk: nothing of its own, no bytes but those of X. -/
def Beside (w : World) (X : Nat → Prop) (S : Nat → Prop) : Prop := ∀ k, S k → X k ∨ ∀ cur fz, w.heap[k]? ≠ some (.cells cur 5 fz)

theorem Sl.beside {S X : Nat → Prop} {w w' : World} {v : Value} {n : Nat} {xs : List Value} (h : Sl w X 5 v n xs) (hm : Mod S w w') (hs : Beside w X S) : Sl w' X 5 v n xs :=
  h.keep hm fun k cur fz s nx => (hs k s).elim (fun x => absurd x nx) (fun g => g cur fz)

theorem DirtyAt.keep {S X : Nat → Prop} {w w' : World} {mb n sz : Nat} {dirty : Nat → Option (List UInt8)} {D : DataW Value} (h : DirtyAt w X mb n sz dirty D) (hm : Mod S w w') (h1 : ¬ S mb) (hs : Beside w X S) : DirtyAt w' X mb n sz dirty D :=
  ⟨h.mp.keep hm h1, h.keys, h.gone, fun i l hi hd => let ⟨a, v, e, r⟩ := h.here i l hi hd; ⟨a, v, e, r.beside hm hs⟩⟩

theorem SureAt.keep {S X : Nat → Prop} {w w' : World} {sb n sz : Nat} {sure : Nat → List UInt8} {cur : Array Value} (h : SureAt w X sb n sz sure cur) (hm : Mod S w w') (h1 : ¬ S sb) (hs : Beside w X S) : SureAt w' X sb n sz sure cur :=
  ⟨hm.keep h.heap h1, h.len, fun i hi => let ⟨v, e, r⟩ := h.cell i hi; ⟨v, e, r.beside hm hs⟩⟩

theorem DkAt.keep {S X : Nat → Prop} {w w' : World} {b sb mb : Nat} {d : Dk} (h : DkAt w X b sb mb d) (hm : Mod S w w') (h1 : ¬ S b) (h2 : ¬ S sb) (h3 : ¬ S mb) (hs : Beside w X S) : DkAt w' X b sb mb d := by
  obtain ⟨sc, ho, r⟩ := h.obj
  obtain ⟨cur, hc⟩ := h.sure
  obtain ⟨D, hD⟩ := h.dirty
  exact ⟨⟨sc, hm.keep ho h1, r⟩, ⟨cur, hc.keep hm h2 hs⟩, ⟨D, hD.keep hm h3 hs⟩, h.lenS, h.lenD, h.n1, h.n2, h.s1, h.s2, h.c1, h.c2⟩

theorem beside_no (w : World) (X : Nat → Prop) : Beside w X No := fun _ f => f.elim

theorem DkAt.stay {X : Nat → Prop} {w w' : World} {b sb mb : Nat} {d : Dk} (h : DkAt w X b sb mb d) (hm : Mod No w w') : DkAt w' X b sb mb d :=
  h.keep hm (fun f => f) (fun f => f) (fun f => f) (beside_no _ _)

theorem DirtyAt.size {X : Nat → Prop} {w : World} {mb n sz : Nat} {dirty : Nat → Option (List UInt8)} {D : DataW Value} (h : DirtyAt w X mb n sz dirty D) : Maps.size D ≤ n := by
  refine size_le_of_range (q := .i64) (h.mp.tidy key_int) h.keys fun es hD p hp => ?_
  have h1 := h.keys p.1
  subst hD
  obtain ⟨es', clock, hb, F, _, he⟩ := h.mp
  have hk := Maps.fit_keys F
  cases he
  have hp' : p ∈ es'.toList.map (Go.WideElems.rg Tryz.prog 3 heldR) := (Go.WideShapes.sorted_perm _).mem_iff.1 hp
  obtain ⟨v, hv⟩ := hk p hp'
  obtain ⟨x, _, hx, _⟩ := Maps.keyOf_int_inv Tryz.underlying3 hv
  exact ⟨x, hx⟩

theorem DkAt.mb_ne {X : Nat → Prop} {w : World} {b sb mb : Nat} {d : Dk} (h : DkAt w X b sb mb d) : b ≠ sb ∧ b ≠ mb ∧ sb ≠ mb := by
  obtain ⟨sc, ho, _⟩ := h.obj
  obtain ⟨cur, hc⟩ := h.sure
  obtain ⟨D, hD⟩ := h.dirty
  obtain ⟨es, clock, hm⟩ := hD.mp.heap
  have hs := hc.heap
  refine ⟨fun e => ?_, fun e => ?_, fun e => ?_⟩
  · subst e; rw [ho] at hs; cases hs
  · subst e; rw [ho] at hm; cases hm
  · subst e; rw [hs] at hm; cases hm

theorem zero_bs (w : World) : (zeroValue 45).run Tryz.prog w = .ok (.slice none 0 0) w := zero_of (by kernel_rfl)

set_option maxRecDepth 100000 in
set_option maxHeartbeats 400000 in
theorem read_any (X : Nat → Prop) (b sb mb : Nat) (d : Dk) (i : Int) (w : World) (h : DkAt w X b sb mb d) :
    Calls Tryz.prog 100 #[.pointer (some ⟨b, 0, none⟩), .int .i64 i] w fun e w' => ∃ v, e = .returned (.tuple #[v, .int .i64 (atE d.dead i d.n)]) ∧ Mod No w w' ∧
      (atE d.dead i d.n ≠ 0 → v = .slice none 0 0) ∧ (atE d.dead i d.n = 0 → w'.ownsRow w.heap.size 5 1 v d.sz (bv (d.last i.toNat))) := by
  obtain ⟨sc, ho, hsc1, hsc2⟩ := h.obj
  obtain ⟨cur, hc⟩ := h.sure
  obtain ⟨D, hD⟩ := h.dirty
  refine calls_hide fun R hR => ?_
  have c0 := cell_of (i := 0) ho rfl
  have c1 := cell_of (i := 1) ho rfl
  have HA := Lib.hid (at_any b _ _ _ _ _ _ i w ho)
  by_cases hE : atE d.dead i d.n = 0
  · have hi : 0 ≤ i ∧ i < d.n ∧ d.dead = false := by
      unfold atE at hE
      split at hE
      · omega
      · split at hE
        · omega
        · rename_i h1 h2; simp at h1; exact ⟨by omega, by omega, h1⟩
    obtain ⟨k, rfl⟩ := Int.eq_ofNat_of_zero_le hi.1
    have hk : k < d.n := by omega
    have hkn : d.n ≤ 4096 := h.n2
    have hs2 : d.sz ≤ 4096 := h.s2
    rw [hE] at HA hR
    obtain ⟨v, hv, hsl⟩ := hc.cell k hk
    have cs := cell_ofA hc.heap hv
    have hkey := keyOf_nat k (by omega)
    have e1 := Lib.hid (h.lenS k hk)
    have hlast := Lib.hid (show d.last k = (d.dirty k).getD (d.sure k) from rfl)
    clear hE ho hc hi hv
    cases hd : d.dirty k with
    | none =>
      have hl := hD.mp.look_miss key_int Tryz.underlying80 (zero_bs w) hkey (hD.gone k hk hd)
      have HC := Lib.hid (clone_bytes X v (bv (d.sure k)) w (by rw [bv_length, e1.out]; exact hsl) (bv_one _) (by rw [bv_length, e1.out]; omega))
      have Hd := Lib.hid hd
      clear hkey hD hsl h hd
      go_enter Tryz.func100, Tryz.ntmps100
      go_wp2_with (first | (go_at_call 118; refine HA.out.mono ?_; rintro e w' ⟨rfl, rfl⟩) | (go_at_call 72; refine HC.out.mono ?_; rintro e w' ⟨v', rfl, hown, hnil, hm⟩; have HO := Lib.hid hown; have HM := Lib.hid hm; clear hown hnil hm))
      refine fin hR ⟨v', rfl, HM.out, by simp, fun _ => ?_⟩
      have := HO.out
      rw [bv_length, e1.out] at this
      rw [show Int.toNat (k : Int) = k by omega, hlast.out, Hd.out]
      exact this
    | some l =>
      obtain ⟨hh, v2, hat, hsl2⟩ := hD.here k l hk hd
      have hl := hD.mp.look_hit key_int Tryz.underlying80 (zero_bs w) hkey hh hat
      have e2 := Lib.hid (h.lenD k l hk hd)
      have HC := Lib.hid (clone_bytes X v2 (bv l) w (by rw [bv_length, e2.out]; exact hsl2) (bv_one _) (by rw [bv_length, e2.out]; omega))
      have Hd := Lib.hid hd
      clear hkey hD hsl h hd hh hat hsl2
      go_enter Tryz.func100, Tryz.ntmps100
      go_wp2_with (first | (go_at_call 118; refine HA.out.mono ?_; rintro e w' ⟨rfl, rfl⟩) | (go_at_call 72; refine HC.out.mono ?_; rintro e w' ⟨v', rfl, hown, hnil, hm⟩; have HO := Lib.hid hown; have HM := Lib.hid hm; clear hown hnil hm))
      refine fin hR ⟨v', rfl, HM.out, by simp, fun _ => ?_⟩
      have := HO.out
      rw [bv_length, e2.out] at this
      rw [show Int.toNat (k : Int) = k by omega, hlast.out, Hd.out]
      exact this
  · clear hc hD h ho c0 c1
    generalize atE d.dead i d.n = E at *
    have h1 : (E != 0) = true := by simpa using hE
    have HE := Lib.hid hE
    clear hE
    go_enter Tryz.func100, Tryz.ntmps100
    go_wp2_with (go_at_call 118; refine HA.out.mono ?_; rintro e w' ⟨rfl, rfl⟩)
    exact fin hR ⟨.slice none 0 0, rfl, Mod.refl _ _, fun _ => rfl, fun h => absurd h HE.out⟩

end Go.Proofs.YtkeopmfmlciadaaGreat
namespace Go.Proofs.YtkeopmfmlciadaaGreat
open Go.RowKit

theorem own_heapM {w : World} {base : Nat} {e : TypeId} {size : Nat} {v : Value} {n : Nat} {xs : List Value} (h : w.ownsRow base e size v n xs) {k : Nat} (hk : v.ownBlock = some k) : ∃ cur, w.heap[k]? = some (.cells cur e (0, 0)) := by
  obtain ⟨_, ⟨hv, _⟩ | ⟨g, cap, cur, hv, hg, hh, r⟩⟩ := h
  · rw [hv] at hk; cases hk
  · rw [hv] at hk; cases hk; exact ⟨_, hh⟩

theorem Sl.zero {X : Nat → Prop} {w : World} {e : TypeId} {b o n c : Nat} {xs : List Value} (h : Sl w X e (.slice (some ⟨b, o, none⟩) n c) n xs) : Sl w X e (.slice (some ⟨b, o, none⟩) 0 0) 0 [] := by
  rcases h with ⟨h, _⟩ | ⟨blk, o', c0, cur, fz, hv, hn, hc, hX, hh, hl, hr⟩
  · cases h
  · cases hv
    exact .inr ⟨b, o, 0, cur, fz, rfl, Nat.le_refl _, Nat.zero_le _, hX, hh, by simp only [List.length_nil]; omega, fun i hi => by cases hi⟩

theorem own_keepM {S : Nat → Prop} {w w' : World} {base : Nat} {e : TypeId} {size : Nat} {v : Value} {n : Nat} {xs : List Value} (h : w.ownsRow base e size v n xs) (hm : Mod S w w') (hs : ∀ k, v.ownBlock = some k → ¬ S k) : w'.ownsRow base e size v n xs := by
  obtain ⟨hl, h | ⟨g, cap, cur, hv, hg, hh, r⟩⟩ := h
  · exact ⟨hl, .inl h⟩
  · exact ⟨hl, .inr ⟨g, cap, cur, hv, hg, hm.keep hh (hs g (by rw [hv]; rfl)), r⟩⟩

/-- A part of a slice, whatever its capacity is said to be. -/
theorem Sl.part {X : Nat → Prop} {w : World} {e : TypeId} {b o n c : Nat} {xs : List Value} (h : Sl w X e (.slice (some ⟨b, o, none⟩) n c) n xs) (hx : xs.length = n) (i m c' : Nat) (hm : i + m ≤ n) (h1 : m ≤ c') (h2 : c' ≤ maxLen) :
    Sl w X e (.slice (some ⟨b, o + i, none⟩) m c') m ((xs.drop i).take m) := by
  rcases h with ⟨h, _⟩ | ⟨blk, o', c0, cur, fz, hv, hn, hc, hX, hh, hl, hr⟩
  · cases h
  · cases hv
    refine .inr ⟨b, o + i, c', cur, fz, rfl, h1, h2, hX, hh, ?_, fun j hj => ?_⟩
    · rw [List.length_take, List.length_drop]; omega
    · rw [List.length_take, List.length_drop] at hj
      rw [List.getElem?_take, if_pos (by omega), List.getElem?_drop, ← hr (i + j) (by omega)]
      congr 1; omega

theorem Sl.takeN {X : Nat → Prop} {w : World} {e : TypeId} {b o n c m : Nat} {xs : List Value} (h : Sl w X e (.slice (some ⟨b, o, none⟩) n c) n xs) (hx : xs.length = n) (hm : m ≤ n) : Sl w X e (.slice (some ⟨b, o, none⟩) m c) m (xs.take m) := by
  rcases h with ⟨h, _⟩ | ⟨blk, o', c', cur, fz, hv, hn, hc, hX, hh, hl, hr⟩
  · cases h
  · cases hv
    refine .inr ⟨b, o, c, cur, fz, rfl, by omega, hc, hX, hh, ?_, fun i hi => ?_⟩
    · rw [List.length_take]; omega
    · rw [List.length_take] at hi
      rw [hr i (by omega), List.getElem?_take, if_pos (by omega)]

theorem Sl.dropN {X : Nat → Prop} {w : World} {e : TypeId} {b o n c m : Nat} {xs : List Value} (h : Sl w X e (.slice (some ⟨b, o, none⟩) n c) n xs) (hx : xs.length = n) (hm : m ≤ n) :
    Sl w X e (.slice (if c = m then some ⟨b, o, none⟩ else some ⟨b, o + m, none⟩) (n - m) (c - m)) (n - m) (xs.drop m) := by
  rcases h with ⟨h, _⟩ | ⟨blk, o', c', cur, fz, hv, hn, hc, hX, hh, hl, hr⟩
  · cases h
  · cases hv
    refine .inr ⟨b, if c = m then o else o + m, c - m, cur, fz, by split <;> rfl, by omega, by omega, hX, hh, ?_, fun i hi => ?_⟩
    · rw [List.length_drop]; split <;> omega
    · rw [List.length_drop] at hi
      rw [if_neg (by omega), List.getElem?_drop, ← hr (m + i) (by omega), Nat.add_assoc]

theorem bv_take (l : List UInt8) (n : Nat) : bv (l.take n) = (bv l).take n := by simp [bv, List.map_take]

theorem bv_drop (l : List UInt8) (n : Nat) : bv (l.drop n) = (bv l).drop n := by simp [bv, List.map_drop]

theorem bv_append (a b : List UInt8) : bv (a ++ b) = bv a ++ bv b := by simp [bv]

end Go.Proofs.YtkeopmfmlciadaaGreat
namespace Go.Proofs.YtkeopmfmlciadaaGreat
open Go.RowKit Go.Maps

/-- A sector is written. -/
def Dk.put (d : Dk) (i : Nat) (l : List UInt8) : Dk := { d with dirty := fun k => if k = i then some l else d.dirty k }
/-- Power for one more write or flush. -/
def Dk.power (d : Dk) : Dk := { d with cut := if 0 < d.cut then d.cut - 1 else d.cut, dead := if d.cut = 0 then true else d.dead }

/-- What Write answers, and what the disk is behind it. -/
def Dk.writeE (d : Dk) (i : Int) (n : Nat) : Int := if atE d.dead i d.n ≠ 0 then atE d.dead i d.n else if n ≠ d.sz then 31 else if d.cut = 0 then 32 else 0
def Dk.write (d : Dk) (i : Int) (l : List UInt8) : Dk := if atE d.dead i d.n ≠ 0 ∨ l.length ≠ d.sz then d else if d.cut = 0 then d.power else d.power.put i.toNat l

/-- The blocks that a disk's calls may turn. -/
def Own2 (b mb : Nat) : Nat → Prop := fun k => k = b ∨ k = mb

theorem DkAt.turned {X : Nat → Prop} {w w' : World} {b sb mb : Nat} {d : Dk} {cut : Int} {dead : Bool} (h : DkAt w X b sb mb d) (hm : Mod (· = b) w w') (h1 : -1 ≤ cut) (h2 : cut ≤ 9223372036854775807)
    (ho : ∀ sc, w.heap[b]? = some (.cells #[.slice (some ⟨sb, 0, none⟩) d.n sc, .map (some mb), .int .i64 d.cut, .bool d.dead] 84 (0, 0)) →
      w'.heap[b]? = some (.cells #[.slice (some ⟨sb, 0, none⟩) d.n sc, .map (some mb), .int .i64 cut, .bool dead] 84 (0, 0))) :
    DkAt w' X b sb mb { d with cut := cut, dead := dead } := by
  obtain ⟨hn1, hn2, hn3⟩ := h.mb_ne
  obtain ⟨sc, hobj, r⟩ := h.obj
  have hb : Beside w X (· = b) := fun k hk => .inr fun cur fz e => by subst hk; rw [hobj] at e; cases e
  obtain ⟨cur, hc⟩ := h.sure
  obtain ⟨D, hD⟩ := h.dirty
  exact ⟨⟨sc, ho sc hobj, r⟩, ⟨cur, hc.keep hm (fun e => hn1 e.symm) hb⟩, ⟨D, hD.keep hm (fun e => hn2 e.symm) hb⟩, h.lenS, h.lenD, h.n1, h.n2, h.s1, h.s2, h1, h2⟩

theorem lit_int_ne {i j : Nat} (h : j ≠ i) : Lit.int .i64 (j : Int) ≠ .int .i64 (i : Int) := fun e => by
  injection e with _ e
  omega

theorem isKey_int (i : Int) : WideAt.IsKeyLit (.int .i64 i) := by
  simp [WideAt.IsKeyLit]

/-- The map, behind a write. -/
theorem DirtyAt.put {X : Nat → Prop} {w w' : World} {mb n sz : Nat} {dirty : Nat → Option (List UInt8)} {D : DataW Value} {i : Nat} {v : Value} {l : List UInt8} (h : DirtyAt w X mb n sz dirty D) (hi : i < n)
    (hm : Mp w' 3 mb (D.put (.int .i64 (i : Int)) (.held v))) (hmod : Mod (· = mb) w w') (hb : Beside w X (· = mb)) (hv : Sl w X 5 v sz (bv l)) :
    DirtyAt w' X mb n sz (fun k => if k = i then some l else dirty k) (D.put (.int .i64 (i : Int)) (.held v)) := by
  have hD : IsMap D := (h.mp.tidy key_int).isMap
  refine ⟨hm, fun kl hk => ?_, fun k hk hd => ?_, fun k l' hk hd => ?_⟩
  · by_cases e : kl = .int .i64 (i : Int)
    · exact ⟨i, hi, e⟩
    · rw [has_put_other e] at hk
      exact h.keys kl hk
  · by_cases e : k = i
    · simp [e] at hd
    · simp only [if_neg e] at hd
      rw [has_put_other (lit_int_ne e)]
      exact h.gone k hk hd
  · by_cases e : k = i
    · subst e
      simp only [if_true] at hd
      cases hd
      exact ⟨has_put_same hD (isKey_int _) _, v, fun zd => atKey_put_same hD (isKey_int _) _ zd, hv.beside hmod hb⟩
    · simp only [if_neg e] at hd
      obtain ⟨a, v', e', r⟩ := h.here k l' hk hd
      refine ⟨by rw [has_put_other (lit_int_ne e)]; exact a, v', fun zd => ?_, r.beside hmod hb⟩
      rw [atKey_put_other (lit_int_ne e)]
      exact e' zd

theorem Dk.write_err {d : Dk} {i : Int} {l : List UInt8} (h : atE d.dead i d.n ≠ 0) : d.write i l = d ∧ d.writeE i l.length = atE d.dead i d.n := by
  simp [Dk.write, Dk.writeE, h]
theorem Dk.write_len {d : Dk} {i : Int} {l : List UInt8} (h : atE d.dead i d.n = 0) (hl : l.length ≠ d.sz) : d.write i l = d ∧ d.writeE i l.length = 31 := by
  simp [Dk.write, Dk.writeE, h, hl]
theorem Dk.write_dead {d : Dk} {i : Int} {l : List UInt8} (h : atE d.dead i d.n = 0) (hl : l.length = d.sz) (hc : d.cut = 0) : d.write i l = d.power ∧ d.writeE i l.length = 32 := by
  simp [Dk.write, Dk.writeE, h, hl, hc]
theorem Dk.write_ok {d : Dk} {i : Int} {l : List UInt8} (h : atE d.dead i d.n = 0) (hl : l.length = d.sz) (hc : d.cut ≠ 0) : d.write i l = d.power.put i.toNat l ∧ d.writeE i l.length = 0 := by
  simp [Dk.write, Dk.writeE, h, hl, hc]

theorem atE_ok {dead : Bool} {i : Int} {n : Nat} (hE : atE dead i n = 0) : 0 ≤ i ∧ i < n ∧ dead = false := by
  unfold atE at hE
  split at hE
  · omega
  · split at hE
    · omega
    · rename_i h1 h2
      simp at h1
      exact ⟨by omega, by omega, h1⟩

set_option maxRecDepth 100000 in
set_option maxHeartbeats 800000 in
theorem write_any (X Y : Nat → Prop) (b sb mb : Nat) (d : Dk) (i : Int) (v : Value) (l : List UInt8) (w : World) (h : DkAt w X b sb mb d) (hv : Sl w Y 5 v l.length (bv l)) (hlen : l.length ≤ 140737488355328)
    (hX : ∀ k, X k → k < w.heap.size) :
    Calls Tryz.prog 106 #[.pointer (some ⟨b, 0, none⟩), .int .i64 i, v] w fun e w' => e = .returned (.int .i64 (d.writeE i l.length)) ∧ DkAt w' X b sb mb (d.write i l) ∧ Mod (Own2 b mb) w w' := by
  obtain ⟨hn1, hn2, hn3⟩ := h.mb_ne
  obtain ⟨sc, ho, hsc1, hsc2⟩ := h.obj
  obtain ⟨cur, hc⟩ := h.sure
  refine calls_hide fun R hR => ?_
  have HA := Lib.hid (at_any b _ _ _ _ _ _ i w ho)
  by_cases hE : atE d.dead i d.n = 0
  · obtain ⟨hi1, hi2, hdead⟩ := atE_ok hE
    obtain ⟨k, rfl⟩ := Int.eq_ofNat_of_zero_le hi1
    have hn0 : 0 < d.n := by have := h.n1; omega
    obtain ⟨v0, hv0, hs0⟩ := hc.cell 0 hn0
    obtain ⟨a0, c0, rfl⟩ : ∃ a c, v0 = .slice a d.sz c := by
      rcases hs0 with ⟨rfl, hz, _⟩ | ⟨blk, o, c, _, _, rfl, _⟩
      · have := h.s1; omega
      · exact ⟨_, _, rfl⟩
    have HS := Lib.hid (size_any ⟨b, 0, none⟩ sb d.n sc a0 d.sz c0 w hn0 (cell_of (i := 0) ho rfl) (cell_ofA hc.heap hv0))
    have HP := Lib.hid (powered_any b _ _ d.cut d.dead w h.c1 h.c2 ho)
    rw [hE] at HA
    by_cases hl : l.length = d.sz
    · have hsz1 : 64 ≤ d.sz := h.s1
      have hsz2 : d.sz ≤ 4096 := h.s2
      obtain ⟨a1, c1, rfl⟩ : ∃ a c, v = .slice a d.sz c := by
        rcases hv with ⟨rfl, hz, _⟩ | ⟨blk, o, c, _, _, rfl, _⟩
        · omega
        · exact ⟨_, _, by rw [hl]⟩
      by_cases hcut : d.cut = 0
      · obtain ⟨q1, q2⟩ := Dk.write_dead hE hl hcut
        rw [q1, q2] at hR
        rw [if_pos hcut] at HP
        have HD := Lib.hid h
        have HO := Lib.hid ho
        clear q1 q2 hE ho hc hn1 hn2 hn3 hsc1 hsc2 hdead hv0 hs0 hv hX hi1 hi2 h
        have hl2 := Lib.hid hl
        have hc2 := Lib.hid hcut
        clear hl hcut
        go_enter Tryz.func106, Tryz.ntmps106
        go_wp2_with (first | (go_at_call 118; refine HA.out.mono ?_; rintro e w' ⟨rfl, rfl⟩) | (go_at_call 54; refine HS.out.mono ?_; rintro e w' ⟨rfl, rfl⟩) | (go_at_call 119; refine HP.out.mono ?_; rintro e w1 ⟨rfl, hb1, hm1, hz1⟩; have HB := Lib.hid hb1; have HM := Lib.hid hm1; clear hb1 hm1 hz1))
        refine fin hR ⟨rfl, ?_, HM.out.weaken fun _ _ e => .inl e⟩
        exact HD.out.turned HM.out (by have := HD.out.c1; have := hc2.out; split <;> omega) (by have := HD.out.c2; split <;> omega) (fun sc' ho' => by
          have ho2 := HO.out
          rw [ho'] at ho2
          cases ho2
          exact HB.out)
      · obtain ⟨q1, q2⟩ := Dk.write_ok hE hl hcut
        rw [q1, q2] at hR
        rw [if_neg hcut] at HP
        obtain ⟨D, hD⟩ := h.dirty
        have hDsz := hD.size
        have hn2' : d.n ≤ 4096 := h.n2
        have hkey := Lib.hid (keyOf_nat k (by omega))
        have HD := Lib.hid h
        have HDD := Lib.hid hD
        have HV := Lib.hid hv
        have HX := Lib.hid hX
        have hk : k < d.n := by omega
        have hn2x := Lib.hid hn2
        have hsz3 : Maps.size D < maxLen := by unfold maxLen; omega
        have hlen' := Lib.hid hlen
        have HO := Lib.hid ho
        clear q1 q2 hE ho hc hn1 hn2 hn3 hsc1 hsc2 hdead hv0 hs0 hv hX hi1 hi2 h hD hDsz hlen
        have hl2 := Lib.hid hl
        have hc2 := Lib.hid hcut
        clear hl hcut
        go_enter Tryz.func106, Tryz.ntmps106
        go_wp2_with (first | (go_at_call 118; refine HA.out.mono ?_; rintro e w' ⟨rfl, rfl⟩) | (go_at_call 54; refine HS.out.mono ?_; rintro e w' ⟨rfl, rfl⟩) | (go_at_call 119; refine HP.out.mono ?_; rintro e w1 ⟨rfl, hb1, hm1, hz1⟩; have HB := Lib.hid hb1; have HM := Lib.hid hm1; have k1 := cell_of (i := 1) hb1 rfl; have HZ := Lib.hid hz1; clear hb1 hm1 hz1))
        have hDm : DkAt w1 X b sb mb d.power := HD.out.turned HM.out (by have := HD.out.c1; have := hc2.out; split <;> omega) (by have := HD.out.c2; split <;> omega) (fun sc' ho' => by
          have ho2 := HO.out
          rw [ho'] at ho2
          cases ho2
          exact HB.out)
        have hbb : Beside w X (· = b) := fun k hk => .inr fun cur fz e => by
          have ho2 := HO.out
          subst hk; rw [ho2] at e; cases e
        have hne2 : mb ≠ b := fun e => hn2x.out e.symm
        have hvs : Sl w1.drew Y 5 (.slice a1 d.sz c1) d.sz (bv l) := by
          have h1 := HV.out
          rw [hl2.out] at h1
          exact h1.keep HM.out.drew (fun k cur fz hk _ e => by have ho2 := HO.out; subst hk; rw [ho2] at e; cases e)
        have HCl := Lib.hid (clone_bytes Y (.slice a1 d.sz c1) (bv l) w1.drew (by rw [bv_length, hl2.out]; exact hvs) (bv_one _) (by rw [bv_length]; exact hlen'.out))
        have HDD1 := Lib.hid (HDD.out.keep HM.out.drew hne2 hbb)
        have HD1 := Lib.hid hDm
        have HXm : ∀ k, X k → k < w1.drew.heap.size := fun k hk => by have := HX.out k hk; have := HZ.out; simp; omega
        have HX1 := Lib.hid HXm
        have hk0 : (0 : Int) ≤ (k : Int) := Int.natCast_nonneg _
        clear hDm hbb hne2 hvs HXm
        go_region_held3 (fun w' => w'.cell? ⟨b, 1, none⟩ = some (.map (some mb))) (first | assumption) ((first | (go_at_call 72; refine HCl.out.mono ?_; rintro e w2 ⟨v', rfl, hown, hnil, hm⟩; have HO2 := Lib.hid hown; have HM2 := Lib.hid hm; have k2 := Mod.cell hm (show World.cell? w1.drew _ = _ from k1) (fun f => f); have HMp0 := HDD1.out.mp; have HMp1 := Mp.keep HMp0 hm (fun f => f); obtain ⟨w3, hst, hp3, hm3, hz3⟩ := Mp.store HMp1 key_int Tryz.underlying80 hsz3 (val := v') hkey.out; have HP3 := Lib.hid hp3; have HM3 := Lib.hid hm3; have k3 := Mod.cell hm3 k2 (fun e => hn2x.out e); clear HMp0 HMp1 hp3 hm3 hz3 hown hnil hm)))
        go_wp2
        have hD1 : DkAt w1.drew X b sb mb d.power := HD1.out.stay (Mod.refl No _).drew
        have hD2 : DkAt w2 X b sb mb d.power := hD1.stay HM2.out
        obtain ⟨hn1, hn2, hn3⟩ := hD2.mb_ne
        have hvo : Sl w2 X 5 v' d.sz (bv l) := by
          have h1 := HO2.out
          rw [bv_length, hl2.out] at h1
          exact Sl.of_own h1 fun q hq hx => by have := HX1.out q hx; omega
        have hbm : Beside w2 X (· = mb) := fun q hq => .inr fun cur fz e => by
          obtain ⟨D', hD'⟩ := hD2.dirty
          obtain ⟨es, clock, hh⟩ := hD'.mp.heap
          subst hq; rw [hh] at e; cases e
        have hDD2 : DirtyAt w2 X mb d.n d.sz d.dirty D := HDD1.out.keep HM2.out (fun f => f) (beside_no _ _)
        have hDD3 := hDD2.put hk HP3.out HM3.out hbm hvo
        refine fin hR ⟨rfl, ?_, ?_⟩
        · obtain ⟨sc3, ho3, r3⟩ := hD2.obj
          obtain ⟨cur3, hc3⟩ := hD2.sure
          refine ⟨⟨sc3, HM3.out.keep ho3 hn2, r3⟩, ⟨cur3, hc3.keep HM3.out hn3 hbm⟩, ⟨_, hDD3⟩, hD2.lenS, fun q l' hq hd => ?_, hD2.n1, hD2.n2, hD2.s1, hD2.s2, hD2.c1, hD2.c2⟩
          by_cases e : q = k
          · simp [Dk.put, e] at hd
            subst hd
            exact hl2.out
          · simp only [Dk.put, Int.toNat_natCast, if_neg e] at hd
            exact hD2.lenD q l' hq hd
        · exact ((HM.out.weaken (T := Own2 b mb) fun _ _ e => .inl e).drew.trans (HM2.out.weaken fun _ _ f => f.elim)).trans (HM3.out.weaken fun _ _ e => .inr e)
    · obtain ⟨q1, q2⟩ := Dk.write_len hE hl
      rw [q1, q2] at hR
      obtain ⟨a1, c1, rfl⟩ : ∃ a c, v = .slice a l.length c := by
        rcases hv with ⟨rfl, hz, _⟩ | ⟨blk, o, c, _, _, rfl, _⟩
        · rw [hz]; exact ⟨_, _, rfl⟩
        · exact ⟨_, _, rfl⟩
      have hl1 : ((l.length : Int) != (d.sz : Int)) = true := by simp; omega
      have HD := Lib.hid h
      clear q1 q2 hE ho hc hn1 hn2 hn3 hsc1 hsc2 hdead hv0 hs0 hv hX hi1 hi2 h HP
      have hl2 := Lib.hid hl
      clear hl
      go_enter Tryz.func106, Tryz.ntmps106
      go_wp2_with (first | (go_at_call 118; refine HA.out.mono ?_; rintro e w' ⟨rfl, rfl⟩) | (go_at_call 54; refine HS.out.mono ?_; rintro e w' ⟨rfl, rfl⟩))
      exact fin hR ⟨rfl, HD.out, Mod.refl _ _⟩
  · obtain ⟨q1, q2⟩ := Dk.write_err (l := l) hE
    rw [q1, q2] at hR
    clear q1 q2 hc ho
    generalize atE d.dead i d.n = E at *
    have h1 : (E != 0) = true := by simpa using hE
    have HE := Lib.hid hE
    have HD := Lib.hid h
    clear hE h hn1 hn2 hn3 hX hv
    go_enter Tryz.func106, Tryz.ntmps106
    go_wp2_with (go_at_call 118; refine HA.out.mono ?_; rintro e w' ⟨rfl, rfl⟩)
    exact fin hR ⟨rfl, HD.out, Mod.refl _ _⟩

end Go.Proofs.YtkeopmfmlciadaaGreat
