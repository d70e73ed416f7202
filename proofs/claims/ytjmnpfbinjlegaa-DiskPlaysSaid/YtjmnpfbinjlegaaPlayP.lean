/-
  The law DiskPlays: what holds all along its script; its arguments. No statement is proved here; no condition.
-/
import Derived.Test.YtjmnpfbinjlegaaGrowC
import Derived.Test.YtjmnpfbinjlegaaArgs
import Derived.Test.YtjmnpfbinjlegaaPlace
namespace Go.Proofs.Ytjmnpfbinjlegaa
open Go.RowKit Go.Maps

structure ActV where
  what : Int
  i : Int
  n : Int
  keep : Nat
  torn : Int
  at_ : Int
  x : UInt8

def actCells (a : ActV) : List Value := [.int .i64 a.what, .int .i64 a.i, .int .i64 a.n, .int .u64 (a.keep : Int), .int .i64 a.torn, .int .i64 a.at_, .int .u8 (a.x.toNat : Int)]

/-- A script that came in. -/
structure ActsIn (w : World) (aa : Option Addr) (la : Nat) (l : List ActV) : Prop where
  len : l.length = la
  keep : ∀ a ∈ l, a.keep < 18446744073709551616
  cell : ∀ i, (h : i < l.length) → ∃ b o, aa = some ⟨b, o, none⟩ ∧ ∀ j u, (actCells l[i])[j]? = some u → w.cell? ⟨b, o + i * 7 + j, none⟩ = some u

/-- A disk and the model beside it. -/
structure Pl (w0 wr : World) (b sb mb q lb sm fb : Nat) (dd dm : Dk) : Prop where
  d : DkAt wr No b sb mb dd
  m : MdAt wr q lb sm fb dm
  mod : Mod No w0 wr
  newD : ∀ x, Own3 b sb mb x → w0.heap.size ≤ x
  newM : ∀ x, Own4 q lb sm fb x → w0.heap.size ≤ x
  off : ∀ x, Own3 b sb mb x → ¬ Own4 q lb sm fb x

theorem MdAt.not_bytes {w : World} {q lb sb fb : Nat} {d : Dk} (h : MdAt w q lb sb fb d) {k : Nat} (hk : Own4 q lb sb fb k) (cur : Array Value) (fz : Nat × Nat) : w.heap[k]? ≠ some (.cells cur 5 fz) := fun e => by
  obtain ⟨_, _, _, _, ho, _⟩ := h.obj
  obtain ⟨_, hl⟩ := h.l
  obtain ⟨_, hs⟩ := h.s
  obtain ⟨_, hf⟩ := h.f
  have hl := hl.heap
  have hs := hs.heap
  have hf := hf.heap
  rcases hk with r | r | r | r <;> subst r
  · rw [ho] at e; cases e
  · rw [hl] at e; cases e
  · rw [hs] at e; cases e
  · rw [hf] at e; cases e

theorem Pl.stay {w0 wr w' : World} {b sb mb q lb sm fb : Nat} {dd dm : Dk} (h : Pl w0 wr b sb mb q lb sm fb dd dm) (hm : Mod No wr w') : Pl w0 w' b sb mb q lb sm fb dd dm :=
  ⟨h.d.stay hm, h.m.stay hm, h.mod.trans hm, h.newD, h.newM, h.off⟩
theorem Pl.disk {w0 wr w' : World} {b sb mb q lb sm fb : Nat} {dd dm dd' : Dk} (h : Pl w0 wr b sb mb q lb sm fb dd dm) (hd : DkAt w' No b sb mb dd') (hm : Mod (Own3 b sb mb) wr w') : Pl w0 w' b sb mb q lb sm fb dd' dm :=
  ⟨hd, h.m.keep hm (fun k hk h3 => h.off k h3 hk) (fun _ hq => .inr fun cur fz => h.d.not_bytes hq cur fz), h.mod.then hm (fun i hi e => by have := h.newD i e; omega), h.newD, h.newM, h.off⟩
theorem Pl.model {w0 wr w' : World} {b sb mb q lb sm fb : Nat} {dd dm dm' : Dk} (h : Pl w0 wr b sb mb q lb sm fb dd dm) (hm' : MdAt w' q lb sm fb dm') (hm : Mod (Own4 q lb sm fb) wr w') : Pl w0 w' b sb mb q lb sm fb dd dm' :=
  ⟨h.d.keep hm (h.off b (.inl rfl)) (h.off sb (.inr (.inl rfl))) (h.off mb (.inr (.inr rfl))) (fun _ hq => .inr fun cur fz => h.m.not_bytes hq cur fz), hm', h.mod.then hm (fun i hi e => by have := h.newM i e; omega), h.newD, h.newM, h.off⟩

/-- Another disk in its place, made since. -/
theorem Pl.turn {w0 wr : World} {b sb mb q lb sm fb b' sb' mb' : Nat} {dd dd' dm : Dk} (h : Pl w0 wr b sb mb q lb sm fb dd dm) (hd : DkAt wr No b' sb' mb' dd') (hn : ∀ x, Own3 b' sb' mb' x → w0.heap.size ≤ x) (ho : ∀ x, Own3 b' sb' mb' x → ¬ Own4 q lb sm fb x) : Pl w0 wr b' sb' mb' q lb sm fb dd' dm :=
  ⟨hd, h.m, h.mod, hn, h.newM, ho⟩

end Go.Proofs.Ytjmnpfbinjlegaa
