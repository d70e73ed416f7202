/-
  Layers 0 to 14: helps of the laws of indexes. No statement is proved here; no condition.
-/
import Derived.Test.YtgiigemfbebcgaaGreatDoorRows
import Derived.WalkKit
import Derived.WalkSpells
import Derived.WalkLawsBesides
import Derived.BigQuiet
import Derived.Deep.QuietTactic
import Derived.Deep.RegionHeld3
import Derived.Lib.Hide
namespace Go.Proofs.YtgiigemfbebcgaaGreatDoor
open Go.RowKit
theorem zh {p:Prop} (h:p):Hid p:=Lib.hid h
theorem yB {α:Type} (l:List α) (i:Nat) (a:α):l.toArray.setIfInBounds i a=(l.set i a).toArray:=List.setIfInBounds_toArray ..
theorem yC {α:Type} (x a:α) (l:List α):(x :: l).set 0 a=a :: l:=List.set_cons_zero ..
theorem yD {α:Type} (x a:α) (l:List α) (n:Nat):(x :: l).set (n+1) a=x :: l.set n a:=List.set_cons_succ ..
theorem calls_hide {P:Program} {f:FuncId} {args:Array Value} {w:World} {R:Ending → World → Prop}
  (h:∀ R':Ending → World → Prop,Hid (∀ e w',R e w' → R' e w') → Calls P f args w R'):Calls P f args w R :=
 h R (Lib.hid fun _ _ h=>h)
theorem fin {R R':Ending → World → Prop} (h:Hid (∀ e w',R e w' → R' e w')) {e:Ending} {w':World} (hr:R e w'):R' e w':=h.out _ _ hr
theorem cell_of {w:World} {b i:Nat} {xs:List Value} {e:TypeId} {fz:Nat × Nat} {v:Value} (h:w.heap[b]? = some (.cells xs.toArray e fz)) (hi:xs[i]? = some v):w.cell? ⟨b,i,none⟩=some v:=by
 simp [World.cell?,h,hi]
theorem cell_ofA {w:World} {b i:Nat} {xs:Array Value} {e:TypeId} {fz:Nat × Nat} {v:Value} (h:w.heap[b]? = some (.cells xs e fz)) (hi:xs[i]? = some v):w.cell? ⟨b,i,none⟩=some v:=by
 simp [World.cell?,h,hi]
theorem frozen_of {w:World} {b:Nat} {xs:Array Value} {e:TypeId} (i:Nat) (h:w.heap[b]? = some (.cells xs e (0,0))):w.frozen? ⟨b,i,none⟩=false:=by
 simp [World.frozen?,h]
theorem lt_of_heap {w:World} {b:Nat} {o:Obj} (h:w.heap[b]? = some o):b < w.heap.size:=by
 rcases Nat.lt_or_ge b w.heap.size with h' | h'
 ·exact h'
 ·simp [Array.getElem?_eq_none h'] at h
theorem heap_setCell {w:World} {b i:Nat} {xs:Array Value} {e:TypeId} {fz:Nat × Nat} (h:w.heap[b]? = some (.cells xs e fz)) (v:Value) :
  (w.setCell ⟨b,i,none⟩ v).heap[b]? = some (.cells (xs.setIfInBounds i v) e fz):=by
 simp [World.setCell,Array.getElem?_modify,h]
theorem heap_setCell_ne {w:World} {a:Addr} {k:Nat} (v:Value) (h:k ≠ a.block):(w.setCell a v).heap[k]? = w.heap[k]?:=Below.heap_setCell w a v k h
theorem heap_alloc_new (w:World) (o:Obj):(w.alloc o).heap[w.heap.size]? = some o:=by
 show (w.heap.push o)[w.heap.size]? = _
 simp
theorem heap_alloc_old {w:World} {k:Nat} {x:Obj} (o:Obj) (h:w.heap[k]? = some x):(w.alloc o).heap[k]? = some x:=by
 rw [Below.heap_alloc w o k (lt_of_heap h)];exact h
theorem heap_at_new (w:World) (o:Obj) {n:Nat} (hn:n=w.heap.size):(w.alloc o).heap[n]? = some o:=by subst hn;exact heap_alloc_new w o
theorem own_shape {w:World} {base:Nat} {e:TypeId} {size:Nat} {v:Value} {n:Nat} {xs:List Value} (h:w.ownsRow base e size v n xs) (hn:0 < n):∃ g cap,v=.slice (some ⟨g,0,none⟩) n cap ∧ base ≤ g:=by
 obtain ⟨_,⟨_,h0⟩ | ⟨g,cap,cur,hv,hg,_⟩⟩:=h
 ·omega
 ·exact ⟨g,cap,hv,hg⟩
theorem own_len {w:World} {base:Nat} {e:TypeId} {size:Nat} {v:Value} {n:Nat} {xs:List Value} (h:w.ownsRow base e size v n xs):∃ a c,v=.slice a n c:=by
 obtain ⟨_,⟨hv,h0⟩ | ⟨g,cap,cur,hv,hg,_⟩⟩:=h
 ·exact ⟨none,0,by rw [hv,h0]⟩
 ·exact ⟨_,_,hv⟩
structure Mod (S:Nat → Prop) (w w':World):Prop where
 os:w'.os=w.os
 tape:w'.tape=w.tape
 output:w'.output=w.output
 size:w.heap.size ≤ w'.heap.size
 block:∀ k,k < w.heap.size → ¬ S k → w'.heap[k]? = w.heap[k]?
def No:Nat → Prop:=fun _=>False
theorem Mod.refl (S:Nat → Prop) (w:World):Mod S w w:=⟨rfl,rfl,rfl,Nat.le_refl _,fun _ _ _=>rfl⟩
theorem Mod.weaken {S T:Nat → Prop} {w w':World} (h:Mod S w w') (hs:∀ k,k < w.heap.size → S k → T k):Mod T w w' :=
 ⟨h.os,h.tape,h.output,h.size,fun k hk hn=>h.block k hk fun s=>hn (hs k hk s)⟩
theorem Mod.trans {S:Nat → Prop} {a b c:World} (h:Mod S a b) (k:Mod S b c):Mod S a c :=
 ⟨k.os.trans h.os,k.tape.trans h.tape,k.output.trans h.output,Nat.le_trans h.size k.size,
  fun i hi hn=>(k.block i (Nat.lt_of_lt_of_le hi h.size) hn).trans (h.block i hi hn)⟩
theorem Mod.then {S T:Nat → Prop} {a b c:World} (h:Mod S a b) (k:Mod T b c) (ht:∀ i,i < a.heap.size → T i → S i):Mod S a c :=
 ⟨k.os.trans h.os,k.tape.trans h.tape,k.output.trans h.output,Nat.le_trans h.size k.size,
  fun i hi hn=>(k.block i (Nat.lt_of_lt_of_le hi h.size) fun t=>hn (ht i hi t)).trans (h.block i hi hn)⟩
theorem Mod.alloc {S:Nat → Prop} {a w:World} (h:Mod S a w) (o:Obj):Mod S a (w.alloc o) :=
 h.then (T:=No) ⟨rfl,rfl,rfl,by simp,fun k hk _=>Below.heap_alloc _ _ _ hk⟩ (fun _ _ f=>f.elim)
theorem Mod.setCell {S:Nat → Prop} {a w:World} (h:Mod S a w) {p:Addr} (hp:p.block < a.heap.size → S p.block) (u:Value):Mod S a (w.setCell p u) :=
 h.then (T:=fun k=>k=p.block) ⟨rfl,rfl,rfl,by simp [World.setCell],fun k _ hn=>Below.heap_setCell _ _ _ _ hn⟩ (fun i hi e=>by subst e;exact hp hi)
theorem Mod.drew {S:Nat → Prop} {a w:World} (h:Mod S a w):Mod S a w.drew:=⟨h.os,h.tape,h.output,h.size,h.block⟩
theorem Mod.drewN {S:Nat → Prop} {a w:World} (h:Mod S a w) (n:Nat):Mod S a (w.drewN n):=⟨h.os,h.tape,h.output,h.size,h.block⟩
theorem Mod.of_below {S:Nat → Prop} {w w':World} (h:Below w.heap.size w w'):Mod S w w':=⟨h.os,h.tape,h.output,h.size,fun k hk _=>h.block k hk⟩
theorem Mod.below {w w':World} (h:Mod No w w'):Below w.heap.size w w':=⟨h.os,h.tape,h.output,h.size,fun k hk=>h.block k hk (fun f=>f)⟩
theorem Mod.of_grown {S:Nat → Prop} {w w':World} {row:Option Nat} (h:w.grownBy w' row) (hr:∀ k,row=some k → k < w.heap.size → S k):Mod S w w' :=
 ⟨h.os,h.tape,h.output,h.size,fun k hk hn=>h.block k hk fun e=>hn (hr k e.symm hk)⟩
theorem Mod.keep {S:Nat → Prop} {w w':World} (h:Mod S w w') {k:Nat} {o:Obj} (hk:w.heap[k]? = some o) (hn:¬ S k):w'.heap[k]? = some o:=by
 rw [h.block k (lt_of_heap hk) hn];exact hk
theorem lt_of_cell {w:World} {a:Addr} {v:Value} (h:w.cell? a=some v):a.block < w.heap.size:=World.block_lt_of_cell? w _ h
theorem Mod.cell {S:Nat → Prop} {w w':World} (h:Mod S w w') {a:Addr} {v:Value} (hc:w.cell? a=some v) (hn:¬ S a.block):w'.cell? a=some v:=by
 rw [World.cell?_of_block (w:=w) (h.block a.block (lt_of_cell hc) hn)];exact hc
def Sl (w:World) (X:Nat → Prop) (e:TypeId) (v:Value) (n:Nat) (xs:List Value):Prop :=
 (v=.slice none 0 0 ∧ n=0 ∧ xs=[]) ∨
 ∃ blk o c cur fz,v=.slice (some ⟨blk,o,none⟩) n c ∧ n ≤ c ∧ c ≤ maxLen ∧ ¬ X blk ∧ w.heap[blk]? = some (.cells cur e fz) ∧ o+xs.length ≤ cur.size ∧
  ∀ i,i < xs.length → cur[o+i]? = xs[i]?
theorem Sl.keep {S X:Nat → Prop} {w w':World} {e:TypeId} {v:Value} {n:Nat} {xs:List Value} (h:Sl w X e v n xs) (hm:Mod S w w')
  (hs:∀ k cur fz,S k → ¬ X k → w.heap[k]? ≠ some (.cells cur e fz)):Sl w' X e v n xs:=by
 rcases h with h | ⟨blk,o,c,cur,fz,hv,hn,hc,hx,hh,hl,hr⟩
 ·exact .inl h
 ·exact .inr ⟨blk,o,c,cur,fz,hv,hn,hc,hx,hm.keep hh (fun s=>hs blk cur fz s hx hh),hl,hr⟩
theorem Sl.kn {X:Nat → Prop} {w w':World} {e:TypeId} {v:Value} {n:Nat} {xs:List Value} (h:Sl w X e v n xs) (hm:Mod No w w'):Sl w' X e v n xs:=h.keep hm (fun _ _ _ f=>f.elim)
theorem Sl.shrink {X Y:Nat → Prop} {w:World} {e:TypeId} {v:Value} {n:Nat} {xs:List Value} (h:Sl w X e v n xs) (hy:∀ k,k < w.heap.size → Y k → X k):Sl w Y e v n xs:=by
 rcases h with h | ⟨blk,o,c,cur,fz,hv,hn,hc,hx,hh,hl,hr⟩
 ·exact .inl h
 ·exact .inr ⟨blk,o,c,cur,fz,hv,hn,hc,fun y=>hx (hy blk (lt_of_heap hh) y),hh,hl,hr⟩
theorem Sl.of_own {X:Nat → Prop} {w:World} {base:Nat} {e:TypeId} {size:Nat} {v:Value} {n:Nat} {xs:List Value} (h:w.ownsRow base e size v n xs) (hx:∀ k,base ≤ k → ¬ X k):Sl w X e v n xs:=by
 obtain ⟨hl,h | ⟨g,cap,cur,hv,hg,hh,hn,hc,hs,ht⟩⟩:=h
 ·obtain ⟨hv,hn⟩:=h
  subst hn
  exact .inl ⟨hv,rfl,List.eq_nil_of_length_eq_zero (by simpa using hl)⟩
 ·have hle:xs.length ≤ cur.size:=by
   rw [← ht];simp
   exact Nat.min_le_right _ _
  refine .inr ⟨g,0,cap,cur,(0,0),hv,hn,hc,hx g hg,hh,by simpa using hle,fun i hi=>?_⟩
  rw [← ht,List.getElem?_take,if_pos (by rw [← hl];exact hi)]
  simp
theorem Sl.cell {X:Nat → Prop} {w:World} {e:TypeId} {n c:Nat} {xs:List Value} {a:Addr} (h:Sl w X e (.slice (some a) n c) n xs) {i:Nat} (hi:i < xs.length) :
  w.cell? ⟨a.block,a.off+i,none⟩=xs[i]?:=by
 rcases h with ⟨h,_⟩ | ⟨blk,o,c',cur,fz,hv,hn,hc,hx,hh,hl,hr⟩
 ·cases h
 ·cases hv
  simp only [World.cell?,hh]
  simpa using hr i hi
theorem Sl.len {X:Nat → Prop} {w:World} {e:TypeId} {v:Value} {n:Nat} {xs:List Value} (h:Sl w X e v n xs):∃ a c,v=.slice a n c:=by
 rcases h with ⟨hv,hn,_⟩ | ⟨blk,o,c,_,_,hv,_⟩
 ·exact ⟨none,0,by rw [hv,hn]⟩
 ·exact ⟨_,_,hv⟩
theorem Sl.shape {X:Nat → Prop} {w:World} {e:TypeId} {v:Value} {n:Nat} {xs:List Value} (h:Sl w X e v n xs) (hn:0 < n):∃ blk o c,v=.slice (some ⟨blk,o,none⟩) n c ∧ n ≤ c ∧ c ≤ maxLen ∧ ¬ X blk:=by
 rcases h with ⟨_,h0,_⟩ | ⟨blk,o,c,_,_,hv,h1,h2,h3,_⟩
 ·omega
 ·exact ⟨blk,o,c,hv,h1,h2,h3⟩
theorem Sl.avoid {X:Nat → Prop} {w:World} {e:TypeId} {v:Value} {n:Nat} {xs:List Value} (h:Sl w X e v n xs):Sl w (fun q=>X q ∨ w.heap.size ≤ q) e v n xs:=by
 rcases h with h | ⟨blk,o,c,cur,fz,hv,hn,hc,hx,hh,hl,hr⟩
 ·exact .inl h
 ·exact .inr ⟨blk,o,c,cur,fz,hv,hn,hc,fun h=>h.elim hx (fun h=>by have:=lt_of_heap hh;omega),hh,hl,hr⟩
def bv (l:List UInt8):List Value:=l.map fun c=>.int .u8 c.toNat
@[simp] theorem bv_length (l:List UInt8):(bv l).length=l.length:=by simp [bv]
theorem bv_get (l:List UInt8) (i:Nat) (h:i < l.length):(bv l)[i]? = some (.int .u8 l[i].toNat):=by simp [bv,h]
theorem bv_one (l:List UInt8):∀ u ∈ bv l,u.oneCell'=true:=by
 intro u hu
 obtain ⟨_,_,rfl⟩:=List.mem_map.1 hu
 rfl
theorem grown_refl (w:World) (row:Option Nat):w.grownBy w row:=⟨rfl,rfl,rfl,Nat.le_refl _,fun _ _ _=>rfl⟩
theorem app_sl {P:Program} (w:World) {ops:Array Oper} {rest:List Oper} {o:Oper} {a:Act} {Q:Exit → Act → World → Prop} (hgd:o.guard=none) (s x:Operand) (t:TypeId)
  (ho:o.op=.call { callee:=.builtin .append,args:=#[s,x],argTypes:=#[t,t] })
  (base:Nat) (e:TypeId) (i:TypeInfo) (z:Value) (size bytes:Nat) (ht:P.underlying t=some (.slice e)) (hi:P.info? e=some i) (hz:i.zero=some z)
  (hsize:i.size=size) (hby:i.bytes=bytes) (hzs:z.cells.size=size) (hsz:0 < size)
  (v:Value) (n:Nat) (xs:List Value) (hs:a.eval s=v) (hown:w.ownsRow base e size v n xs)
  (X:Nat → Prop) (e':TypeId) (xv:Value) (m:Nat) (news:List Value) (hx:a.eval x=xv) (hsl:Sl w X e' xv m news) (hl:news.length=m*size) (h1:∀ u ∈ news,u.oneCell'=true)
  (h63:n+m ≤ maxLen) (hbytes:(n+m)*bytes ≤ 140737488355328) (hbase:base ≤ w.heap.size)
  (h:∀ v' w',w'.ownsRow base e size v' (n+m) (xs++news) → w.grownBy w' v.ownBlock → (v'=.slice none 0 0 ↔ v=.slice none 0 0 ∧ m=0) → wpList P ops Q rest (a.put o.dst v') w'):wpList P ops Q (o :: rest) a w:=by
 rcases hsl with ⟨rfl,rfl,rfl⟩ | ⟨blk,of,c,cur,fz,rfl,hn,hc,hX,hh,hle,hr⟩
 ·refine wpList_plain hgd fun K hK'=>?_
  have hrun:=run_append_owned_none (P:=P) w base t o.type e i size ht hi v n xs hown
  unfold Oper.wp
  simp only [execOp,ho,resolve,invoke,builtin,Sem.run_bind,Sem.run_pure,Result.andThen_ok,List.map_toArray,List.map_cons,List.map_nil,hs,hx,hrun]
  exact hK' _ _ (h v w (by simpa using hown) (grown_refl _ _) (by simp))
 ·refine wpList_append_own w hgd s x t ho base e i z size bytes ht hi hz hsize hby hzs hsz v n xs hs hown _ m c news hx hl (fun j u hu=>?_) h1 h63 hbytes hbase h
  have hj:j < news.length:=(List.getElem?_eq_some_iff.1 hu).1
  simp only [World.cell?,Addr.add_lit,hh]
  simpa [hu] using hr j hj
theorem wp_app_sl {P:Program} (w:World) {o:Oper} {a:Act} {K:Act → World → Prop} {Q:Exit → Act → World → Prop} (s x:Operand) (t:TypeId)
  (ho:o.op=.call { callee:=.builtin .append,args:=#[s,x],argTypes:=#[t,t] })
  (base:Nat) (e:TypeId) (i:TypeInfo) (z:Value) (size bytes:Nat) (ht:P.underlying t=some (.slice e)) (hi:P.info? e=some i) (hz:i.zero=some z)
  (hsize:i.size=size) (hby:i.bytes=bytes) (hzs:z.cells.size=size) (hsz:0 < size)
  (v:Value) (n:Nat) (xs:List Value) (hs:a.eval s=v) (hown:w.ownsRow base e size v n xs)
  (X:Nat → Prop) (e':TypeId) (xv:Value) (m:Nat) (news:List Value) (hx:a.eval x=xv) (hsl:Sl w X e' xv m news) (hl:news.length=m*size) (h1:∀ u ∈ news,u.oneCell'=true)
  (h63:n+m ≤ maxLen) (hbytes:(n+m)*bytes ≤ 140737488355328) (hbase:base ≤ w.heap.size)
  (h:∀ v' w',w'.ownsRow base e size v' (n+m) (xs++news) → w.grownBy w' v.ownBlock → (v'=.slice none 0 0 ↔ v=.slice none 0 0 ∧ m=0) → K (a.put o.dst v') w'):o.wp P a w K Q:=by
 rcases hsl with ⟨rfl,rfl,rfl⟩ | ⟨blk,of,c,cur,fz,rfl,hn,hc,hX,hh,hle,hr⟩
 ·have hrun:=run_append_owned_none (P:=P) w base t o.type e i size ht hi v n xs hown
  unfold Oper.wp
  simp only [execOp,ho,resolve,invoke,builtin,Sem.run_bind,Sem.run_pure,Result.andThen_ok,List.map_toArray,List.map_cons,List.map_nil,hs,hx,hrun]
  exact h v w (by simpa using hown) (grown_refl _ _) (by simp)
 ·refine wp_append_own w s x t ho base e i z size bytes ht hi hz hsize hby hzs hsz v n xs hs hown _ m c news hx hl (fun j u hu=>?_) h1 h63 hbytes hbase h
  have hj:j < news.length:=(List.getElem?_eq_some_iff.1 hu).1
  simp only [World.cell?,Addr.add_lit,hh]
  simpa [hu] using hr j hj
theorem string_of {P:Program} {w:World} {X:Nat → Prop} {src dst e e':TypeId} {v:Value} {l:List UInt8} (h:Sl w X e' v l.length (bv l)) (hs:P.underlying src=some (.slice e)) (he:P.underlying e=some (.int .u8)) (hd:P.underlying dst=some .string) :
  (convert src dst v).run P w=.ok (.string ⟨l.toArray⟩) w:=by
 rcases h with ⟨rfl,hn,hl⟩ | ⟨blk,o,c,cur,fz,rfl,hn,hc,hx,hh,hle,hr⟩
 ·have:l=[]:=List.eq_nil_of_length_eq_zero hn
  subst this
  rw [run_convert_bytes_string w src dst e none 0 0 hs he hd]
  rfl
 ·refine run_convert_bytes_back w src dst e ⟨blk,o,none⟩ c l hs he hd fun j hj=>?_
  simp only [World.cell?,Addr.add_lit,hh]
  have:=hr j (by simpa using hj)
  rw [bv_get l j hj] at this
  simpa using this
end Go.Proofs.YtgiigemfbebcgaaGreatDoor
namespace Go.Proofs.YtgiigemfbebcgaaGreatDoor
open _root_.Go.Proofs.Tryz
open Go.RowKit
theorem own_heapM {w:World} {base:Nat} {e:TypeId} {size:Nat} {v:Value} {n:Nat} {xs:List Value} (h:w.ownsRow base e size v n xs) {k:Nat} (hk:v.ownBlock=some k):∃ cur,w.heap[k]? = some (.cells cur e (0,0)):=by
 obtain ⟨_,⟨hv,_⟩ | ⟨g,cap,cur,hv,hg,hh,r⟩⟩:=h
 ·rw [hv] at hk;cases hk
 ·rw [hv] at hk;cases hk;exact ⟨_,hh⟩
theorem own_keepM {S:Nat->Prop} {w w':World} {base:Nat} {e:TypeId} {size:Nat} {v:Value} {n:Nat} {xs:List Value} (h:w.ownsRow base e size v n xs) (hm:Mod S w w') (hs:∀ k,v.ownBlock=some k->¬ S k):w'.ownsRow base e size v n xs:=by
 obtain ⟨hl,h | ⟨g,cap,cur,hv,hg,hh,r⟩⟩:=h
 ·exact ⟨hl,.inl h⟩
 ·exact ⟨hl,.inr ⟨g,cap,cur,hv,hg,hm.keep hh (hs g (by rw [hv];rfl)),r⟩⟩
theorem Sl.part {X:Nat->Prop} {w:World} {e:TypeId} {b o n c:Nat} {xs:List Value} (h:Sl w X e (.slice (some ⟨b,o,none⟩) n c) n xs) (hx:xs.length=n) (i m c':Nat) (hm:i+m<=n) (h1:m<=c') (h2:c'<=maxLen) :
  Sl w X e (.slice (some ⟨b,o+i,none⟩) m c') m ((xs.drop i).take m):=by
 rcases h with ⟨h,_⟩ | ⟨blk,o',c0,cur,fz,hv,hn,hc,hX,hh,hl,hr⟩
 ·cases h
 ·cases hv
  refine .inr ⟨b,o+i,c',cur,fz,rfl,h1,h2,hX,hh,?_,fun j hj=>?_⟩
  ·rw [List.length_take,List.length_drop];omega
  ·rw [List.length_take,List.length_drop] at hj
   rw [List.getElem?_take,if_pos (by omega),List.getElem?_drop,<- hr (i+j) (by omega)]
   congr 1;omega
theorem Sl.takeN {X:Nat->Prop} {w:World} {e:TypeId} {b o n c m:Nat} {xs:List Value} (h:Sl w X e (.slice (some ⟨b,o,none⟩) n c) n xs) (hx:xs.length=n) (hm:m<=n):Sl w X e (.slice (some ⟨b,o,none⟩) m c) m (xs.take m):=by
 rcases h with ⟨h,_⟩ | ⟨blk,o',c',cur,fz,hv,hn,hc,hX,hh,hl,hr⟩
 ·cases h
 ·cases hv
  refine .inr ⟨b,o,c,cur,fz,rfl,by omega,hc,hX,hh,?_,fun i hi=>?_⟩
  ·rw [List.length_take];omega
  ·rw [List.length_take] at hi
   rw [hr i (by omega),List.getElem?_take,if_pos (by omega)]
theorem bv_append (a b:List UInt8):bv (a++b)=bv a++bv b:=by simp [bv]
end Go.Proofs.YtgiigemfbebcgaaGreatDoor
