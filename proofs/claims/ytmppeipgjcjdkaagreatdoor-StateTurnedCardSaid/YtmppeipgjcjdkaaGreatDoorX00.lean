/-
  Layers 0 to 14: helps of the laws of indexes. No statement is proved here; no condition.
-/
import Derived.Test.YtmppeipgjcjdkaaGreatDoorProg
import GoSem.Claim
import GoSem.ClaimJoined
import GoSem.ClaimMapViews
import Derived.JoinedTies
import Derived.KernelRfl
import Derived.RowKit
import Derived.WalkKit
import Derived.WalkSpells
import Derived.WalkLawsBesides
import Derived.BigQuiet
import Derived.Deep.QuietTactic
import Derived.Deep.RegionHeld3
import Derived.Lib.Hide
import Derived.OrdersHeld
import Derived.Deep.CutBlock
import Derived.Lib.Split
import Derived.Lib.SplitLaws
import Derived.Lib.IndexBytes
import Derived.Lib.Atoi
namespace Go.Proofs.YtmppeipgjcjdkaaGreatDoor
open Go.RowKit
theorem zh {p:Prop} (h:p):Hid p:=Lib.hid h
theorem yB {α:Type} (l:List α) (i:Nat) (a:α):l.toArray.setIfInBounds i a=(l.set i a).toArray:=List.setIfInBounds_toArray ..
theorem yC {α:Type} (x a:α) (l:List α):(x :: l).set 0 a=a :: l:=List.set_cons_zero ..
theorem yD {α:Type} (x a:α) (l:List α) (n:Nat):(x :: l).set (n+1) a=x :: l.set n a:=List.set_cons_succ ..
theorem calls_hide {P:Program} {f:FuncId} {args:Array Value} {w:World} {R:Ending → World → Prop}
  (h:∀ R':Ending → World → Prop,Hid (∀ e w',R e w' → R' e w') → Calls P f args w R'):Calls P f args w R :=
 h R (Lib.hid fun _ _ h=>h)
theorem fin {R R':Ending → World → Prop} (h:Hid (∀ e w',R e w' → R' e w')) {e:Ending} {w':World} (hr:R e w'):R' e w':=h.out _ _ hr
theorem cell_of {w:World} {b i:Nat} {xs:List Value} {e:TypeId} {fz:Nat × Nat} {v:Value} (h:w.heap[b]? = some (.cells xs.toArray e fz)) (hi:xs[i]? = some v):w.cell? ⟨b,i,none⟩=some v:=by
 simp [World.cell?,h,hi]
theorem cell_ofA {w:World} {b i:Nat} {xs:Array Value} {e:TypeId} {fz:Nat × Nat} {v:Value} (h:w.heap[b]? = some (.cells xs e fz)) (hi:xs[i]? = some v):w.cell? ⟨b,i,none⟩=some v:=by
 simp [World.cell?,h,hi]
theorem frozen_of {w:World} {b:Nat} {xs:Array Value} {e:TypeId} (i:Nat) (h:w.heap[b]? = some (.cells xs e (0,0))):w.frozen? ⟨b,i,none⟩=false:=by
 simp [World.frozen?,h]
theorem lt_of_heap {w:World} {b:Nat} {o:Obj} (h:w.heap[b]? = some o):b < w.heap.size:=by
 rcases Nat.lt_or_ge b w.heap.size with h' | h'
 ·exact h'
 ·simp [Array.getElem?_eq_none h'] at h
theorem heap_setCell {w:World} {b i:Nat} {xs:Array Value} {e:TypeId} {fz:Nat × Nat} (h:w.heap[b]? = some (.cells xs e fz)) (v:Value) :
  (w.setCell ⟨b,i,none⟩ v).heap[b]? = some (.cells (xs.setIfInBounds i v) e fz):=by
 simp [World.setCell,Array.getElem?_modify,h]
theorem heap_setCell_ne {w:World} {a:Addr} {k:Nat} (v:Value) (h:k ≠ a.block):(w.setCell a v).heap[k]? = w.heap[k]?:=Below.heap_setCell w a v k h
theorem heap_alloc_new (w:World) (o:Obj):(w.alloc o).heap[w.heap.size]? = some o:=by
 show (w.heap.push o)[w.heap.size]? = _
 simp
theorem heap_alloc_old {w:World} {k:Nat} {x:Obj} (o:Obj) (h:w.heap[k]? = some x):(w.alloc o).heap[k]? = some x:=by
 rw [Below.heap_alloc w o k (lt_of_heap h)];exact h
theorem heap_at_new (w:World) (o:Obj) {n:Nat} (hn:n=w.heap.size):(w.alloc o).heap[n]? = some o:=by subst hn;exact heap_alloc_new w o
theorem own_shape {w:World} {base:Nat} {e:TypeId} {size:Nat} {v:Value} {n:Nat} {xs:List Value} (h:w.ownsRow base e size v n xs) (hn:0 < n):∃ g cap,v=.slice (some ⟨g,0,none⟩) n cap ∧ base ≤ g:=by
 obtain ⟨_,⟨_,h0⟩ | ⟨g,cap,cur,hv,hg,_⟩⟩:=h
 ·omega
 ·exact ⟨g,cap,hv,hg⟩
theorem own_len {w:World} {base:Nat} {e:TypeId} {size:Nat} {v:Value} {n:Nat} {xs:List Value} (h:w.ownsRow base e size v n xs):∃ a c,v=.slice a n c:=by
 obtain ⟨_,⟨hv,h0⟩ | ⟨g,cap,cur,hv,hg,_⟩⟩:=h
 ·exact ⟨none,0,by rw [hv,h0]⟩
 ·exact ⟨_,_,hv⟩
structure Mod (S:Nat → Prop) (w w':World):Prop where
 os:w'.os=w.os
 tape:w'.tape=w.tape
 output:w'.output=w.output
 size:w.heap.size ≤ w'.heap.size
 block:∀ k,k < w.heap.size → ¬ S k → w'.heap[k]? = w.heap[k]?
def No:Nat → Prop:=fun _=>False
theorem Mod.refl (S:Nat → Prop) (w:World):Mod S w w:=⟨rfl,rfl,rfl,Nat.le_refl _,fun _ _ _=>rfl⟩
theorem Mod.weaken {S T:Nat → Prop} {w w':World} (h:Mod S w w') (hs:∀ k,k < w.heap.size → S k → T k):Mod T w w' :=
 ⟨h.os,h.tape,h.output,h.size,fun k hk hn=>h.block k hk fun s=>hn (hs k hk s)⟩
theorem Mod.trans {S:Nat → Prop} {a b c:World} (h:Mod S a b) (k:Mod S b c):Mod S a c :=
 ⟨k.os.trans h.os,k.tape.trans h.tape,k.output.trans h.output,Nat.le_trans h.size k.size,
  fun i hi hn=>(k.block i (Nat.lt_of_lt_of_le hi h.size) hn).trans (h.block i hi hn)⟩
theorem Mod.then {S T:Nat → Prop} {a b c:World} (h:Mod S a b) (k:Mod T b c) (ht:∀ i,i < a.heap.size → T i → S i):Mod S a c :=
 ⟨k.os.trans h.os,k.tape.trans h.tape,k.output.trans h.output,Nat.le_trans h.size k.size,
  fun i hi hn=>(k.block i (Nat.lt_of_lt_of_le hi h.size) fun t=>hn (ht i hi t)).trans (h.block i hi hn)⟩
theorem Mod.alloc {S:Nat → Prop} {a w:World} (h:Mod S a w) (o:Obj):Mod S a (w.alloc o) :=
 h.then (T:=No) ⟨rfl,rfl,rfl,by simp,fun k hk _=>Below.heap_alloc _ _ _ hk⟩ (fun _ _ f=>f.elim)
theorem Mod.setCell {S:Nat → Prop} {a w:World} (h:Mod S a w) {p:Addr} (hp:p.block < a.heap.size → S p.block) (u:Value):Mod S a (w.setCell p u) :=
 h.then (T:=fun k=>k=p.block) ⟨rfl,rfl,rfl,by simp [World.setCell],fun k _ hn=>Below.heap_setCell _ _ _ _ hn⟩ (fun i hi e=>by subst e;exact hp hi)
theorem Mod.drew {S:Nat → Prop} {a w:World} (h:Mod S a w):Mod S a w.drew:=⟨h.os,h.tape,h.output,h.size,h.block⟩
theorem Mod.drewN {S:Nat → Prop} {a w:World} (h:Mod S a w) (n:Nat):Mod S a (w.drewN n):=⟨h.os,h.tape,h.output,h.size,h.block⟩
theorem Mod.of_below {S:Nat → Prop} {w w':World} (h:Below w.heap.size w w'):Mod S w w':=⟨h.os,h.tape,h.output,h.size,fun k hk _=>h.block k hk⟩
theorem Mod.below {w w':World} (h:Mod No w w'):Below w.heap.size w w':=⟨h.os,h.tape,h.output,h.size,fun k hk=>h.block k hk (fun f=>f)⟩
theorem Mod.of_grown {S:Nat → Prop} {w w':World} {row:Option Nat} (h:w.grownBy w' row) (hr:∀ k,row=some k → k < w.heap.size → S k):Mod S w w' :=
 ⟨h.os,h.tape,h.output,h.size,fun k hk hn=>h.block k hk fun e=>hn (hr k e.symm hk)⟩
theorem Mod.keep {S:Nat → Prop} {w w':World} (h:Mod S w w') {k:Nat} {o:Obj} (hk:w.heap[k]? = some o) (hn:¬ S k):w'.heap[k]? = some o:=by
 rw [h.block k (lt_of_heap hk) hn];exact hk
theorem lt_of_cell {w:World} {a:Addr} {v:Value} (h:w.cell? a=some v):a.block < w.heap.size:=World.block_lt_of_cell? w _ h
theorem Mod.cell {S:Nat → Prop} {w w':World} (h:Mod S w w') {a:Addr} {v:Value} (hc:w.cell? a=some v) (hn:¬ S a.block):w'.cell? a=some v:=by
 rw [World.cell?_of_block (w:=w) (h.block a.block (lt_of_cell hc) hn)];exact hc
def Sl (w:World) (X:Nat → Prop) (e:TypeId) (v:Value) (n:Nat) (xs:List Value):Prop :=
 (v=.slice none 0 0 ∧ n=0 ∧ xs=[]) ∨
 ∃ blk o c cur fz,v=.slice (some ⟨blk,o,none⟩) n c ∧ n ≤ c ∧ c ≤ maxLen ∧ ¬ X blk ∧ w.heap[blk]? = some (.cells cur e fz) ∧ o+xs.length ≤ cur.size ∧
  ∀ i,i < xs.length → cur[o+i]? = xs[i]?
theorem Sl.keep {S X:Nat → Prop} {w w':World} {e:TypeId} {v:Value} {n:Nat} {xs:List Value} (h:Sl w X e v n xs) (hm:Mod S w w')
  (hs:∀ k cur fz,S k → ¬ X k → w.heap[k]? ≠ some (.cells cur e fz)):Sl w' X e v n xs:=by
 rcases h with h | ⟨blk,o,c,cur,fz,hv,hn,hc,hx,hh,hl,hr⟩
 ·exact .inl h
 ·exact .inr ⟨blk,o,c,cur,fz,hv,hn,hc,hx,hm.keep hh (fun s=>hs blk cur fz s hx hh),hl,hr⟩
theorem Sl.kn {X:Nat → Prop} {w w':World} {e:TypeId} {v:Value} {n:Nat} {xs:List Value} (h:Sl w X e v n xs) (hm:Mod No w w'):Sl w' X e v n xs:=h.keep hm (fun _ _ _ f=>f.elim)
theorem Sl.shrink {X Y:Nat → Prop} {w:World} {e:TypeId} {v:Value} {n:Nat} {xs:List Value} (h:Sl w X e v n xs) (hy:∀ k,k < w.heap.size → Y k → X k):Sl w Y e v n xs:=by
 rcases h with h | ⟨blk,o,c,cur,fz,hv,hn,hc,hx,hh,hl,hr⟩
 ·exact .inl h
 ·exact .inr ⟨blk,o,c,cur,fz,hv,hn,hc,fun y=>hx (hy blk (lt_of_heap hh) y),hh,hl,hr⟩
theorem Sl.of_own {X:Nat → Prop} {w:World} {base:Nat} {e:TypeId} {size:Nat} {v:Value} {n:Nat} {xs:List Value} (h:w.ownsRow base e size v n xs) (hx:∀ k,base ≤ k → ¬ X k):Sl w X e v n xs:=by
 obtain ⟨hl,h | ⟨g,cap,cur,hv,hg,hh,hn,hc,hs,ht⟩⟩:=h
 ·obtain ⟨hv,hn⟩:=h
  subst hn
  exact .inl ⟨hv,rfl,List.eq_nil_of_length_eq_zero (by simpa using hl)⟩
 ·have hle:xs.length ≤ cur.size:=by
   rw [← ht];simp
   exact Nat.min_le_right _ _
  refine .inr ⟨g,0,cap,cur,(0,0),hv,hn,hc,hx g hg,hh,by simpa using hle,fun i hi=>?_⟩
  rw [← ht,List.getElem?_take,if_pos (by rw [← hl];exact hi)]
  simp
theorem Sl.cell {X:Nat → Prop} {w:World} {e:TypeId} {n c:Nat} {xs:List Value} {a:Addr} (h:Sl w X e (.slice (some a) n c) n xs) {i:Nat} (hi:i < xs.length) :
  w.cell? ⟨a.block,a.off+i,none⟩=xs[i]?:=by
 rcases h with ⟨h,_⟩ | ⟨blk,o,c',cur,fz,hv,hn,hc,hx,hh,hl,hr⟩
 ·cases h
 ·cases hv
  simp only [World.cell?,hh]
  simpa using hr i hi
theorem Sl.len {X:Nat → Prop} {w:World} {e:TypeId} {v:Value} {n:Nat} {xs:List Value} (h:Sl w X e v n xs):∃ a c,v=.slice a n c:=by
 rcases h with ⟨hv,hn,_⟩ | ⟨blk,o,c,_,_,hv,_⟩
 ·exact ⟨none,0,by rw [hv,hn]⟩
 ·exact ⟨_,_,hv⟩
theorem Sl.shape {X:Nat → Prop} {w:World} {e:TypeId} {v:Value} {n:Nat} {xs:List Value} (h:Sl w X e v n xs) (hn:0 < n):∃ blk o c,v=.slice (some ⟨blk,o,none⟩) n c ∧ n ≤ c ∧ c ≤ maxLen ∧ ¬ X blk:=by
 rcases h with ⟨_,h0,_⟩ | ⟨blk,o,c,_,_,hv,h1,h2,h3,_⟩
 ·omega
 ·exact ⟨blk,o,c,hv,h1,h2,h3⟩
theorem Sl.avoid {X:Nat → Prop} {w:World} {e:TypeId} {v:Value} {n:Nat} {xs:List Value} (h:Sl w X e v n xs):Sl w (fun q=>X q ∨ w.heap.size ≤ q) e v n xs:=by
 rcases h with h | ⟨blk,o,c,cur,fz,hv,hn,hc,hx,hh,hl,hr⟩
 ·exact .inl h
 ·exact .inr ⟨blk,o,c,cur,fz,hv,hn,hc,fun h=>h.elim hx (fun h=>by have:=lt_of_heap hh;omega),hh,hl,hr⟩
def bv (l:List UInt8):List Value:=l.map fun c=>.int .u8 c.toNat
@[simp] theorem bv_length (l:List UInt8):(bv l).length=l.length:=by simp [bv]
theorem bv_get (l:List UInt8) (i:Nat) (h:i < l.length):(bv l)[i]? = some (.int .u8 l[i].toNat):=by simp [bv,h]
theorem bv_one (l:List UInt8):∀ u ∈ bv l,u.oneCell'=true:=by
 intro u hu
 obtain ⟨_,_,rfl⟩:=List.mem_map.1 hu
 rfl
theorem grown_refl (w:World) (row:Option Nat):w.grownBy w row:=⟨rfl,rfl,rfl,Nat.le_refl _,fun _ _ _=>rfl⟩
theorem app_sl {P:Program} (w:World) {ops:Array Oper} {rest:List Oper} {o:Oper} {a:Act} {Q:Exit → Act → World → Prop} (hgd:o.guard=none) (s x:Operand) (t:TypeId)
  (ho:o.op=.call { callee:=.builtin .append,args:=#[s,x],argTypes:=#[t,t] })
  (base:Nat) (e:TypeId) (i:TypeInfo) (z:Value) (size bytes:Nat) (ht:P.underlying t=some (.slice e)) (hi:P.info? e=some i) (hz:i.zero=some z)
  (hsize:i.size=size) (hby:i.bytes=bytes) (hzs:z.cells.size=size) (hsz:0 < size)
  (v:Value) (n:Nat) (xs:List Value) (hs:a.eval s=v) (hown:w.ownsRow base e size v n xs)
  (X:Nat → Prop) (e':TypeId) (xv:Value) (m:Nat) (news:List Value) (hx:a.eval x=xv) (hsl:Sl w X e' xv m news) (hl:news.length=m*size) (h1:∀ u ∈ news,u.oneCell'=true)
  (h63:n+m ≤ maxLen) (hbytes:(n+m)*bytes ≤ 140737488355328) (hbase:base ≤ w.heap.size)
  (h:∀ v' w',w'.ownsRow base e size v' (n+m) (xs++news) → w.grownBy w' v.ownBlock → (v'=.slice none 0 0 ↔ v=.slice none 0 0 ∧ m=0) → wpList P ops Q rest (a.put o.dst v') w'):wpList P ops Q (o :: rest) a w:=by
 rcases hsl with ⟨rfl,rfl,rfl⟩ | ⟨blk,of,c,cur,fz,rfl,hn,hc,hX,hh,hle,hr⟩
 ·refine wpList_plain hgd fun K hK'=>?_
  have hrun:=run_append_owned_none (P:=P) w base t o.type e i size ht hi v n xs hown
  unfold Oper.wp
  simp only [execOp,ho,resolve,invoke,builtin,Sem.run_bind,Sem.run_pure,Result.andThen_ok,List.map_toArray,List.map_cons,List.map_nil,hs,hx,hrun]
  exact hK' _ _ (h v w (by simpa using hown) (grown_refl _ _) (by simp))
 ·refine wpList_append_own w hgd s x t ho base e i z size bytes ht hi hz hsize hby hzs hsz v n xs hs hown _ m c news hx hl (fun j u hu=>?_) h1 h63 hbytes hbase h
  have hj:j < news.length:=(List.getElem?_eq_some_iff.1 hu).1
  simp only [World.cell?,Addr.add_lit,hh]
  simpa [hu] using hr j hj
theorem wp_app_sl {P:Program} (w:World) {o:Oper} {a:Act} {K:Act → World → Prop} {Q:Exit → Act → World → Prop} (s x:Operand) (t:TypeId)
  (ho:o.op=.call { callee:=.builtin .append,args:=#[s,x],argTypes:=#[t,t] })
  (base:Nat) (e:TypeId) (i:TypeInfo) (z:Value) (size bytes:Nat) (ht:P.underlying t=some (.slice e)) (hi:P.info? e=some i) (hz:i.zero=some z)
  (hsize:i.size=size) (hby:i.bytes=bytes) (hzs:z.cells.size=size) (hsz:0 < size)
  (v:Value) (n:Nat) (xs:List Value) (hs:a.eval s=v) (hown:w.ownsRow base e size v n xs)
  (X:Nat → Prop) (e':TypeId) (xv:Value) (m:Nat) (news:List Value) (hx:a.eval x=xv) (hsl:Sl w X e' xv m news) (hl:news.length=m*size) (h1:∀ u ∈ news,u.oneCell'=true)
  (h63:n+m ≤ maxLen) (hbytes:(n+m)*bytes ≤ 140737488355328) (hbase:base ≤ w.heap.size)
  (h:∀ v' w',w'.ownsRow base e size v' (n+m) (xs++news) → w.grownBy w' v.ownBlock → (v'=.slice none 0 0 ↔ v=.slice none 0 0 ∧ m=0) → K (a.put o.dst v') w'):o.wp P a w K Q:=by
 rcases hsl with ⟨rfl,rfl,rfl⟩ | ⟨blk,of,c,cur,fz,rfl,hn,hc,hX,hh,hle,hr⟩
 ·have hrun:=run_append_owned_none (P:=P) w base t o.type e i size ht hi v n xs hown
  unfold Oper.wp
  simp only [execOp,ho,resolve,invoke,builtin,Sem.run_bind,Sem.run_pure,Result.andThen_ok,List.map_toArray,List.map_cons,List.map_nil,hs,hx,hrun]
  exact h v w (by simpa using hown) (grown_refl _ _) (by simp)
 ·refine wp_append_own w s x t ho base e i z size bytes ht hi hz hsize hby hzs hsz v n xs hs hown _ m c news hx hl (fun j u hu=>?_) h1 h63 hbytes hbase h
  have hj:j < news.length:=(List.getElem?_eq_some_iff.1 hu).1
  simp only [World.cell?,Addr.add_lit,hh]
  simpa [hu] using hr j hj
theorem string_of {P:Program} {w:World} {X:Nat → Prop} {src dst e e':TypeId} {v:Value} {l:List UInt8} (h:Sl w X e' v l.length (bv l)) (hs:P.underlying src=some (.slice e)) (he:P.underlying e=some (.int .u8)) (hd:P.underlying dst=some .string) :
  (convert src dst v).run P w=.ok (.string ⟨l.toArray⟩) w:=by
 rcases h with ⟨rfl,hn,hl⟩ | ⟨blk,o,c,cur,fz,rfl,hn,hc,hx,hh,hle,hr⟩
 ·have:l=[]:=List.eq_nil_of_length_eq_zero hn
  subst this
  rw [run_convert_bytes_string w src dst e none 0 0 hs he hd]
  rfl
 ·refine run_convert_bytes_back w src dst e ⟨blk,o,none⟩ c l hs he hd fun j hj=>?_
  simp only [World.cell?,Addr.add_lit,hh]
  have:=hr j (by simpa using hj)
  rw [bv_get l j hj] at this
  simpa using this
end Go.Proofs.YtmppeipgjcjdkaaGreatDoor
namespace Go.Proofs.YtmppeipgjcjdkaaGreatDoor
open _root_.Go.Proofs.Tryz
open Go.RowKit
theorem own_heapM {w:World} {base:Nat} {e:TypeId} {size:Nat} {v:Value} {n:Nat} {xs:List Value} (h:w.ownsRow base e size v n xs) {k:Nat} (hk:v.ownBlock=some k):∃ cur,w.heap[k]? = some (.cells cur e (0,0)):=by
 obtain ⟨_,⟨hv,_⟩ | ⟨g,cap,cur,hv,hg,hh,r⟩⟩:=h
 ·rw [hv] at hk;cases hk
 ·rw [hv] at hk;cases hk;exact ⟨_,hh⟩
theorem Sl.zero {X:Nat->Prop} {w:World} {e:TypeId} {b o n c:Nat} {xs:List Value} (h:Sl w X e (.slice (some ⟨b,o,none⟩) n c) n xs):Sl w X e (.slice (some ⟨b,o,none⟩) 0 0) 0 []:=by
 rcases h with ⟨h,_⟩ | ⟨blk,o',c0,cur,fz,hv,hn,hc,hX,hh,hl,hr⟩
 ·cases h
 ·cases hv
  exact .inr ⟨b,o,0,cur,fz,rfl,Nat.le_refl _,Nat.zero_le _,hX,hh,by simp only [List.length_nil];omega,fun i hi=>by cases hi⟩
theorem own_keepM {S:Nat->Prop} {w w':World} {base:Nat} {e:TypeId} {size:Nat} {v:Value} {n:Nat} {xs:List Value} (h:w.ownsRow base e size v n xs) (hm:Mod S w w') (hs:∀ k,v.ownBlock=some k->¬ S k):w'.ownsRow base e size v n xs:=by
 obtain ⟨hl,h | ⟨g,cap,cur,hv,hg,hh,r⟩⟩:=h
 ·exact ⟨hl,.inl h⟩
 ·exact ⟨hl,.inr ⟨g,cap,cur,hv,hg,hm.keep hh (hs g (by rw [hv];rfl)),r⟩⟩
theorem Sl.part {X:Nat->Prop} {w:World} {e:TypeId} {b o n c:Nat} {xs:List Value} (h:Sl w X e (.slice (some ⟨b,o,none⟩) n c) n xs) (hx:xs.length=n) (i m c':Nat) (hm:i+m<=n) (h1:m<=c') (h2:c'<=maxLen) :
  Sl w X e (.slice (some ⟨b,o+i,none⟩) m c') m ((xs.drop i).take m):=by
 rcases h with ⟨h,_⟩ | ⟨blk,o',c0,cur,fz,hv,hn,hc,hX,hh,hl,hr⟩
 ·cases h
 ·cases hv
  refine .inr ⟨b,o+i,c',cur,fz,rfl,h1,h2,hX,hh,?_,fun j hj=>?_⟩
  ·rw [List.length_take,List.length_drop];omega
  ·rw [List.length_take,List.length_drop] at hj
   rw [List.getElem?_take,if_pos (by omega),List.getElem?_drop,<- hr (i+j) (by omega)]
   congr 1;omega
theorem Sl.takeN {X:Nat->Prop} {w:World} {e:TypeId} {b o n c m:Nat} {xs:List Value} (h:Sl w X e (.slice (some ⟨b,o,none⟩) n c) n xs) (hx:xs.length=n) (hm:m<=n):Sl w X e (.slice (some ⟨b,o,none⟩) m c) m (xs.take m):=by
 rcases h with ⟨h,_⟩ | ⟨blk,o',c',cur,fz,hv,hn,hc,hX,hh,hl,hr⟩
 ·cases h
 ·cases hv
  refine .inr ⟨b,o,c,cur,fz,rfl,by omega,hc,hX,hh,?_,fun i hi=>?_⟩
  ·rw [List.length_take];omega
  ·rw [List.length_take] at hi
   rw [hr i (by omega),List.getElem?_take,if_pos (by omega)]
theorem Sl.dropN {X:Nat->Prop} {w:World} {e:TypeId} {b o n c m:Nat} {xs:List Value} (h:Sl w X e (.slice (some ⟨b,o,none⟩) n c) n xs) (hx:xs.length=n) (hm:m<=n) :
  Sl w X e (.slice (if c=m then some ⟨b,o,none⟩ else some ⟨b,o+m,none⟩) (n - m) (c - m)) (n - m) (xs.drop m):=by
 rcases h with ⟨h,_⟩ | ⟨blk,o',c',cur,fz,hv,hn,hc,hX,hh,hl,hr⟩
 ·cases h
 ·cases hv
  refine .inr ⟨b,if c=m then o else o+m,c - m,cur,fz,by split <;> rfl,by omega,by omega,hX,hh,?_,fun i hi=>?_⟩
  ·rw [List.length_drop];split <;> omega
  ·rw [List.length_drop] at hi
   rw [if_neg (by omega),List.getElem?_drop,<- hr (m+i) (by omega),Nat.add_assoc]
theorem bv_take (l:List UInt8) (n:Nat):bv (l.take n)=(bv l).take n:=by simp [bv,List.map_take]
theorem bv_drop (l:List UInt8) (n:Nat):bv (l.drop n)=(bv l).drop n:=by simp [bv,List.map_drop]
theorem bv_append (a b:List UInt8):bv (a++b)=bv a++bv b:=by simp [bv]
section
variable {P:Program} {ops:Array Oper} {Q:Exit->Act->World->Prop} {md:Region.Mode} {S:World->Prop}
def wpAnyT (P:Program) (md:Region.Mode) (ops:Array Oper) (Q:Exit->Act->World->Prop) (S:World->Prop) (z:Nat):Nat->Array Bool->Act->World->Prop
 | 0,listed,a,w=>Region.ready md ops listed=[]/\Q .normal a w
 | fuel+1,listed,a,w =>
  (Region.ready md ops listed=[]->Q .normal a w) ∧
  ∀ i ∈ Region.ready md ops listed,wpOp P ops Q i (fun a' w'=>(i ≠ z->S w')/\wpAnyT P md ops Q S z fuel (listed.setIfInBounds i true) a' w') a w
theorem wpAny_of_T {z:Nat}:∀ (fuel:Nat) (listed:Array Bool) (a:Act) (w:World),wpAnyT P md ops Q S z fuel listed a w->wpAny P md ops Q fuel listed a w
 | 0,_,_,_,h=>h
 | fuel+1,_,_,_,h=>⟨h.1,fun i hi=>wpOp_mono (fun a' w' h'=>wpAny_of_T fuel _ a' w' h'.2) (h.2 i hi)⟩
theorem wpAnyT_first {z i:Nat} {oi oz:Oper} {v:Value} (hi:ops[i]? = some oi) (hz:ops[z]? = some oz) (hzi:∃ e ∈ oz.after,Region.binds md e=true/\e.on=i) (hsel:∀ (j:Nat) (o:Oper) cs b,ops[j]? = some o->o.op ≠ .select cs b)
  (hQ:∀ c a w,Q (.panic c) (a.put oi.dst v) w->Q (.panic c) a w) :
  ∀ (fuel:Nat) (listed:Array Bool) (a:Act) (w:World),
   (∀ j oj,ops[j]? = some oj->j ≠ i->listed.getD j true=false->(∀ e ∈ oj.after,Region.binds md e=true->e.on ≠ i)->oi.apart ops oj=true) →
   i ∈ Region.ready md ops listed->YieldsIf P ops S oi v a->S w →
   wpAnyT P md ops Q S z fuel (listed.setIfInBounds i true) (a.put oi.dst v) w->wpAnyT P md ops Q S z (fuel+1) listed a w:=by
 intro fuel
 induction fuel with
 | zero =>
  intro listed a w _ hr hy hS H
  refine ⟨fun h=>(by rw [h] at hr;cases hr),fun j hj=>?_⟩
  by_cases hji:j=i
  ·subst hji;exact hy.wpOp hi hS ⟨fun _=>hS,H⟩
  ·have:=ready_mono hj hji
   rw [H.1] at this
   cases this
 | succ fuel ih =>
  intro listed a w hfree hr hy hS H
  refine ⟨fun h=>(by rw [h] at hr;cases hr),fun j hj=>?_⟩
  by_cases hji:j=i
  ·subst hji;exact hy.wpOp hi hS ⟨fun _=>hS,H⟩
  ·have h1:=H.2 j (ready_mono hj hji)
   obtain ⟨hjun,oj,hoj,hall⟩:=mem_ready.1 hj
   have hnot:∀ e ∈ oj.after,Region.binds md e=true->e.on ≠ i:=fun e he hb heq=>by
    have h1:=hall e he hb
    have h0:=(mem_ready.1 hr).1
    rw [heq] at h1
    rcases Nat.lt_or_ge i listed.size with h' | h'
    ·simp [h'] at h0 h1;rw [h0] at h1;cases h1
    ·simp [Array.getElem?_eq_none h'] at h1
   have hjz:j ≠ z:=fun e=>by
    subst e
    rw [hz] at hoj
    cases hoj
    obtain ⟨e,he,hb,heq⟩:=hzi
    exact hnot e he hb heq
   have h2:=wpOp_putIf hoj (hfree j oj hoj hji hjun hnot) (fun cs b=>hsel i oi cs b hi) (fun cs b=>hsel j oj cs b hoj) hQ hy h1
   have hfree':∀ k ok,ops[k]? = some ok->k ≠ i->(listed.setIfInBounds j true).getD k true=false →
     (∀ e ∈ ok.after,Region.binds md e=true->e.on ≠ i)->oi.apart ops ok=true:=fun k ok hk hki hun hno=>by
    refine hfree k ok hk hki ?_ hno
    by_cases hjk:j=k
    ·subst hjk;exact hjun
    ·rw [getD_set_ne true hjk] at hun;exact hun
   have hin:i ∈ Region.ready md ops (listed.setIfInBounds j true):=ready_mono hr (Ne.symm hji)
   refine wpOp_mono (fun a' w' h3=>?_) h2
   have hS':S w':=h3.2.1 hjz
   exact ⟨fun _=>hS',ih (listed.setIfInBounds j true) a' w' hfree' hin h3.1 hS' (by rw [Array.setIfInBounds_comm _ _ hji];exact h3.2.2)⟩
def waitsB (md:Region.Mode) (ops:Array Oper) (z i:Nat):Bool :=
 match ops[z]? with
 | some o=>o.after.any fun e=>Region.binds md e && e.on == i
 | none=>false
theorem wpAnyT_take {z:Nat} (i:Nat) (d:Option Tmp) {oi:Oper} (v:Value) {fuel:Nat} {listed:Array Bool} {a:Act} {w:World} (hi:ops[i]? = some oi) (hd:oi.dst=d)
  (hs:(Region.noSelect ops && Region.free md ops listed i && (Region.ready md ops listed).contains i && waitsB md ops z i)=true)
  (hQ:∀ c a w,Q (.panic c) (a.put oi.dst v) w->Q (.panic c) a w) (hS:S w) (hy:YieldsIf P ops S oi v a)
  (h:wpAnyT P md ops Q S z fuel (listed.setIfInBounds i true) (a.put d v) w):wpAnyT P md ops Q S z (fuel+1) listed a w:=by
 subst hd
 simp only [Bool.and_eq_true] at hs
 obtain ⟨⟨⟨h1,h2⟩,h3⟩,h4⟩:=hs
 unfold waitsB at h4
 split at h4
 ·rename_i oz hz
  obtain ⟨e,he,hb⟩:=Array.any_eq_true'.1 h4
  simp only [Bool.and_eq_true,beq_iff_eq] at hb
  exact wpAnyT_first hi hz ⟨e,he,hb⟩ (Region.noSelect_spec h1) hQ fuel listed a w (Region.free_spec hi h2) (by simpa using h3) hy hS h
 ·cases h4
theorem wpAnyT_one {z:Nat} (i:Nat) {oi:Oper} {fuel:Nat} {listed:Array Bool} {a:Act} {w:World} (hi:ops[i]? = some oi) (hr:Region.ready md ops listed=[i]) (hg:oi.guard=none)
  (h:∀ K:Act->World->Prop,Hid (∀ a' w',(i ≠ z->S w')->wpAnyT P md ops Q S z fuel (listed.setIfInBounds i true) a' w'->K a' w')->oi.wp P a w K Q):wpAnyT P md ops Q S z (fuel+1) listed a w:=by
 refine ⟨fun h0=>absurd (hr ▸ h0) (by simp),fun j hj=>?_⟩
 rw [hr] at hj
 obtain rfl:j=i:=by simpa using hj
 unfold wpOp
 simp only [hi,Region.wanted,hg,if_true]
 exact .inl (h _ (zh fun a' w' hs hw=>⟨hs,hw⟩))
theorem wpAnyT_oneW {z:Nat} (i:Nat) {oi:Oper} {fuel:Nat} {listed:Array Bool} {a:Act} {w:World} (hi:ops[i]? = some oi) (hr:Region.ready md ops listed=[i]) (hg:Region.wanted oi (yielded ops a.tmps)=true)
  (h:∀ K:Act->World->Prop,Hid (∀ a' w',(i ≠ z->S w')->wpAnyT P md ops Q S z fuel (listed.setIfInBounds i true) a' w'->K a' w')->oi.wp P a w K Q):wpAnyT P md ops Q S z (fuel+1) listed a w:=by
 refine ⟨fun h0=>absurd (hr ▸ h0) (by simp),fun j hj=>?_⟩
 rw [hr] at hj
 obtain rfl:j=i:=by simpa using hj
 unfold wpOp
 simp only [hi,hg,if_true]
 exact .inl (h _ (zh fun a' w' hs hw=>⟨hs,hw⟩))
theorem wpAnyT_done {z:Nat} {listed:Array Bool} {a:Act} {w:World} (hr:Region.ready md ops listed=[]) (h:Q .normal a w) :
  ∀ fuel,wpAnyT P md ops Q S z fuel listed a w
 | 0=>⟨hr,h⟩
 | _+1=>⟨fun _=>h,by rw [hr];simp⟩
theorem wp_region_T (S:World->Prop) (z:Nat) {id:Nat} {a:Act} {w:World} (hm:P.follows .mixedOrders=true)
  (h:wpAnyT P .any ops Q S z ops.size (Array.replicate ops.size false) a w.drew):(Code.region id ops true).wp P Q a w :=
 wp_region_any hm (wpAny_of_T _ _ _ _ h)
end
section
variable {P : Program} {ops : Array Oper} {Q : Exit -> Act -> World -> Prop} {md : Region.Mode} {S : World -> Prop}
theorem wpAnyT_firstU {z i : Nat} {oi : Oper} {v : Value} (hi : ops[i]? = some oi) (hSa : ∀ w, S w) (hsel : ∀ (j : Nat) (o : Oper) cs b, ops[j]? = some o -> o.op ≠ .select cs b)
  (hQ : ∀ c a w, Q (.panic c) (a.put oi.dst v) w -> Q (.panic c) a w) :
  ∀ (fuel : Nat) (listed : Array Bool) (a : Act) (w : World),
   (∀ j oj, ops[j]? = some oj -> j ≠ i -> listed.getD j true = false -> (∀ e ∈ oj.after, Region.binds md e = true -> e.on ≠ i) -> oi.apart ops oj = true) →
   i ∈ Region.ready md ops listed -> YieldsIf P ops S oi v a -> S w →
   wpAnyT P md ops Q S z fuel (listed.setIfInBounds i true) (a.put oi.dst v) w -> wpAnyT P md ops Q S z (fuel + 1) listed a w := by
 intro fuel
 induction fuel with
 | zero =>
  intro listed a w _ hr hy hS H
  refine ⟨fun h => (by rw [h] at hr; cases hr), fun j hj => ?_⟩
  by_cases hji : j = i
  ·subst hji; exact hy.wpOp hi hS ⟨fun _ => hS, H⟩
  ·have := ready_mono hj hji
   rw [H.1] at this
   cases this
 | succ fuel ih =>
  intro listed a w hfree hr hy hS H
  refine ⟨fun h => (by rw [h] at hr; cases hr), fun j hj => ?_⟩
  by_cases hji : j = i
  ·subst hji; exact hy.wpOp hi hS ⟨fun _ => hS, H⟩
  ·have h1 := H.2 j (ready_mono hj hji)
   obtain ⟨hjun, oj, hoj, hall⟩ := mem_ready.1 hj
   have hnot : ∀ e ∈ oj.after, Region.binds md e = true -> e.on ≠ i := fun e he hb heq => by
    have h1 := hall e he hb
    have h0 := (mem_ready.1 hr).1
    rw [heq] at h1
    rcases Nat.lt_or_ge i listed.size with h' | h'
    ·simp [h'] at h0 h1; rw [h0] at h1; cases h1
    ·simp [Array.getElem?_eq_none h'] at h1
   have h2 := wpOp_putIf hoj (hfree j oj hoj hji hjun hnot) (fun cs b => hsel i oi cs b hi) (fun cs b => hsel j oj cs b hoj) hQ hy h1
   have hfree' : ∀ k ok, ops[k]? = some ok -> k ≠ i -> (listed.setIfInBounds j true).getD k true = false →
     (∀ e ∈ ok.after, Region.binds md e = true -> e.on ≠ i) -> oi.apart ops ok = true := fun k ok hk hki hun hno => by
    refine hfree k ok hk hki ?_ hno
    by_cases hjk : j = k
    ·subst hjk; exact hjun
    ·rw [getD_set_ne true hjk] at hun; exact hun
   have hin : i ∈ Region.ready md ops (listed.setIfInBounds j true) := ready_mono hr (Ne.symm hji)
   refine wpOp_mono (fun a' w' h3 => ?_) h2
   have hS' : S w' := hSa w'
   exact ⟨fun _ => hS', ih (listed.setIfInBounds j true) a' w' hfree' hin h3.1 hS' (by rw [Array.setIfInBounds_comm _ _ hji]; exact h3.2.2)⟩
theorem wpAnyT_takeU {z : Nat} (i : Nat) (d : Option Tmp) {oi : Oper} (v : Value) {fuel : Nat} {listed : Array Bool} {a : Act} {w : World} (hi : ops[i]? = some oi) (hd : oi.dst = d)
  (hs : (Region.noSelect ops && Region.free md ops listed i && (Region.ready md ops listed).contains i) = true)
  (hQ : ∀ c a w, Q (.panic c) (a.put oi.dst v) w -> Q (.panic c) a w) (hy : YieldsIf P ops (fun _ => True) oi v a)
  (h : wpAnyT P md ops Q (fun _ => True) z fuel (listed.setIfInBounds i true) (a.put d v) w) : wpAnyT P md ops Q (fun _ => True) z (fuel + 1) listed a w := by
 subst hd
 simp only [Bool.and_eq_true] at hs
 obtain ⟨⟨h1, h2⟩, h3⟩ := hs
 exact wpAnyT_firstU (z := z) hi (fun _ => trivial) (Region.noSelect_spec h1) hQ fuel listed a w (Region.free_spec hi h2) (by simpa using h3) hy trivial h
theorem wpAnyT_firstV {z i : Nat} {oi : Oper} {v : Value} (hi : ops[i]? = some oi) (hz : ops[z]? = none) (hsel : ∀ (j : Nat) (o : Oper) cs b, ops[j]? = some o -> o.op ≠ .select cs b)
  (hQ : ∀ c a w, Q (.panic c) (a.put oi.dst v) w -> Q (.panic c) a w) :
  ∀ (fuel : Nat) (listed : Array Bool) (a : Act) (w : World),
   (∀ j oj, ops[j]? = some oj -> j ≠ i -> listed.getD j true = false -> (∀ e ∈ oj.after, Region.binds md e = true -> e.on ≠ i) -> oi.apart ops oj = true) →
   i ∈ Region.ready md ops listed -> YieldsIf P ops S oi v a -> S w →
   wpAnyT P md ops Q S z fuel (listed.setIfInBounds i true) (a.put oi.dst v) w -> wpAnyT P md ops Q S z (fuel + 1) listed a w := by
 intro fuel
 induction fuel with
 | zero =>
  intro listed a w _ hr hy hS H
  refine ⟨fun h => (by rw [h] at hr; cases hr), fun j hj => ?_⟩
  by_cases hji : j = i
  ·subst hji; exact hy.wpOp hi hS ⟨fun _ => hS, H⟩
  ·have := ready_mono hj hji
   rw [H.1] at this
   cases this
 | succ fuel ih =>
  intro listed a w hfree hr hy hS H
  refine ⟨fun h => (by rw [h] at hr; cases hr), fun j hj => ?_⟩
  by_cases hji : j = i
  ·subst hji; exact hy.wpOp hi hS ⟨fun _ => hS, H⟩
  ·have h1 := H.2 j (ready_mono hj hji)
   obtain ⟨hjun, oj, hoj, hall⟩ := mem_ready.1 hj
   have hnot : ∀ e ∈ oj.after, Region.binds md e = true -> e.on ≠ i := fun e he hb heq => by
    have h1 := hall e he hb
    have h0 := (mem_ready.1 hr).1
    rw [heq] at h1
    rcases Nat.lt_or_ge i listed.size with h' | h'
    ·simp [h'] at h0 h1; rw [h0] at h1; cases h1
    ·simp [Array.getElem?_eq_none h'] at h1
   have h2 := wpOp_putIf hoj (hfree j oj hoj hji hjun hnot) (fun cs b => hsel i oi cs b hi) (fun cs b => hsel j oj cs b hoj) hQ hy h1
   have hfree' : ∀ k ok, ops[k]? = some ok -> k ≠ i -> (listed.setIfInBounds j true).getD k true = false →
     (∀ e ∈ ok.after, Region.binds md e = true -> e.on ≠ i) -> oi.apart ops ok = true := fun k ok hk hki hun hno => by
    refine hfree k ok hk hki ?_ hno
    by_cases hjk : j = k
    ·subst hjk; exact hjun
    ·rw [getD_set_ne true hjk] at hun; exact hun
   have hin : i ∈ Region.ready md ops (listed.setIfInBounds j true) := ready_mono hr (Ne.symm hji)
   refine wpOp_mono (fun a' w' h3 => ?_) h2
   have hS' : S w' := h3.2.1 (fun e => by subst e; rw [hz] at hoj; cases hoj)
   exact ⟨fun _ => hS', ih (listed.setIfInBounds j true) a' w' hfree' hin h3.1 hS' (by rw [Array.setIfInBounds_comm _ _ hji]; exact h3.2.2)⟩
theorem wpAnyT_takeV {z : Nat} (i : Nat) (d : Option Tmp) {oi : Oper} (v : Value) {fuel : Nat} {listed : Array Bool} {a : Act} {w : World} (hi : ops[i]? = some oi) (hd : oi.dst = d)
  (hs : (Region.noSelect ops && Region.free md ops listed i && (Region.ready md ops listed).contains i && (ops[z]?).isNone) = true)
  (hQ : ∀ c a w, Q (.panic c) (a.put oi.dst v) w -> Q (.panic c) a w) (hS : S w) (hy : YieldsIf P ops S oi v a)
  (h : wpAnyT P md ops Q S z fuel (listed.setIfInBounds i true) (a.put d v) w) : wpAnyT P md ops Q S z (fuel + 1) listed a w := by
 subst hd
 simp only [Bool.and_eq_true] at hs
 obtain ⟨⟨⟨h1, h2⟩, h3⟩, h4⟩ := hs
 exact wpAnyT_firstV (z := z) hi (by simpa using h4) (Region.noSelect_spec h1) hQ fuel listed a w (Region.free_spec hi h2) (by simpa using h3) hy hS h
theorem yT {z : Nat} (i : Nat) (d : Option Tmp) {oi : Oper} (v : Value) {fuel : Nat} {listed : Array Bool} {a : Act} {w : World} (hS : S w)
  (hy : ∀ w', S w' → (execOp a.eval oi).run P w' = .ok (.value v) w')
  (h : wpAnyT P md ops Q S z fuel (listed.setIfInBounds i true) (a.put d v) w)
  (hi : ops[i]? = some oi := by rfl) (hd : oi.dst = d := by rfl)
  (hs : (Region.noSelect ops && Region.free md ops listed i && (Region.ready md ops listed).contains i && (ops[z]?).isNone) = true := by kernel_rfl)
  (hQ : ∀ c a w, Q (.panic c) (a.put oi.dst v) w → Q (.panic c) a w := by exact fun _ _ _ h => h)
  (hg : Region.wanted oi (yielded ops a.tmps) = true := by rfl) : wpAnyT P md ops Q S z (fuel + 1) listed a w :=
 wpAnyT_takeV (z := z) i d v hi hd hs hQ hS (Or.inl ⟨hg, hy⟩) h
theorem yS {z : Nat} (i d : Nat) {oi : Oper} {v : Value} {fuel : Nat} {listed l2 : Array Bool} {a a2 : Act} {w : World} (hS : S w)
  (h : wpAnyT P md ops Q S z fuel l2 a2 w) (hi : ops[i]? = some oi := by rfl) (hd : oi.dst = some d := by rfl)
  (hs : (Region.noSelect ops && Region.free md ops listed i && (Region.ready md ops listed).contains i && (ops[z]?).isNone) = true := by kernel_rfl)
  (hQ : ∀ c a w, Q (.panic c) (a.put oi.dst v) w → Q (.panic c) a w := by exact fun _ _ _ h => h)
  (hg : Region.wanted oi (yielded ops a.tmps) = true := by rfl)
  (hy : ∀ w, S w → (execOp a.eval oi).run P w = .ok (.value v) w := by (intro _ q; go_simp; try rfl))
  (hl : listed.setIfInBounds i true = l2 := by (try simp only [yB, yC, yD]); rfl) (ha : a.put (some d) v = a2 := by (simp only [Act.put, yB, yC, yD]; rfl)) :
  wpAnyT P md ops Q S z (fuel + 1) listed a w :=
 wpAnyT_takeV (z := z) i (some d) v hi hd hs hQ hS (Or.inl ⟨hg, hy⟩) (by rw [hl, ha]; exact h)
theorem yU {z : Nat} (i d : Nat) {oi : Oper} {fuel : Nat} {listed l2 : Array Bool} {a a2 : Act} {w : World} (hS : S w)
  (h : wpAnyT P md ops Q S z fuel l2 a2 w) (hi : ops[i]? = some oi := by rfl) (hd : oi.dst = some d := by rfl)
  (hs : (Region.noSelect ops && Region.free md ops listed i && (Region.ready md ops listed).contains i && (ops[z]?).isNone) = true := by kernel_rfl)
  (hQ : ∀ c a w, Q (.panic c) (a.put oi.dst undef) w → Q (.panic c) a w := by exact fun _ _ _ h => h)
  (hg : Region.wanted oi (yielded ops a.tmps) = false := by rfl)
  (hl : listed.setIfInBounds i true = l2 := by (try simp only [yB, yC, yD]); rfl) (ha : a.put (some d) undef = a2 := by (simp only [Act.put, yB, yC, yD]; rfl)) :
  wpAnyT P md ops Q S z (fuel + 1) listed a w :=
 wpAnyT_takeV (z := z) i (some d) undef hi hd hs hQ hS (Or.inr ⟨hg, rfl⟩) (by rw [hl, ha]; exact h)
theorem yR {z : Nat} (i d : Nat) {oi : Oper} {v : Value} {fuel : Nat} {listed l2 : Array Bool} {a a2 : Act} {w : World} (hS : S w)
  (h : wpAnyT P md ops Q S z fuel l2 a2 w) (hi : ops[i]? = some oi := by rfl) (hd : oi.dst = some d := by rfl)
  (hs : (Region.noSelect ops && Region.free md ops listed i && (Region.ready md ops listed).contains i && waitsB md ops z i) = true := by kernel_rfl)
  (hQ : ∀ c a w, Q (.panic c) (a.put oi.dst v) w → Q (.panic c) a w := by exact fun _ _ _ h => h)
  (hg : Region.wanted oi (yielded ops a.tmps) = true := by rfl)
  (hy : ∀ w, S w → (execOp a.eval oi).run P w = .ok (.value v) w := by (intro _ q; go_simp; try rfl))
  (hl : listed.setIfInBounds i true = l2 := by (try simp only [yB, yC, yD]); rfl) (ha : a.put (some d) v = a2 := by (simp only [Act.put, yB, yC, yD]; rfl)) :
  wpAnyT P md ops Q S z (fuel + 1) listed a w :=
 wpAnyT_take (z := z) i (some d) v hi hd hs hQ hS (Or.inl ⟨hg, hy⟩) (by rw [hl, ha]; exact h)
end
def blockAt (n:Nat):Code->Option Code
 | .block m c=>if m == n then some (.block m c) else blockAt n c
 | .seq a b=>match blockAt n a with
  | some c=>some c
  | none=>blockAt n b
 | .loop c=>blockAt n c
 | .scope c=>blockAt n c
 | .cond _ a b=>match blockAt n a with
  | some c=>some c
  | none=>blockAt n b
 | _=>none
def endsAt (n:Nat):Code->Bool
 | .block m _=>m == n
 | .seq _ b=>endsAt n b
 | _=>false
def behind (n:Nat):Code->Option Code
 | .seq a b=>if endsAt n a then some b else match behind n a with
  | some c=>some c
  | none=>behind n b
 | .loop c=>behind n c
 | .scope c=>behind n c
 | .block _ c=>behind n c
 | .cond _ a b=>match behind n a with
  | some c=>some c
  | none=>behind n b
 | _=>none
def Holds (t:Array Value):List (Nat × Value)->Prop
 | []=>True
 | p :: l=>t.getD p.1 undef=p.2/\Holds t l
structure Fr (n:Nat) (l:List (Nat × Value)) (a:Act):Prop where
 size:a.tmps.size=n
 defers:a.defers=[]
 holds:Holds a.tmps l
theorem arr_lits (t:Array Value):t=((List.range t.size).map fun i=>t.getD i undef).toArray:=by
 apply Array.ext
 ·simp
 ·intro i h1 h2
  simp [Array.getD,h1]
def Nope:Exit->Act->World->Prop:=fun _ _ _=>False
theorem wp_only {P:Program} {s:Code} {R K:Act->World->Prop} {Q':Exit->Act->World->Prop} {a:Act} {w:World} (h:s.wp P (Exit.then R Nope) a w) (hR:∀ a' w',R a' w'->K a' w'):s.wp P (Exit.then K Q') a w:=by
 refine wp_mono h ?_
 intro e a' w' hq
 cases e with
 | normal=>exact hR _ _ hq
 | exit id=>exact hq.elim
 | goto l=>exact hq.elim
 | ret=>exact hq.elim
 | panic ch=>exact hq.elim
 | outgrown=>exact hq.elim
theorem wp_part {P:Program} {s:Code} {R:Act->World->Prop} {Q':Exit->Act->World->Prop} {a:Act} {w:World}
  (first:∀ (J K':Act->World->Prop),(∀ a' w',R a' w'->J a' w')->(∀ a' w',Met J a' w'->K' a' w')->s.wp P (Exit.then K' Q') a w):s.wp P (Exit.then R Q') a w :=
 wp_cut R (fun _ _ h=>h) first
theorem str_len3 (l:List UInt8):(⟨l.toArray⟩:ByteArray).size=l.length:=by show l.toArray.size=_;simp
theorem info_byte:(prog.info? 5).map (fun i=>(i.zero,i.size,i.bytes))=some (some (.int .u8 0),1,1):=by kernel_rfl
def wd (a b:Int):Int:=IntKind.u32.wrap (a+b)
def an (a b:Int):Int:=bits .and .u32 a b
def h0:List Int:=[1779033703,3144134277,1013904242,2773480762,1359893119,2600822924,528734635,1541459225]
def k0:List Int:=[1116352408,1899447441,3049323471,3921009573,961987163,1508970993,2453635748,2870763221,3624381080,310598401,607225278,1426881987,1925078388,2162078206,2614888103,3248222580,3835390401,4022224774,264347078,604807628,770255983,1249150122,1555081692,1996064986,2554220882,2821834349,2952996808,3210313671,3336571891,3584528711,113926993,338241895,666307205,773529912,1294757372,1396182291,1695183700,1986661051,2177026350,2456956037,2730485921,2820302411,3259730800,3345764771,3516065817,3600352804,4094571909,275423344,430227734,506948616,659060556,883997877,958139571,1322822218,1537002063,1747873779,1955562222,2024104815,2227730452,2361852424,2428436474,2756734187,3204031479,3329325298]
def bf (l:List UInt8) (k:Nat):Int:=((l.getD k 0).toNat:Int)
theorem bv_bf {l:List UInt8} {k:Nat} (h:k < l.length):(bv l)[k]? = some (.int .u8 (bf l k)):=by
 unfold bv bf
 rw [List.getElem?_map,List.getElem?_eq_getElem h,List.getD_eq_getElem?_getD,List.getElem?_eq_getElem h];rfl
abbrev strV (l:List UInt8):Value:=.string ⟨l.toArray⟩
theorem byte_ext (Z:ByteArray):Z=⟨Z.data.toList.toArray⟩:=by cases Z;simp
theorem str_list (l:List UInt8):(⟨l.toArray⟩:ByteArray).toList=l:=by rw [ByteArray.toList_eq]
theorem run_at (l:List UInt8) (i:Nat) (hi:i < l.length) (W:World):(Instr.index 9 (.string ⟨l.toArray⟩) (.int .i64 (i:Int))).run prog W=.ok (.int .u8 (l[i].toNat:Int)) W:=by
 have hsz:=str_len3 l
 have hi2:(0:Int)<=(i:Int)/\(i:Int) < ((⟨l.toArray⟩:ByteArray).size:Int):=by rw [hsz];omega
 rw [run_index_string W 9 _ .i64 i underlying9,dif_pos hi2]
 rfl
theorem str_part (l:List UInt8) (a b:Nat):(ByteArray.extract ⟨l.toArray⟩ a b)=⟨((l.drop a).take (b - a)).toArray⟩:=by
 rw [byte_ext (ByteArray.extract _ _ _),Lib.extract_data]
theorem str_to (l:List UInt8) (b:Nat):(ByteArray.extract ⟨l.toArray⟩ 0 b)=⟨(l.take b).toArray⟩:=by
 rw [str_part];simp
theorem str_from (l:List UInt8) (a:Nat):(ByteArray.extract ⟨l.toArray⟩ a (⟨l.toArray⟩:ByteArray).size)=⟨(l.drop a).toArray⟩:=by
 rw [str_part,str_len3,List.take_of_length_le (by rw [List.length_drop];exact Nat.le_refl _)]
theorem bool_ret {a b:Bool} (h:a=b):Ending.returned (.bool a)=Ending.returned (.bool b):=by rw [h]
def strs (l:List (List UInt8)):List Value:=l.map strV
@[simp] theorem strs_length (l:List (List UInt8)):(strs l).length=l.length:=by simp [strs]
def dig (c:UInt8):Bool:=decide (48<=c.toNat) && decide (c.toNat<=57)
def digitsB (l:List UInt8):Bool:=l.all dig && !l.isEmpty
def plainB (l:List UInt8):Bool:=decide (l.length=1) || decide (l.head? ≠ some 48)
def decV (l:List UInt8):Nat:=l.foldl (fun n c=>10*n+(c.toNat - 48)) 0
def numB (l:List UInt8):Bool:=digitsB l && decide (l.length<=9) && plainB l
def signB (c:UInt8):Bool:=dig c || (decide (97<=c.toNat) && decide (c.toNat<=122)) || (decide (65<=c.toNat) && decide (c.toNat<=90)) || decide (c.toNat=45)
def markB (l:List UInt8):Bool:=!l.isEmpty && decide (l.length<=16) && (!digitsB l || plainB l) && l.all signB
theorem all_take_succ {p:UInt8->Bool} {l:List UInt8} {k:Nat} (hk:k < l.length) (h:∀ i (hi:i < l.length),i < k->p l[i]=true) (h2:p l[k]=true):∀ i (hi:i < l.length),i < k+1->p l[i]=true:=fun i hi hik=>by
 rcases Nat.lt_or_ge i k with h3 | h3
 ·exact h i hi h3
 ·obtain rfl:i=k:=by omega
  exact h2
theorem all_of {p:UInt8->Bool} {l:List UInt8} {k:Nat} (hk:l.length<=k) (h:∀ i (hi:i < l.length),i < k->p l[i]=true):l.all p=true:=by
 rw [List.all_eq_true]
 intro c hc
 obtain ⟨i,hi,rfl⟩:=List.getElem_of_mem hc
 exact h i hi (by omega)
theorem not_all {p:UInt8->Bool} {l:List UInt8} {k:Nat} (hk:k < l.length) (h:p l[k]=false):l.all p=false:=by
 rw [<- Bool.not_eq_true,List.all_eq_true]
 intro hh
 have:=hh _ (List.getElem_mem hk)
 rw [h] at this
 cases this
def splitC (c:UInt8):List UInt8->List (List UInt8)
 | []=>[[]]
 | d :: l=>if d=c then [] :: splitC c l else match splitC c l with
  | []=>[[d]]
  | p :: r=>(d :: p) :: r
theorem splitC_ne (c:UInt8) (l:List UInt8):splitC c l ≠ []:=by
 cases l with
 | nil=>simp [splitC]
 | cons d l =>
  unfold splitC
  split
  ·simp
  ·split <;> simp
theorem splitC_none {c:UInt8}:∀ {l:List UInt8},(∀ d ∈ l,d ≠ c)->splitC c l=[l]
 | [],_=>rfl
 | d :: l,h=>by
  unfold splitC
  rw [if_neg (h d (by simp)),splitC_none (fun e he=>h e (by simp [he]))]
theorem splitC_hit {c:UInt8} (b:List UInt8):∀ {a:List UInt8},(∀ d ∈ a,d ≠ c)->splitC c (a++c :: b)=a :: splitC c b
 | [],_=>by
  show splitC c (c :: b)=_
  rw [splitC,if_pos rfl]
 | d :: a,h=>by
  show splitC c (d :: (a++c :: b))=_
  rw [splitC,if_neg (h d (by simp)),splitC_hit b (fun e he=>h e (by simp [he]))]
theorem splitC_length_le (c:UInt8):∀ l:List UInt8,(splitC c l).length<=l.length+1
 | []=>by simp [splitC]
 | d :: l=>by
  have ih:=splitC_length_le c l
  unfold splitC
  split
  ·simp;omega
  ·split
   ·simp
   ·rename_i h;rw [h] at ih;simp at ih ⊢;omega
theorem splitC_mem_le (c:UInt8):∀ (l:List UInt8),∀ p ∈ splitC c l,p.length<=l.length
 | [],p,hp=>by simp [splitC] at hp;simp [hp]
 | d :: l,p,hp=>by
  have ih:=splitC_mem_le c l
  unfold splitC at hp
  split at hp
  ·rcases List.mem_cons.1 hp with rfl | hp
   ·simp
   ·have:=ih p hp;simp;omega
  ·split at hp
   ·simp at hp;simp [hp]
   ·rename_i q r h
    rw [h] at ih
    rcases List.mem_cons.1 hp with rfl | hp
    ·have:=ih q (by simp);simp;omega
    ·have:=ih p (by simp [hp]);simp;omega
theorem first_place {c:UInt8}:∀ {l:List UInt8},c ∈ l->∃ a b,l=a++c :: b/\∀ d ∈ a,d ≠ c
 | d :: l,h=>by
  by_cases hd:d=c
  ·subst hd;exact ⟨[],l,rfl,fun _ h=>by cases h⟩
  ·obtain ⟨a,b,rfl,h2⟩:=first_place (c:=c) (l:=l) (by
    rcases List.mem_cons.1 h with h | h
    ·exact absurd h.symm hd
    ·exact h)
   exact ⟨d :: a,b,rfl,fun e he=>by
    rcases List.mem_cons.1 he with rfl | he
    ·exact hd
    ·exact h2 e he⟩
theorem index_none {c:UInt8}:∀ {l:List UInt8},(∀ d ∈ l,d ≠ c)->Lib.index l [c] = -1
 | [],_=>rfl
 | d :: l,h=>by
  have h1:([c]:List UInt8).isPrefixOf (d :: l)=false:=by simp [List.isPrefixOf,Ne.symm (h d (by simp))]
  rw [Lib.index,h1,index_none (fun e he=>h e (by simp [he]))]
  rfl
theorem index_hit {c:UInt8} (b:List UInt8):∀ {a:List UInt8},(∀ d ∈ a,d ≠ c)->Lib.index (a++c :: b) [c]=(a.length:Int)
 | [],_=>by
  show Lib.index (c :: b) [c]=0
  rw [Lib.index];simp [List.isPrefixOf]
 | d :: a,h=>by
  have h1:([c]:List UInt8).isPrefixOf (d :: (a++c :: b))=false:=by simp [List.isPrefixOf,Ne.symm (h d (by simp))]
  show Lib.index (d :: (a++c :: b)) [c]=_
  rw [Lib.index,h1,index_hit b (fun e he=>h e (by simp [he]))]
  rw [if_neg (by simp),if_neg (by simp)]
  simp
theorem splitK_C (c:UInt8):∀ (n:Nat) (l:List UInt8),l.length=n->∀ k,k=Lib.count l [c]->Lib.splitK [c] 0 k l=splitC c l:=by
 intro n
 induction n using Nat.strongRecOn with
 | ind n ih =>
  intro l hl k hk
  by_cases hc:c ∈ l
  ·obtain ⟨a,b,rfl,ha⟩:=first_place hc
   have hi:=index_hit b ha
   have hcount:=Lib.count_hit (s:=a++c :: b) (sub:=[c]) (by simp) hi
   have hd:(a++c :: b).drop (a.length + [c].length)=b:=by simp
   rw [hd] at hcount
   rw [hk,hcount,Nat.add_comm,Lib.splitK,hi,if_neg (by simp),splitC_hit b ha]
   have e1:((a.length:Int).toNat+0)=a.length:=by simp
   have e2:((a.length:Int).toNat + [c].length)=a.length + [c].length:=by simp
   rw [e1,e2,hd,List.take_left,ih b.length (by simp at hl;omega) b rfl _ rfl]
  ·have hn:∀ d ∈ l,d ≠ c:=fun d hd e=>hc (e ▸ hd)
   have hi:=index_none hn
   rw [hk,Lib.count_miss hi,splitC_none hn]
   rfl
theorem splitB_strs (c:UInt8) (l:List UInt8):(Lib.splitB ⟨#[c]⟩ 0 (Lib.countB ⟨l.toArray⟩ ⟨#[c]⟩) ⟨l.toArray⟩).map Value.string=strs (splitC c l):=by
 have h:=Lib.splitB_data ⟨#[c]⟩ 0 (Lib.countB ⟨l.toArray⟩ ⟨#[c]⟩) ⟨l.toArray⟩
 have h2:(Lib.splitB ⟨#[c]⟩ 0 (Lib.countB ⟨l.toArray⟩ ⟨#[c]⟩) ⟨l.toArray⟩).map (·.data.toList)=splitC c l:=h.trans (by
  show Lib.splitK [c] 0 (Lib.count l.toArray.toList [c]) l.toArray.toList=_
  rw [List.toList_toArray]
  exact splitK_C c _ l rfl _ rfl)
 rw [<- h2]
 unfold strs strV
 rw [List.map_map]
 refine List.map_congr_left fun z _=>?_
 show Value.string z=Value.string ⟨z.data.toList.toArray⟩
 rw [<- byte_ext]
def headC (c:UInt8) (l:List UInt8):List UInt8:=l.takeWhile (fun d=>!decide (d=c))
def tailC (c:UInt8) (l:List UInt8):List UInt8:=l.drop ((headC c l).length+1)
theorem headC_hit {c:UInt8} {a:List UInt8} (b:List UInt8) (h:∀ d ∈ a,d ≠ c):headC c (a++c :: b)=a:=by
 unfold headC
 rw [List.takeWhile_append_of_pos (by intro d hd;simpa using h d hd)]
 simp
theorem headC_none {c:UInt8} {l:List UInt8} (h:∀ d ∈ l,d ≠ c):headC c l=l:=by
 unfold headC
 have:=List.takeWhile_append_of_pos (p:=fun d=>!decide (d=c)) (l₁:=l) (l₂:=[]) (by intro d hd;simpa using h d hd)
 simpa using this
theorem tailC_hit {c:UInt8} {a:List UInt8} (b:List UInt8) (h:∀ d ∈ a,d ≠ c):tailC c (a++c :: b)=b:=by
 unfold tailC
 rw [headC_hit b h]
 simp
theorem tailC_none {c:UInt8} {l:List UInt8} (h:∀ d ∈ l,d ≠ c):tailC c l=[]:=by
 unfold tailC
 rw [headC_none h]
 simp
theorem cut_C (c:UInt8) (l:List UInt8):Lib.cut l [c]=(headC c l,tailC c l,decide (c ∈ l)):=by
 by_cases hc:c ∈ l
 ·obtain ⟨a,b,rfl,ha⟩:=first_place hc
  unfold Lib.cut
  rw [index_hit b ha,if_pos (by omega),headC_hit b ha,tailC_hit b ha,decide_eq_true hc]
  simp
 ·have hn:∀ d ∈ l,d ≠ c:=fun d hd e=>hc (e ▸ hd)
  unfold Lib.cut
  rw [index_none hn,if_neg (by omega),headC_none hn,tailC_none hn,decide_eq_false hc]
theorem decV_snoc (l:List UInt8) (c:UInt8):decV (l++[c])=10*decV l+(c.toNat - 48):=by simp [decV,List.foldl_append]
theorem dig_bounds {c:UInt8} (h:dig c=true):48<=c.toNat/\c.toNat<=57:=by
 unfold dig at h
 simpa using h
theorem decV_lt:∀ (n:Nat) (l:List UInt8),l.length=n->l.all dig=true->decV l < 10 ^ l.length:=by
 intro n
 induction n with
 | zero=>intro l hl _;rw [List.length_eq_zero_iff.1 hl];decide
 | succ n ih =>
  intro l hl ha
  obtain ⟨m,c,rfl⟩:∃ m c,l=m++[c]:=⟨l.dropLast,l.getLast (fun e=>by rw [e] at hl;cases hl),(List.dropLast_concat_getLast _).symm⟩
  rw [List.all_append,Bool.and_eq_true] at ha
  have hc:=dig_bounds (c:=c) (by simpa using ha.2)
  have h1:=ih m (by simpa using hl) ha.1
  rw [decV_snoc,List.length_append,List.length_singleton,Nat.pow_succ]
  omega
theorem decFrom_dig:∀ (l:List UInt8) (acc:Nat),l.all dig=true->Lib.decFrom acc l=some (l.foldl (fun n c=>10*n+(c.toNat - 48)) acc)
 | [],_,_=>rfl
 | c :: l,acc,h=>by
  rw [List.all_cons,Bool.and_eq_true] at h
  have hb:=dig_bounds h.1
  have hd:Lib.digitVal c=some (c.toNat - 48):=by
   unfold Lib.digitVal
   rw [if_pos hb]
  unfold Lib.decFrom
  rw [hd]
  have:=decFrom_dig l (10*acc+(c.toNat - 48)) h.2
  rw [List.foldl_cons,<- this,Nat.mul_comm 10 acc]
theorem atoi_dig {l:List UInt8} (h:digitsB l=true):Lib.atoi l=some (decV l:Int):=by
 unfold digitsB at h
 rw [Bool.and_eq_true] at h
 match l,h with
 | c :: l,h =>
  have hb:=dig_bounds (c:=c) (by have:=h.1;rw [List.all_cons,Bool.and_eq_true] at this;exact this.1)
  have e1:(c == 45)=false:=by
   rw [beq_eq_false_iff_ne];rintro rfl;exact absurd hb.1 (by decide)
  have e2:(c == 43)=false:=by
   rw [beq_eq_false_iff_ne];rintro rfl;exact absurd hb.1 (by decide)
  have hn:Lib.decNat (c :: l)=some (decV (c :: l)):=by
   unfold Lib.decNat
   exact decFrom_dig (c :: l) 0 h.1
  show (if c == 45 then _ else if c == 43 then _ else _)=_
  rw [e1,e2]
  simp [hn]
structure Ver where
 ma:Int
 mi:Int
 pa:Int
 pre:List (List UInt8)
deriving DecidableEq
abbrev verV (v:Ver) (pv:Value):Value:=.agg #[.int .i64 v.ma,.int .i64 v.mi,.int .i64 v.pa,pv]
def preOf (l:List UInt8):List (List UInt8):=if 45 ∈ l then splitC 46 (tailC 45 l) else []
def preOk (l:List UInt8):Bool:=decide (45 ∉ l) || (decide ((preOf l).length<=5) && (preOf l).all markB)
def verOf (l:List UInt8):Option Ver :=
 match splitC 46 (headC 45 l) with
 | [a,b,c]=>if numB a && numB b && numB c && preOk l then some ⟨decV a,decV b,decV c,preOf l⟩ else none
 | _=>none
theorem verOf_len {l:List UInt8} (h:(splitC 46 (headC 45 l)).length ≠ 3):verOf l=none:=by
 unfold verOf
 match hs:splitC 46 (headC 45 l),h with
 | [],_=>rfl
 | [_],_=>rfl
 | [_,_],_=>rfl
 | [_,_,_],h=>exact absurd rfl h
 | _ :: _ :: _ :: _ :: _,_=>rfl
theorem verOf_three {l a b c:List UInt8} (h:splitC 46 (headC 45 l)=[a,b,c]):verOf l=if numB a && numB b && numB c && preOk l then some ⟨decV a,decV b,decV c,preOf l⟩ else none:=by
 unfold verOf
 rw [h]
theorem headC_le (c:UInt8) (l:List UInt8):(headC c l).length<=l.length:=List.takeWhile_sublist _ |>.length_le
theorem tailC_le (c:UInt8) (l:List UInt8):(tailC c l).length<=l.length:=by unfold tailC;rw [List.length_drop];omega
def allO {α β:Type} (f:α->Option β):List α->Option (List β)
 | []=>some []
 | x :: l=>match f x,allO f l with
  | some y,some ys=>some (y :: ys)
  | _,_=>none
theorem allO_append {α β:Type} (f:α->Option β):∀ (a b:List α),allO f (a++b)=match allO f a,allO f b with | some x,some y=>some (x++y) | _,_=>none
 | [],b=>by
  show allO f b=_
  cases allO f b <;> rfl
 | x :: a,b=>by
  show allO f (x :: (a++b))=_
  rw [allO,allO_append f a b,allO]
  cases f x <;> cases allO f a <;> cases allO f b <;> rfl
theorem allO_take {α β:Type} {f:α->Option β} {l:List α} {k:Nat} (hk:k < l.length) {ys:List β} {y:β} (h:allO f (l.take k)=some ys) (hy:f l[k]=some y):allO f (l.take (k+1))=some (ys++[y]):=by
 rw [List.take_succ_eq_append_getElem hk,allO_append,h]
 simp [allO,hy]
theorem allO_fail {α β:Type} {f:α->Option β} {l:List α} {k:Nat} (hk:k < l.length) (hy:f l[k]=none):allO f l=none:=by
 rw [<- List.take_append_drop k l,List.drop_eq_getElem_cons hk,allO_append]
 have h2:allO f (l[k] :: l.drop (k+1))=none:=by rw [allO,hy]
 rw [h2]
 cases allO f (l.take k) <;> rfl
theorem allO_length {α β:Type} {f:α->Option β}:∀ {l:List α} {ys:List β},allO f l=some ys->ys.length=l.length
 | [],ys,h=>by simp [allO] at h;simp [h]
 | x :: l,ys,h=>by
  rw [allO] at h
  cases hx:f x with
  | none=>rw [hx] at h;simp at h
  | some y =>
   cases hl:allO f l with
   | none=>rw [hx,hl] at h;simp at h
   | some zs =>
    rw [hx,hl] at h
    simp at h
    subst h
    simp [allO_length hl]
structure Bnd where
 sign:List UInt8
 v:Ver
deriving DecidableEq
structure Spn where
 any:Bool
 ors:List (List Bnd)
deriving DecidableEq
structure Nd where
 name:List UInt8
 span:Spn
 text:List UInt8
deriving DecidableEq
def nextV (v:Ver) (p:Nat):Ver :=
 if p=0 then (if v.ma < 999999999 then ⟨v.ma+1,0,0,[]⟩ else ⟨v.ma,v.mi,v.pa,[]⟩)
 else if p=1 then (if v.mi < 999999999 then ⟨v.ma,v.mi+1,0,[]⟩ else ⟨v.ma,v.mi,v.pa,[]⟩)
 else (if v.pa < 999999999 then ⟨v.ma,v.mi,v.pa+1,[]⟩ else ⟨v.ma,v.mi,v.pa,[]⟩)
def signL (w:List UInt8):List UInt8 :=
 if w.take 2=[60,61]\/w.take 2=[62,61] then w.take 2
 else if w.take 1=[60]\/w.take 1=[62]\/w.take 1=[61]\/w.take 1=[94]\/w.take 1=[126] then w.take 1
 else []
def boundsV (sg:List UInt8) (v:Ver):List Bnd :=
 if sg=[] then [⟨[61],v⟩]
 else if sg=[94] then [⟨[62,61],v⟩,⟨[60],nextV v (if 0 < v.ma then 0 else if 0 < v.mi then 1 else 2)⟩]
 else if sg=[126] then [⟨[62,61],v⟩,⟨[60],nextV v 1⟩]
 else [⟨sg,v⟩]
def boundsL (w:List UInt8):Option (List Bnd):=(verOf (w.drop (signL w).length)).map (boundsV (signL w))
def wordsL (l:List UInt8):List (List UInt8):=(splitC 32 l).filter (fun x=>!x.isEmpty)
def splitO:List UInt8->List (List UInt8)
 | []=>[[]]
 | [c]=>[[c]]
 | c :: d :: l=>if c=124/\d=124 then [] :: splitO l else match splitO (d :: l) with
  | []=>[[c]]
  | p :: r=>(c :: p) :: r
def listL (x:List UInt8):Option (List Bnd):=if wordsL x=[]\/8 < (wordsL x).length then none else (allO boundsL (wordsL x)).map List.flatten
def spanL (l:List UInt8):Option Spn:=if wordsL l=[[42]] then some ⟨true,[]⟩ else if 8 < (splitO l).length then none else (allO listL (splitO l)).map (fun o=>⟨false,o⟩)
def smallB (c:UInt8):Bool:=decide (97<=c.toNat) && decide (c.toNat<=122)
def nameC (c:UInt8):Bool:=smallB c || dig c || decide (c.toNat=45)
def nameB (l:List UInt8):Bool:=!l.isEmpty && decide (l.length<=32) && (l.head?.any smallB) && l.all nameC
def linesL (l:List UInt8):List (List UInt8):=if (splitC 10 l).getLast? = some [] then (splitC 10 l).dropLast else splitC 10 l
def silentB (l:List UInt8):Bool:=l.isEmpty || decide (l.head? = some 35)
def needL (l:List UInt8):Option Nd:=if 32 ∈ l/\nameB (headC 32 l)=true then (spanL (tailC 32 l)).map (fun s=>⟨headC 32 l,s,tailC 32 l⟩) else none
end Go.Proofs.YtmppeipgjcjdkaaGreatDoor
