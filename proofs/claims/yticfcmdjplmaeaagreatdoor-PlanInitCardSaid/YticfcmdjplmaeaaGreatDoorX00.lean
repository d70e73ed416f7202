/-
  Layers 0 to 14: helps of the laws of indexes. No statement is proved here; no condition.
-/
import Derived.Test.YticfcmdjplmaeaaGreatDoorProg
import GoSem.Claim
import GoSem.ClaimJoined
import GoSem.ClaimMapViews
import Derived.JoinedTies
import Derived.KernelRfl
import Derived.RowKit
import Derived.WalkKit
import Derived.WalkSpells
import Derived.WalkLawsBesides
import Derived.BigQuiet
import Derived.Deep.QuietTactic
import Derived.Deep.RegionHeld3
import Derived.Lib.Hide
import Derived.OrdersHeld
import Derived.Deep.CutBlock
import Derived.Lib.Split
import Derived.Lib.SplitLaws
import Derived.Lib.IndexBytes
set_option maxRecDepth 100000
set_option maxHeartbeats 64000000
namespace Go.Proofs.YticfcmdjplmaeaaGreatDoor
open Go.RowKit
theorem zh {p:Prop} (h:p):Hid p:=Lib.hid h
theorem yB {α:Type} (l:List α) (i:Nat) (a:α):l.toArray.setIfInBounds i a=(l.set i a).toArray:=List.setIfInBounds_toArray ..
theorem yC {α:Type} (x a:α) (l:List α):(x :: l).set 0 a=a :: l:=List.set_cons_zero ..
theorem yD {α:Type} (x a:α) (l:List α) (n:Nat):(x :: l).set (n+1) a=x :: l.set n a:=List.set_cons_succ ..
theorem calls_hide {P:Program} {f:FuncId} {args:Array Value} {w:World} {R:Ending → World → Prop}
  (h:∀ R':Ending → World → Prop,Hid (∀ e w',R e w' → R' e w') → Calls P f args w R'):Calls P f args w R :=
 h R (Lib.hid fun _ _ h=>h)
theorem fin {R R':Ending → World → Prop} (h:Hid (∀ e w',R e w' → R' e w')) {e:Ending} {w':World} (hr:R e w'):R' e w':=h.out _ _ hr
theorem cell_of {w:World} {b i:Nat} {xs:List Value} {e:TypeId} {fz:Nat × Nat} {v:Value} (h:w.heap[b]? = some (.cells xs.toArray e fz)) (hi:xs[i]? = some v):w.cell? ⟨b,i,none⟩=some v:=by
 simp [World.cell?,h,hi]
theorem cell_ofA {w:World} {b i:Nat} {xs:Array Value} {e:TypeId} {fz:Nat × Nat} {v:Value} (h:w.heap[b]? = some (.cells xs e fz)) (hi:xs[i]? = some v):w.cell? ⟨b,i,none⟩=some v:=by
 simp [World.cell?,h,hi]
theorem frozen_of {w:World} {b:Nat} {xs:Array Value} {e:TypeId} (i:Nat) (h:w.heap[b]? = some (.cells xs e (0,0))):w.frozen? ⟨b,i,none⟩=false:=by
 simp [World.frozen?,h]
theorem lt_of_heap {w:World} {b:Nat} {o:Obj} (h:w.heap[b]? = some o):b < w.heap.size:=by
 rcases Nat.lt_or_ge b w.heap.size with h' | h'
 ·exact h'
 ·simp [Array.getElem?_eq_none h'] at h
theorem heap_setCell {w:World} {b i:Nat} {xs:Array Value} {e:TypeId} {fz:Nat × Nat} (h:w.heap[b]? = some (.cells xs e fz)) (v:Value) :
  (w.setCell ⟨b,i,none⟩ v).heap[b]? = some (.cells (xs.setIfInBounds i v) e fz):=by
 simp [World.setCell,Array.getElem?_modify,h]
theorem heap_setCell_ne {w:World} {a:Addr} {k:Nat} (v:Value) (h:k ≠ a.block):(w.setCell a v).heap[k]? = w.heap[k]?:=Below.heap_setCell w a v k h
theorem heap_alloc_new (w:World) (o:Obj):(w.alloc o).heap[w.heap.size]? = some o:=by
 show (w.heap.push o)[w.heap.size]? = _
 simp
theorem heap_alloc_old {w:World} {k:Nat} {x:Obj} (o:Obj) (h:w.heap[k]? = some x):(w.alloc o).heap[k]? = some x:=by
 rw [Below.heap_alloc w o k (lt_of_heap h)];exact h
theorem heap_at_new (w:World) (o:Obj) {n:Nat} (hn:n=w.heap.size):(w.alloc o).heap[n]? = some o:=by subst hn;exact heap_alloc_new w o
theorem own_shape {w:World} {base:Nat} {e:TypeId} {size:Nat} {v:Value} {n:Nat} {xs:List Value} (h:w.ownsRow base e size v n xs) (hn:0 < n):∃ g cap,v=.slice (some ⟨g,0,none⟩) n cap ∧ base ≤ g:=by
 obtain ⟨_,⟨_,h0⟩ | ⟨g,cap,cur,hv,hg,_⟩⟩:=h
 ·omega
 ·exact ⟨g,cap,hv,hg⟩
theorem own_len {w:World} {base:Nat} {e:TypeId} {size:Nat} {v:Value} {n:Nat} {xs:List Value} (h:w.ownsRow base e size v n xs):∃ a c,v=.slice a n c:=by
 obtain ⟨_,⟨hv,h0⟩ | ⟨g,cap,cur,hv,hg,_⟩⟩:=h
 ·exact ⟨none,0,by rw [hv,h0]⟩
 ·exact ⟨_,_,hv⟩
structure Mod (S:Nat → Prop) (w w':World):Prop where
 os:w'.os=w.os
 tape:w'.tape=w.tape
 output:w'.output=w.output
 size:w.heap.size ≤ w'.heap.size
 block:∀ k,k < w.heap.size → ¬ S k → w'.heap[k]? = w.heap[k]?
def No:Nat → Prop:=fun _=>False
theorem Mod.refl (S:Nat → Prop) (w:World):Mod S w w:=⟨rfl,rfl,rfl,Nat.le_refl _,fun _ _ _=>rfl⟩
theorem Mod.weaken {S T:Nat → Prop} {w w':World} (h:Mod S w w') (hs:∀ k,k < w.heap.size → S k → T k):Mod T w w' :=
 ⟨h.os,h.tape,h.output,h.size,fun k hk hn=>h.block k hk fun s=>hn (hs k hk s)⟩
theorem Mod.trans {S:Nat → Prop} {a b c:World} (h:Mod S a b) (k:Mod S b c):Mod S a c :=
 ⟨k.os.trans h.os,k.tape.trans h.tape,k.output.trans h.output,Nat.le_trans h.size k.size,
  fun i hi hn=>(k.block i (Nat.lt_of_lt_of_le hi h.size) hn).trans (h.block i hi hn)⟩
theorem Mod.then {S T:Nat → Prop} {a b c:World} (h:Mod S a b) (k:Mod T b c) (ht:∀ i,i < a.heap.size → T i → S i):Mod S a c :=
 ⟨k.os.trans h.os,k.tape.trans h.tape,k.output.trans h.output,Nat.le_trans h.size k.size,
  fun i hi hn=>(k.block i (Nat.lt_of_lt_of_le hi h.size) fun t=>hn (ht i hi t)).trans (h.block i hi hn)⟩
theorem Mod.alloc {S:Nat → Prop} {a w:World} (h:Mod S a w) (o:Obj):Mod S a (w.alloc o) :=
 h.then (T:=No) ⟨rfl,rfl,rfl,by simp,fun k hk _=>Below.heap_alloc _ _ _ hk⟩ (fun _ _ f=>f.elim)
theorem Mod.setCell {S:Nat → Prop} {a w:World} (h:Mod S a w) {p:Addr} (hp:p.block < a.heap.size → S p.block) (u:Value):Mod S a (w.setCell p u) :=
 h.then (T:=fun k=>k=p.block) ⟨rfl,rfl,rfl,by simp [World.setCell],fun k _ hn=>Below.heap_setCell _ _ _ _ hn⟩ (fun i hi e=>by subst e;exact hp hi)
theorem Mod.drew {S:Nat → Prop} {a w:World} (h:Mod S a w):Mod S a w.drew:=⟨h.os,h.tape,h.output,h.size,h.block⟩
theorem Mod.drewN {S:Nat → Prop} {a w:World} (h:Mod S a w) (n:Nat):Mod S a (w.drewN n):=⟨h.os,h.tape,h.output,h.size,h.block⟩
theorem Mod.of_below {S:Nat → Prop} {w w':World} (h:Below w.heap.size w w'):Mod S w w':=⟨h.os,h.tape,h.output,h.size,fun k hk _=>h.block k hk⟩
theorem Mod.below {w w':World} (h:Mod No w w'):Below w.heap.size w w':=⟨h.os,h.tape,h.output,h.size,fun k hk=>h.block k hk (fun f=>f)⟩
theorem Mod.of_grown {S:Nat → Prop} {w w':World} {row:Option Nat} (h:w.grownBy w' row) (hr:∀ k,row=some k → k < w.heap.size → S k):Mod S w w' :=
 ⟨h.os,h.tape,h.output,h.size,fun k hk hn=>h.block k hk fun e=>hn (hr k e.symm hk)⟩
theorem Mod.keep {S:Nat → Prop} {w w':World} (h:Mod S w w') {k:Nat} {o:Obj} (hk:w.heap[k]? = some o) (hn:¬ S k):w'.heap[k]? = some o:=by
 rw [h.block k (lt_of_heap hk) hn];exact hk
theorem lt_of_cell {w:World} {a:Addr} {v:Value} (h:w.cell? a=some v):a.block < w.heap.size:=World.block_lt_of_cell? w _ h
theorem Mod.cell {S:Nat → Prop} {w w':World} (h:Mod S w w') {a:Addr} {v:Value} (hc:w.cell? a=some v) (hn:¬ S a.block):w'.cell? a=some v:=by
 rw [World.cell?_of_block (w:=w) (h.block a.block (lt_of_cell hc) hn)];exact hc
def Sl (w:World) (X:Nat → Prop) (e:TypeId) (v:Value) (n:Nat) (xs:List Value):Prop :=
 (v=.slice none 0 0 ∧ n=0 ∧ xs=[]) ∨
 ∃ blk o c cur fz,v=.slice (some ⟨blk,o,none⟩) n c ∧ n ≤ c ∧ c ≤ maxLen ∧ ¬ X blk ∧ w.heap[blk]? = some (.cells cur e fz) ∧ o+xs.length ≤ cur.size ∧
  ∀ i,i < xs.length → cur[o+i]? = xs[i]?
theorem Sl.keep {S X:Nat → Prop} {w w':World} {e:TypeId} {v:Value} {n:Nat} {xs:List Value} (h:Sl w X e v n xs) (hm:Mod S w w')
  (hs:∀ k cur fz,S k → ¬ X k → w.heap[k]? ≠ some (.cells cur e fz)):Sl w' X e v n xs:=by
 rcases h with h | ⟨blk,o,c,cur,fz,hv,hn,hc,hx,hh,hl,hr⟩
 ·exact .inl h
 ·exact .inr ⟨blk,o,c,cur,fz,hv,hn,hc,hx,hm.keep hh (fun s=>hs blk cur fz s hx hh),hl,hr⟩
theorem Sl.kn {X:Nat → Prop} {w w':World} {e:TypeId} {v:Value} {n:Nat} {xs:List Value} (h:Sl w X e v n xs) (hm:Mod No w w'):Sl w' X e v n xs:=h.keep hm (fun _ _ _ f=>f.elim)
theorem Sl.shrink {X Y:Nat → Prop} {w:World} {e:TypeId} {v:Value} {n:Nat} {xs:List Value} (h:Sl w X e v n xs) (hy:∀ k,k < w.heap.size → Y k → X k):Sl w Y e v n xs:=by
 rcases h with h | ⟨blk,o,c,cur,fz,hv,hn,hc,hx,hh,hl,hr⟩
 ·exact .inl h
 ·exact .inr ⟨blk,o,c,cur,fz,hv,hn,hc,fun y=>hx (hy blk (lt_of_heap hh) y),hh,hl,hr⟩
theorem Sl.of_own {X:Nat → Prop} {w:World} {base:Nat} {e:TypeId} {size:Nat} {v:Value} {n:Nat} {xs:List Value} (h:w.ownsRow base e size v n xs) (hx:∀ k,base ≤ k → ¬ X k):Sl w X e v n xs:=by
 obtain ⟨hl,h | ⟨g,cap,cur,hv,hg,hh,hn,hc,hs,ht⟩⟩:=h
 ·obtain ⟨hv,hn⟩:=h;subst hn;exact .inl ⟨hv,rfl,List.eq_nil_of_length_eq_zero (by simpa using hl)⟩
 ·have hle:xs.length ≤ cur.size:=by
   rw [← ht];simp
   exact Nat.min_le_right _ _
  refine .inr ⟨g,0,cap,cur,(0,0),hv,hn,hc,hx g hg,hh,by simpa using hle,fun i hi=>?_⟩
  rw [← ht,List.getElem?_take,if_pos (by rw [← hl];exact hi)];simp
theorem Sl.cell {X:Nat → Prop} {w:World} {e:TypeId} {n c:Nat} {xs:List Value} {a:Addr} (h:Sl w X e (.slice (some a) n c) n xs) {i:Nat} (hi:i < xs.length) :
  w.cell? ⟨a.block,a.off+i,none⟩=xs[i]?:=by
 rcases h with ⟨h,_⟩ | ⟨blk,o,c',cur,fz,hv,hn,hc,hx,hh,hl,hr⟩
 ·cases h
 ·cases hv
  simp only [World.cell?,hh];simpa using hr i hi
theorem Sl.len {X:Nat → Prop} {w:World} {e:TypeId} {v:Value} {n:Nat} {xs:List Value} (h:Sl w X e v n xs):∃ a c,v=.slice a n c:=by
 rcases h with ⟨hv,hn,_⟩ | ⟨blk,o,c,_,_,hv,_⟩
 ·exact ⟨none,0,by rw [hv,hn]⟩
 ·exact ⟨_,_,hv⟩
theorem Sl.shape {X:Nat → Prop} {w:World} {e:TypeId} {v:Value} {n:Nat} {xs:List Value} (h:Sl w X e v n xs) (hn:0 < n):∃ blk o c,v=.slice (some ⟨blk,o,none⟩) n c ∧ n ≤ c ∧ c ≤ maxLen ∧ ¬ X blk:=by
 rcases h with ⟨_,h0,_⟩ | ⟨blk,o,c,_,_,hv,h1,h2,h3,_⟩
 ·omega
 ·exact ⟨blk,o,c,hv,h1,h2,h3⟩
theorem Sl.avoid {X:Nat → Prop} {w:World} {e:TypeId} {v:Value} {n:Nat} {xs:List Value} (h:Sl w X e v n xs):Sl w (fun q=>X q ∨ w.heap.size ≤ q) e v n xs:=by
 rcases h with h | ⟨blk,o,c,cur,fz,hv,hn,hc,hx,hh,hl,hr⟩
 ·exact .inl h
 ·exact .inr ⟨blk,o,c,cur,fz,hv,hn,hc,fun h=>h.elim hx (fun h=>by have:=lt_of_heap hh;omega),hh,hl,hr⟩
def bv (l:List UInt8):List Value:=l.map fun c=>.int .u8 c.toNat
@[simp] theorem bv_length (l:List UInt8):(bv l).length=l.length:=by simp [bv]
theorem bv_get (l:List UInt8) (i:Nat) (h:i < l.length):(bv l)[i]? = some (.int .u8 l[i].toNat):=by simp [bv,h]
theorem bv_one (l:List UInt8):∀ u ∈ bv l,u.oneCell'=true:=by
 intro u hu;obtain ⟨_,_,rfl⟩:=List.mem_map.1 hu;rfl
theorem grown_refl (w:World) (row:Option Nat):w.grownBy w row:=⟨rfl,rfl,rfl,Nat.le_refl _,fun _ _ _=>rfl⟩
theorem app_sl {P:Program} (w:World) {ops:Array Oper} {rest:List Oper} {o:Oper} {a:Act} {Q:Exit → Act → World → Prop} (hgd:o.guard=none) (s x:Operand) (t:TypeId)
  (ho:o.op=.call { callee:=.builtin .append,args:=#[s,x],argTypes:=#[t,t] })
  (base:Nat) (e:TypeId) (i:TypeInfo) (z:Value) (size bytes:Nat) (ht:P.underlying t=some (.slice e)) (hi:P.info? e=some i) (hz:i.zero=some z)
  (hsize:i.size=size) (hby:i.bytes=bytes) (hzs:z.cells.size=size) (hsz:0 < size)
  (v:Value) (n:Nat) (xs:List Value) (hs:a.eval s=v) (hown:w.ownsRow base e size v n xs)
  (X:Nat → Prop) (e':TypeId) (xv:Value) (m:Nat) (news:List Value) (hx:a.eval x=xv) (hsl:Sl w X e' xv m news) (hl:news.length=m*size) (h1:∀ u ∈ news,u.oneCell'=true)
  (h63:n+m ≤ maxLen) (hbytes:(n+m)*bytes ≤ 140737488355328) (hbase:base ≤ w.heap.size)
  (h:∀ v' w',w'.ownsRow base e size v' (n+m) (xs++news) → w.grownBy w' v.ownBlock → (v'=.slice none 0 0 ↔ v=.slice none 0 0 ∧ m=0) → wpList P ops Q rest (a.put o.dst v') w'):wpList P ops Q (o :: rest) a w:=by
 rcases hsl with ⟨rfl,rfl,rfl⟩ | ⟨blk,of,c,cur,fz,rfl,hn,hc,hX,hh,hle,hr⟩
 ·refine wpList_plain hgd fun K hK'=>?_
  have hrun:=run_append_owned_none (P:=P) w base t o.type e i size ht hi v n xs hown;unfold Oper.wp;simp only [execOp,ho,resolve,invoke,builtin,Sem.run_bind,Sem.run_pure,Result.andThen_ok,List.map_toArray,List.map_cons,List.map_nil,hs,hx,hrun];exact hK' _ _ (h v w (by simpa using hown) (grown_refl _ _) (by simp))
 ·refine wpList_append_own w hgd s x t ho base e i z size bytes ht hi hz hsize hby hzs hsz v n xs hs hown _ m c news hx hl (fun j u hu=>?_) h1 h63 hbytes hbase h
  have hj:j < news.length:=(List.getElem?_eq_some_iff.1 hu).1;simp only [World.cell?,Addr.add_lit,hh];simpa [hu] using hr j hj
theorem wp_app_sl {P:Program} (w:World) {o:Oper} {a:Act} {K:Act → World → Prop} {Q:Exit → Act → World → Prop} (s x:Operand) (t:TypeId)
  (ho:o.op=.call { callee:=.builtin .append,args:=#[s,x],argTypes:=#[t,t] })
  (base:Nat) (e:TypeId) (i:TypeInfo) (z:Value) (size bytes:Nat) (ht:P.underlying t=some (.slice e)) (hi:P.info? e=some i) (hz:i.zero=some z)
  (hsize:i.size=size) (hby:i.bytes=bytes) (hzs:z.cells.size=size) (hsz:0 < size)
  (v:Value) (n:Nat) (xs:List Value) (hs:a.eval s=v) (hown:w.ownsRow base e size v n xs)
  (X:Nat → Prop) (e':TypeId) (xv:Value) (m:Nat) (news:List Value) (hx:a.eval x=xv) (hsl:Sl w X e' xv m news) (hl:news.length=m*size) (h1:∀ u ∈ news,u.oneCell'=true)
  (h63:n+m ≤ maxLen) (hbytes:(n+m)*bytes ≤ 140737488355328) (hbase:base ≤ w.heap.size)
  (h:∀ v' w',w'.ownsRow base e size v' (n+m) (xs++news) → w.grownBy w' v.ownBlock → (v'=.slice none 0 0 ↔ v=.slice none 0 0 ∧ m=0) → K (a.put o.dst v') w'):o.wp P a w K Q:=by
 rcases hsl with ⟨rfl,rfl,rfl⟩ | ⟨blk,of,c,cur,fz,rfl,hn,hc,hX,hh,hle,hr⟩
 ·have hrun:=run_append_owned_none (P:=P) w base t o.type e i size ht hi v n xs hown;unfold Oper.wp;simp only [execOp,ho,resolve,invoke,builtin,Sem.run_bind,Sem.run_pure,Result.andThen_ok,List.map_toArray,List.map_cons,List.map_nil,hs,hx,hrun];exact h v w (by simpa using hown) (grown_refl _ _) (by simp)
 ·refine wp_append_own w s x t ho base e i z size bytes ht hi hz hsize hby hzs hsz v n xs hs hown _ m c news hx hl (fun j u hu=>?_) h1 h63 hbytes hbase h
  have hj:j < news.length:=(List.getElem?_eq_some_iff.1 hu).1;simp only [World.cell?,Addr.add_lit,hh];simpa [hu] using hr j hj
theorem string_of {P:Program} {w:World} {X:Nat → Prop} {src dst e e':TypeId} {v:Value} {l:List UInt8} (h:Sl w X e' v l.length (bv l)) (hs:P.underlying src=some (.slice e)) (he:P.underlying e=some (.int .u8)) (hd:P.underlying dst=some .string) :
  (convert src dst v).run P w=.ok (.string ⟨l.toArray⟩) w:=by
 rcases h with ⟨rfl,hn,hl⟩ | ⟨blk,o,c,cur,fz,rfl,hn,hc,hx,hh,hle,hr⟩
 ·have:l=[]:=List.eq_nil_of_length_eq_zero hn;subst this;rw [run_convert_bytes_string w src dst e none 0 0 hs he hd];rfl
 ·refine run_convert_bytes_back w src dst e ⟨blk,o,none⟩ c l hs he hd fun j hj=>?_
  simp only [World.cell?,Addr.add_lit,hh];have:=hr j (by simpa using hj);rw [bv_get l j hj] at this;simpa using this
end Go.Proofs.YticfcmdjplmaeaaGreatDoor
namespace Go.Proofs.YticfcmdjplmaeaaGreatDoor
open _root_.Go.Proofs.Tryz
open Go.RowKit
theorem own_heapM {w:World} {base:Nat} {e:TypeId} {size:Nat} {v:Value} {n:Nat} {xs:List Value} (h:w.ownsRow base e size v n xs) {k:Nat} (hk:v.ownBlock=some k):∃ cur,w.heap[k]? = some (.cells cur e (0,0)):=by
 obtain ⟨_,⟨hv,_⟩ | ⟨g,cap,cur,hv,hg,hh,r⟩⟩:=h
 ·rw [hv] at hk;cases hk
 ·rw [hv] at hk;cases hk;exact ⟨_,hh⟩
theorem own_keepM {S:Nat->Prop} {w w':World} {base:Nat} {e:TypeId} {size:Nat} {v:Value} {n:Nat} {xs:List Value} (h:w.ownsRow base e size v n xs) (hm:Mod S w w') (hs:∀ k,v.ownBlock=some k->¬ S k):w'.ownsRow base e size v n xs:=by
 obtain ⟨hl,h | ⟨g,cap,cur,hv,hg,hh,r⟩⟩:=h
 ·exact ⟨hl,.inl h⟩
 ·exact ⟨hl,.inr ⟨g,cap,cur,hv,hg,hm.keep hh (hs g (by rw [hv];rfl)),r⟩⟩
theorem Sl.part {X:Nat->Prop} {w:World} {e:TypeId} {b o n c:Nat} {xs:List Value} (h:Sl w X e (.slice (some ⟨b,o,none⟩) n c) n xs) (hx:xs.length=n) (i m c':Nat) (hm:i+m<=n) (h1:m<=c') (h2:c'<=maxLen) :
  Sl w X e (.slice (some ⟨b,o+i,none⟩) m c') m ((xs.drop i).take m):=by
 rcases h with ⟨h,_⟩ | ⟨blk,o',c0,cur,fz,hv,hn,hc,hX,hh,hl,hr⟩
 ·cases h
 ·cases hv
  refine .inr ⟨b,o+i,c',cur,fz,rfl,h1,h2,hX,hh,?_,fun j hj=>?_⟩
  ·rw [List.length_take,List.length_drop];omega
  ·rw [List.length_take,List.length_drop] at hj;rw [List.getElem?_take,if_pos (by omega),List.getElem?_drop,<- hr (i+j) (by omega)];congr 1;omega
theorem Sl.takeN {X:Nat->Prop} {w:World} {e:TypeId} {b o n c m:Nat} {xs:List Value} (h:Sl w X e (.slice (some ⟨b,o,none⟩) n c) n xs) (hx:xs.length=n) (hm:m<=n):Sl w X e (.slice (some ⟨b,o,none⟩) m c) m (xs.take m):=by
 rcases h with ⟨h,_⟩ | ⟨blk,o',c',cur,fz,hv,hn,hc,hX,hh,hl,hr⟩
 ·cases h
 ·cases hv
  refine .inr ⟨b,o,c,cur,fz,rfl,by omega,hc,hX,hh,?_,fun i hi=>?_⟩
  ·rw [List.length_take];omega
  ·rw [List.length_take] at hi;rw [hr i (by omega),List.getElem?_take,if_pos (by omega)]
theorem Sl.dropN {X:Nat->Prop} {w:World} {e:TypeId} {b o n c m:Nat} {xs:List Value} (h:Sl w X e (.slice (some ⟨b,o,none⟩) n c) n xs) (hx:xs.length=n) (hm:m<=n) :
  Sl w X e (.slice (if c=m then some ⟨b,o,none⟩ else some ⟨b,o+m,none⟩) (n - m) (c - m)) (n - m) (xs.drop m):=by
 rcases h with ⟨h,_⟩ | ⟨blk,o',c',cur,fz,hv,hn,hc,hX,hh,hl,hr⟩
 ·cases h
 ·cases hv
  refine .inr ⟨b,if c=m then o else o+m,c - m,cur,fz,by split <;> rfl,by omega,by omega,hX,hh,?_,fun i hi=>?_⟩
  ·rw [List.length_drop];split <;> omega
  ·rw [List.length_drop] at hi;rw [if_neg (by omega),List.getElem?_drop,<- hr (m+i) (by omega),Nat.add_assoc]
theorem bv_append (a b:List UInt8):bv (a++b)=bv a++bv b:=by simp [bv]
section
variable {P:Program} {ops:Array Oper} {Q:Exit->Act->World->Prop} {md:Region.Mode} {S:World->Prop}
def wpAnyT (P:Program) (md:Region.Mode) (ops:Array Oper) (Q:Exit->Act->World->Prop) (S:World->Prop) (z:Nat):Nat->Array Bool->Act->World->Prop
 | 0,listed,a,w=>Region.ready md ops listed=[]/\Q .normal a w
 | fuel+1,listed,a,w =>
  (Region.ready md ops listed=[]->Q .normal a w) ∧
  ∀ i ∈ Region.ready md ops listed,wpOp P ops Q i (fun a' w'=>(i ≠ z->S w')/\wpAnyT P md ops Q S z fuel (listed.setIfInBounds i true) a' w') a w
theorem wpAny_of_T {z:Nat}:∀ (fuel:Nat) (listed:Array Bool) (a:Act) (w:World),wpAnyT P md ops Q S z fuel listed a w->wpAny P md ops Q fuel listed a w
 | 0,_,_,_,h=>h
 | fuel+1,_,_,_,h=>⟨h.1,fun i hi=>wpOp_mono (fun a' w' h'=>wpAny_of_T fuel _ a' w' h'.2) (h.2 i hi)⟩
theorem wpAnyT_first {z i:Nat} {oi oz:Oper} {v:Value} (hi:ops[i]? = some oi) (hz:ops[z]? = some oz) (hzi:∃ e ∈ oz.after,Region.binds md e=true/\e.on=i) (hsel:∀ (j:Nat) (o:Oper) cs b,ops[j]? = some o->o.op ≠ .select cs b)
  (hQ:∀ c a w,Q (.panic c) (a.put oi.dst v) w->Q (.panic c) a w) :
  ∀ (fuel:Nat) (listed:Array Bool) (a:Act) (w:World),
   (∀ j oj,ops[j]? = some oj->j ≠ i->listed.getD j true=false->(∀ e ∈ oj.after,Region.binds md e=true->e.on ≠ i)->oi.apart ops oj=true) →
   i ∈ Region.ready md ops listed->YieldsIf P ops S oi v a->S w →
   wpAnyT P md ops Q S z fuel (listed.setIfInBounds i true) (a.put oi.dst v) w->wpAnyT P md ops Q S z (fuel+1) listed a w:=by
 intro fuel;induction fuel with
 | zero =>
  intro listed a w _ hr hy hS H;refine ⟨fun h=>(by rw [h] at hr;cases hr),fun j hj=>?_⟩
  by_cases hji:j=i
  ·subst hji;exact hy.wpOp hi hS ⟨fun _=>hS,H⟩
  ·have:=ready_mono hj hji;rw [H.1] at this;cases this
 | succ fuel ih =>
  intro listed a w hfree hr hy hS H;refine ⟨fun h=>(by rw [h] at hr;cases hr),fun j hj=>?_⟩
  by_cases hji:j=i
  ·subst hji;exact hy.wpOp hi hS ⟨fun _=>hS,H⟩
  ·have h1:=H.2 j (ready_mono hj hji);obtain ⟨hjun,oj,hoj,hall⟩:=mem_ready.1 hj;have hnot:∀ e ∈ oj.after,Region.binds md e=true->e.on ≠ i:=fun e he hb heq=>by
    have h1:=hall e he hb;have h0:=(mem_ready.1 hr).1;rw [heq] at h1;rcases Nat.lt_or_ge i listed.size with h' | h'
    ·simp [h'] at h0 h1;rw [h0] at h1;cases h1
    ·simp [Array.getElem?_eq_none h'] at h1
   have hjz:j ≠ z:=fun e=>by
    subst e;rw [hz] at hoj;cases hoj
    obtain ⟨e,he,hb,heq⟩:=hzi;exact hnot e he hb heq
   have h2:=wpOp_putIf hoj (hfree j oj hoj hji hjun hnot) (fun cs b=>hsel i oi cs b hi) (fun cs b=>hsel j oj cs b hoj) hQ hy h1;have hfree':∀ k ok,ops[k]? = some ok->k ≠ i->(listed.setIfInBounds j true).getD k true=false →
     (∀ e ∈ ok.after,Region.binds md e=true->e.on ≠ i)->oi.apart ops ok=true:=fun k ok hk hki hun hno=>by
    refine hfree k ok hk hki ?_ hno
    by_cases hjk:j=k
    ·subst hjk;exact hjun
    ·rw [getD_set_ne true hjk] at hun;exact hun
   have hin:i ∈ Region.ready md ops (listed.setIfInBounds j true):=ready_mono hr (Ne.symm hji);refine wpOp_mono (fun a' w' h3=>?_) h2
   have hS':S w':=h3.2.1 hjz;exact ⟨fun _=>hS',ih (listed.setIfInBounds j true) a' w' hfree' hin h3.1 hS' (by rw [Array.setIfInBounds_comm _ _ hji];exact h3.2.2)⟩
def waitsB (md:Region.Mode) (ops:Array Oper) (z i:Nat):Bool :=
 match ops[z]? with
 | some o=>o.after.any fun e=>Region.binds md e && e.on == i
 | none=>false
theorem wpAnyT_take {z:Nat} (i:Nat) (d:Option Tmp) {oi:Oper} (v:Value) {fuel:Nat} {listed:Array Bool} {a:Act} {w:World} (hi:ops[i]? = some oi) (hd:oi.dst=d)
  (hs:(Region.noSelect ops && Region.free md ops listed i && (Region.ready md ops listed).contains i && waitsB md ops z i)=true)
  (hQ:∀ c a w,Q (.panic c) (a.put oi.dst v) w->Q (.panic c) a w) (hS:S w) (hy:YieldsIf P ops S oi v a)
  (h:wpAnyT P md ops Q S z fuel (listed.setIfInBounds i true) (a.put d v) w):wpAnyT P md ops Q S z (fuel+1) listed a w:=by
 subst hd;simp only [Bool.and_eq_true] at hs;obtain ⟨⟨⟨h1,h2⟩,h3⟩,h4⟩:=hs;unfold waitsB at h4;split at h4
 ·rename_i oz hz;obtain ⟨e,he,hb⟩:=Array.any_eq_true'.1 h4;simp only [Bool.and_eq_true,beq_iff_eq] at hb;exact wpAnyT_first hi hz ⟨e,he,hb⟩ (Region.noSelect_spec h1) hQ fuel listed a w (Region.free_spec hi h2) (by simpa using h3) hy hS h
 ·cases h4
theorem wpAnyT_one {z:Nat} (i:Nat) {oi:Oper} {fuel:Nat} {listed:Array Bool} {a:Act} {w:World} (hi:ops[i]? = some oi) (hr:Region.ready md ops listed=[i]) (hg:oi.guard=none)
  (h:∀ K:Act->World->Prop,Hid (∀ a' w',(i ≠ z->S w')->wpAnyT P md ops Q S z fuel (listed.setIfInBounds i true) a' w'->K a' w')->oi.wp P a w K Q):wpAnyT P md ops Q S z (fuel+1) listed a w:=by
 refine ⟨fun h0=>absurd (hr ▸ h0) (by simp),fun j hj=>?_⟩
 rw [hr] at hj;obtain rfl:j=i:=by simpa using hj
 unfold wpOp;simp only [hi,Region.wanted,hg,if_true];exact .inl (h _ (zh fun a' w' hs hw=>⟨hs,hw⟩))
theorem wpAnyT_oneW {z:Nat} (i:Nat) {oi:Oper} {fuel:Nat} {listed:Array Bool} {a:Act} {w:World} (hi:ops[i]? = some oi) (hr:Region.ready md ops listed=[i]) (hg:Region.wanted oi (yielded ops a.tmps)=true)
  (h:∀ K:Act->World->Prop,Hid (∀ a' w',(i ≠ z->S w')->wpAnyT P md ops Q S z fuel (listed.setIfInBounds i true) a' w'->K a' w')->oi.wp P a w K Q):wpAnyT P md ops Q S z (fuel+1) listed a w:=by
 refine ⟨fun h0=>absurd (hr ▸ h0) (by simp),fun j hj=>?_⟩
 rw [hr] at hj;obtain rfl:j=i:=by simpa using hj
 unfold wpOp;simp only [hi,hg,if_true];exact .inl (h _ (zh fun a' w' hs hw=>⟨hs,hw⟩))
theorem wpAnyT_two {z:Nat} (i j:Nat) {oi oj:Oper} {fuel:Nat} {listed:Array Bool} {a:Act} {w:World} (hi:ops[i]? = some oi) (hj:ops[j]? = some oj) (hr:Region.ready md ops listed=[i,j]) (hgi:oi.guard=none) (hgj:oj.guard=none)
  (h1:∀ K:Act->World->Prop,Hid (∀ a' w',(i ≠ z->S w')->wpAnyT P md ops Q S z fuel (listed.setIfInBounds i true) a' w'->K a' w')->oi.wp P a w K Q)
  (h2:∀ K:Act->World->Prop,Hid (∀ a' w',(j ≠ z->S w')->wpAnyT P md ops Q S z fuel (listed.setIfInBounds j true) a' w'->K a' w')->oj.wp P a w K Q):wpAnyT P md ops Q S z (fuel+1) listed a w:=by
 refine ⟨fun h0=>absurd (hr ▸ h0) (by simp),fun q hq=>?_⟩
 rw [hr] at hq;have hq':q=i\/q=j:=by simpa using hq
 rcases hq' with rfl | rfl
 ·unfold wpOp;simp only [hi,Region.wanted,hgi,if_true];exact .inl (h1 _ (zh fun a' w' hs hw=>⟨hs,hw⟩))
 ·unfold wpOp;simp only [hj,Region.wanted,hgj,if_true];exact .inl (h2 _ (zh fun a' w' hs hw=>⟨hs,hw⟩))
theorem wpAnyT_done {z:Nat} {listed:Array Bool} {a:Act} {w:World} (hr:Region.ready md ops listed=[]) (h:Q .normal a w) :
  ∀ fuel,wpAnyT P md ops Q S z fuel listed a w
 | 0=>⟨hr,h⟩
 | _+1=>⟨fun _=>h,by rw [hr];simp⟩
theorem wp_region_T (S:World->Prop) (z:Nat) {id:Nat} {a:Act} {w:World} (hm:P.follows .mixedOrders=true)
  (h:wpAnyT P .any ops Q S z ops.size (Array.replicate ops.size false) a w.drew):(Code.region id ops true).wp P Q a w :=
 wp_region_any hm (wpAny_of_T _ _ _ _ h)
end
section
variable {P : Program} {ops : Array Oper} {Q : Exit -> Act -> World -> Prop} {md : Region.Mode} {S : World -> Prop}
theorem wpAnyT_firstV {z i : Nat} {oi : Oper} {v : Value} (hi : ops[i]? = some oi) (hz : ops[z]? = none) (hsel : ∀ (j : Nat) (o : Oper) cs b, ops[j]? = some o -> o.op ≠ .select cs b)
  (hQ : ∀ c a w, Q (.panic c) (a.put oi.dst v) w -> Q (.panic c) a w) :
  ∀ (fuel : Nat) (listed : Array Bool) (a : Act) (w : World),
   (∀ j oj, ops[j]? = some oj -> j ≠ i -> listed.getD j true = false -> (∀ e ∈ oj.after, Region.binds md e = true -> e.on ≠ i) -> oi.apart ops oj = true) →
   i ∈ Region.ready md ops listed -> YieldsIf P ops S oi v a -> S w →
   wpAnyT P md ops Q S z fuel (listed.setIfInBounds i true) (a.put oi.dst v) w -> wpAnyT P md ops Q S z (fuel + 1) listed a w := by
 intro fuel
 induction fuel with
 | zero =>
  intro listed a w _ hr hy hS H
  refine ⟨fun h => (by rw [h] at hr; cases hr), fun j hj => ?_⟩
  by_cases hji : j = i
  ·subst hji; exact hy.wpOp hi hS ⟨fun _ => hS, H⟩
  ·have := ready_mono hj hji
   rw [H.1] at this
   cases this
 | succ fuel ih =>
  intro listed a w hfree hr hy hS H
  refine ⟨fun h => (by rw [h] at hr; cases hr), fun j hj => ?_⟩
  by_cases hji : j = i
  ·subst hji; exact hy.wpOp hi hS ⟨fun _ => hS, H⟩
  ·have h1 := H.2 j (ready_mono hj hji)
   obtain ⟨hjun, oj, hoj, hall⟩ := mem_ready.1 hj
   have hnot : ∀ e ∈ oj.after, Region.binds md e = true -> e.on ≠ i := fun e he hb heq => by
    have h1 := hall e he hb
    have h0 := (mem_ready.1 hr).1
    rw [heq] at h1
    rcases Nat.lt_or_ge i listed.size with h' | h'
    ·simp [h'] at h0 h1; rw [h0] at h1; cases h1
    ·simp [Array.getElem?_eq_none h'] at h1
   have h2 := wpOp_putIf hoj (hfree j oj hoj hji hjun hnot) (fun cs b => hsel i oi cs b hi) (fun cs b => hsel j oj cs b hoj) hQ hy h1
   have hfree' : ∀ k ok, ops[k]? = some ok -> k ≠ i -> (listed.setIfInBounds j true).getD k true = false →
     (∀ e ∈ ok.after, Region.binds md e = true -> e.on ≠ i) -> oi.apart ops ok = true := fun k ok hk hki hun hno => by
    refine hfree k ok hk hki ?_ hno
    by_cases hjk : j = k
    ·subst hjk; exact hjun
    ·rw [getD_set_ne true hjk] at hun; exact hun
   have hin : i ∈ Region.ready md ops (listed.setIfInBounds j true) := ready_mono hr (Ne.symm hji)
   refine wpOp_mono (fun a' w' h3 => ?_) h2
   have hS' : S w' := h3.2.1 (fun e => by subst e; rw [hz] at hoj; cases hoj)
   exact ⟨fun _ => hS', ih (listed.setIfInBounds j true) a' w' hfree' hin h3.1 hS' (by rw [Array.setIfInBounds_comm _ _ hji]; exact h3.2.2)⟩
theorem wpAnyT_takeV {z : Nat} (i : Nat) (d : Option Tmp) {oi : Oper} (v : Value) {fuel : Nat} {listed : Array Bool} {a : Act} {w : World} (hi : ops[i]? = some oi) (hd : oi.dst = d)
  (hs : (Region.noSelect ops && Region.free md ops listed i && (Region.ready md ops listed).contains i && (ops[z]?).isNone) = true)
  (hQ : ∀ c a w, Q (.panic c) (a.put oi.dst v) w -> Q (.panic c) a w) (hS : S w) (hy : YieldsIf P ops S oi v a)
  (h : wpAnyT P md ops Q S z fuel (listed.setIfInBounds i true) (a.put d v) w) : wpAnyT P md ops Q S z (fuel + 1) listed a w := by
 subst hd
 simp only [Bool.and_eq_true] at hs
 obtain ⟨⟨⟨h1, h2⟩, h3⟩, h4⟩ := hs
 exact wpAnyT_firstV (z := z) hi (by simpa using h4) (Region.noSelect_spec h1) hQ fuel listed a w (Region.free_spec hi h2) (by simpa using h3) hy hS h
theorem yT {z : Nat} (i : Nat) (d : Option Tmp) {oi : Oper} (v : Value) {fuel : Nat} {listed : Array Bool} {a : Act} {w : World} (hS : S w)
  (hy : ∀ w', S w' → (execOp a.eval oi).run P w' = .ok (.value v) w')
  (h : wpAnyT P md ops Q S z fuel (listed.setIfInBounds i true) (a.put d v) w)
  (hi : ops[i]? = some oi := by rfl) (hd : oi.dst = d := by rfl)
  (hs : (Region.noSelect ops && Region.free md ops listed i && (Region.ready md ops listed).contains i && (ops[z]?).isNone) = true := by kernel_rfl)
  (hQ : ∀ c a w, Q (.panic c) (a.put oi.dst v) w → Q (.panic c) a w := by exact fun _ _ _ h => h)
  (hg : Region.wanted oi (yielded ops a.tmps) = true := by rfl) : wpAnyT P md ops Q S z (fuel + 1) listed a w :=
 wpAnyT_takeV (z := z) i d v hi hd hs hQ hS (Or.inl ⟨hg, hy⟩) h
theorem yS {z : Nat} (i d : Nat) {oi : Oper} {v : Value} {fuel : Nat} {listed l2 : Array Bool} {a a2 : Act} {w : World} (hS : S w)
  (h : wpAnyT P md ops Q S z fuel l2 a2 w) (hi : ops[i]? = some oi := by rfl) (hd : oi.dst = some d := by rfl)
  (hs : (Region.noSelect ops && Region.free md ops listed i && (Region.ready md ops listed).contains i && (ops[z]?).isNone) = true := by kernel_rfl)
  (hQ : ∀ c a w, Q (.panic c) (a.put oi.dst v) w → Q (.panic c) a w := by exact fun _ _ _ h => h)
  (hg : Region.wanted oi (yielded ops a.tmps) = true := by rfl)
  (hy : ∀ w, S w → (execOp a.eval oi).run P w = .ok (.value v) w := by (intro _ q; go_simp; try rfl))
  (hl : listed.setIfInBounds i true = l2 := by (try simp only [yB, yC, yD]); rfl) (ha : a.put (some d) v = a2 := by (simp only [Act.put, yB, yC, yD]; rfl)) :
  wpAnyT P md ops Q S z (fuel + 1) listed a w :=
 wpAnyT_takeV (z := z) i (some d) v hi hd hs hQ hS (Or.inl ⟨hg, hy⟩) (by rw [hl, ha]; exact h)
theorem yU {z : Nat} (i d : Nat) {oi : Oper} {fuel : Nat} {listed l2 : Array Bool} {a a2 : Act} {w : World} (hS : S w)
  (h : wpAnyT P md ops Q S z fuel l2 a2 w) (hi : ops[i]? = some oi := by rfl) (hd : oi.dst = some d := by rfl)
  (hs : (Region.noSelect ops && Region.free md ops listed i && (Region.ready md ops listed).contains i && (ops[z]?).isNone) = true := by kernel_rfl)
  (hQ : ∀ c a w, Q (.panic c) (a.put oi.dst undef) w → Q (.panic c) a w := by exact fun _ _ _ h => h)
  (hg : Region.wanted oi (yielded ops a.tmps) = false := by rfl)
  (hl : listed.setIfInBounds i true = l2 := by (try simp only [yB, yC, yD]); rfl) (ha : a.put (some d) undef = a2 := by (simp only [Act.put, yB, yC, yD]; rfl)) :
  wpAnyT P md ops Q S z (fuel + 1) listed a w :=
 wpAnyT_takeV (z := z) i (some d) undef hi hd hs hQ hS (Or.inr ⟨hg, rfl⟩) (by rw [hl, ha]; exact h)
theorem yR {z : Nat} (i d : Nat) {oi : Oper} {v : Value} {fuel : Nat} {listed l2 : Array Bool} {a a2 : Act} {w : World} (hS : S w)
  (h : wpAnyT P md ops Q S z fuel l2 a2 w) (hi : ops[i]? = some oi := by rfl) (hd : oi.dst = some d := by rfl)
  (hs : (Region.noSelect ops && Region.free md ops listed i && (Region.ready md ops listed).contains i && waitsB md ops z i) = true := by kernel_rfl)
  (hQ : ∀ c a w, Q (.panic c) (a.put oi.dst v) w → Q (.panic c) a w := by exact fun _ _ _ h => h)
  (hg : Region.wanted oi (yielded ops a.tmps) = true := by rfl)
  (hy : ∀ w, S w → (execOp a.eval oi).run P w = .ok (.value v) w := by (intro _ q; go_simp; try rfl))
  (hl : listed.setIfInBounds i true = l2 := by (try simp only [yB, yC, yD]); rfl) (ha : a.put (some d) v = a2 := by (simp only [Act.put, yB, yC, yD]; rfl)) :
  wpAnyT P md ops Q S z (fuel + 1) listed a w :=
 wpAnyT_take (z := z) i (some d) v hi hd hs hQ hS (Or.inl ⟨hg, hy⟩) (by rw [hl, ha]; exact h)
end
def blockAt (n:Nat):Code->Option Code
 | .block m c=>if m == n then some (.block m c) else blockAt n c
 | .seq a b=>match blockAt n a with
  | some c=>some c
  | none=>blockAt n b
 | .loop c=>blockAt n c
 | .scope c=>blockAt n c
 | .cond _ a b=>match blockAt n a with
  | some c=>some c
  | none=>blockAt n b
 | _=>none
def endsAt (n:Nat):Code->Bool
 | .block m _=>m == n
 | .seq _ b=>endsAt n b
 | _=>false
def behind (n:Nat):Code->Option Code
 | .seq a b=>if endsAt n a then some b else match behind n a with
  | some c=>some c
  | none=>behind n b
 | .loop c=>behind n c
 | .scope c=>behind n c
 | .block _ c=>behind n c
 | .cond _ a b=>match behind n a with
  | some c=>some c
  | none=>behind n b
 | _=>none
def Holds (t:Array Value):List (Nat × Value)->Prop
 | []=>True
 | p :: l=>t.getD p.1 undef=p.2/\Holds t l
structure Fr (n:Nat) (l:List (Nat × Value)) (a:Act):Prop where
 size:a.tmps.size=n
 defers:a.defers=[]
 holds:Holds a.tmps l
theorem arr_lits (t:Array Value):t=((List.range t.size).map fun i=>t.getD i undef).toArray:=by
 apply Array.ext
 ·simp
 ·intro i h1 h2;simp [Array.getD,h1]
def Nope:Exit->Act->World->Prop:=fun _ _ _=>False
theorem wp_only {P:Program} {s:Code} {R K:Act->World->Prop} {Q':Exit->Act->World->Prop} {a:Act} {w:World} (h:s.wp P (Exit.then R Nope) a w) (hR:∀ a' w',R a' w'->K a' w'):s.wp P (Exit.then K Q') a w:=by
 refine wp_mono h ?_;intro e a' w' hq;cases e with
 | normal=>exact hR _ _ hq
 | exit id=>exact hq.elim
 | goto l=>exact hq.elim
 | ret=>exact hq.elim
 | panic ch=>exact hq.elim
 | outgrown=>exact hq.elim
theorem wp_part {P:Program} {s:Code} {R:Act->World->Prop} {Q':Exit->Act->World->Prop} {a:Act} {w:World}
  (first:∀ (J K':Act->World->Prop),(∀ a' w',R a' w'->J a' w')->(∀ a' w',Met J a' w'->K' a' w')->s.wp P (Exit.then K' Q') a w):s.wp P (Exit.then R Q') a w :=
 wp_cut R (fun _ _ h=>h) first
theorem str_len3 (l:List UInt8):(⟨l.toArray⟩:ByteArray).size=l.length:=by show l.toArray.size=_;simp
theorem info_byte:(prog.info? 5).map (fun i=>(i.zero,i.size,i.bytes))=some (some (.int .u8 0),1,1):=by kernel_rfl
def rotR (n:Nat) (x:Int):Int:=bits .or .u32 (x / 2 ^ n) (x*2 ^ (32 - n) % 4294967296)
def wCells (ws:List Int):Array Value:=((ws.map (Value.int .u32))++List.replicate (64 - ws.length) (Value.int .u32 0)).toArray
theorem wCells_new {ws:List Int} {i:Nat} (h:ws.length=i) (hi:i < 64):(wCells ws)[i]? = some (.int .u32 0):=by
 unfold wCells;rw [List.getElem?_toArray,List.getElem?_append_right (by simp;omega),List.getElem?_replicate,if_pos (by simp;omega)]
theorem wCells_set {ws:List Int} {i:Nat} {x:Int} (h:ws.length=i) (hi:i < 64):(wCells ws).setIfInBounds i (.int .u32 x)=wCells (ws++[x]):=by
 unfold wCells;rw [List.setIfInBounds_toArray];congr 1
 rw [show 64 - ws.length=(64 - (ws++[x]).length)+1 by simp;omega,List.replicate_succ,List.set_append_right _ _ (by simp;omega)];have:i - (ws.map (Value.int .u32)).length=0:=by simp;omega
 rw [this];simp
theorem wCells_old {ws:List Int} {k:Nat} {x:Int} (h:ws[k]? = some x):(wCells ws)[k]? = some (.int .u32 x):=by
 have hk:=(List.getElem?_eq_some_iff.1 h).1;unfold wCells;rw [List.getElem?_toArray,List.getElem?_append_left (by simpa using hk),List.getElem?_map,h];rfl
def be4 (y0 y1 y2 y3:Int):Int :=
 bits .or .u32 (bits .or .u32 (bits .or .u32 (IntKind.u32.wrap (IntKind.u32.wrap y0*16777216)) (IntKind.u32.wrap (IntKind.u32.wrap y1*65536))) (IntKind.u32.wrap (IntKind.u32.wrap y2*256))) (IntKind.u32.wrap y3)
def xo (a b:Int):Int:=bits .xor .u32 a b
def sg0 (x:Int):Int:=xo (xo (rotR 7 x) (rotR 18 x)) (x / 8)
def sg1 (x:Int):Int:=xo (xo (rotR 17 x) (rotR 19 x)) (x / 1024)
def wd (a b:Int):Int:=IntKind.u32.wrap (a+b)
def nextW (a16 a15 a7 a2:Int):Int:=wd (wd (wd a16 (sg0 a15)) a7) (sg1 a2)
def an (a b:Int):Int:=bits .and .u32 a b
def bigE (e:Int):Int:=xo (xo (rotR 6 e) (rotR 11 e)) (rotR 25 e)
def bigA (a:Int):Int:=xo (xo (rotR 2 a) (rotR 13 a)) (rotR 22 a)
def chF (e f g:Int):Int:=xo (an e f) (an (bits .xor .u32 IntKind.u32.max e) g)
def majF (a b c:Int):Int:=xo (xo (an a b) (an a c)) (an b c)
def oneF (e f g h k w:Int):Int:=(h+bigE e+chF e f g+k+w) % 4294967296
def twoF (a b c:Int):Int:=(bigA a+majF a b c) % 4294967296
def wordsF (b:Nat->Int):Nat->List Int
 | 0=>[]
 | n+1=>wordsF b n++[if n < 16 then be4 (b (4*n+0)) (b (4*n+1)) (b (4*n+2)) (b (4*n+3))
   else nextW ((wordsF b n).getD (n - 16) 0) ((wordsF b n).getD (n - 15) 0) ((wordsF b n).getD (n - 7) 0) ((wordsF b n).getD (n - 2) 0)]
theorem wordsF_length (b:Nat->Int):∀ n,(wordsF b n).length=n
 | 0=>rfl
 | n+1=>by unfold wordsF;rw [List.length_append,wordsF_length b n];rfl
theorem wordsF_at (b:Nat->Int) {n k:Nat} (h:k < n):(wordsF b n)[k]? = some ((wordsF b n).getD k 0):=by
 rw [List.getD_eq_getElem?_getD,List.getElem?_eq_getElem (by rw [wordsF_length];exact h)];rfl
theorem wordsF_lo (b:Nat->Int) {n:Nat} (h:n < 16):wordsF b (n+1)=wordsF b n++[be4 (b (4*n+0)) (b (4*n+1)) (b (4*n+2)) (b (4*n+3))]:=by
 rw [wordsF,if_pos h]
theorem wordsF_hi (b:Nat->Int) {n:Nat} (h:16<=n):wordsF b (n+1)=wordsF b n++[nextW ((wordsF b n).getD (n - 16) 0) ((wordsF b n).getD (n - 15) 0) ((wordsF b n).getD (n - 7) 0) ((wordsF b n).getD (n - 2) 0)]:=by
 rw [wordsF,if_neg (by omega)]
def rndL (s:List Int) (p:Int × Int):List Int :=
 match s with
 | [x0,x1,x2,x3,x4,x5,x6,x7]=>[wd (oneF x4 x5 x6 x7 p.1 p.2) (twoF x0 x1 x2),x0,x1,x2,wd x3 (oneF x4 x5 x6 x7 p.1 p.2),x4,x5,x6]
 | s=>s
def blockF (ks:List Int) (b:Nat->Int) (h:List Int):List Int:=List.zipWith wd h ((ks.zip (wordsF b 64)).foldl rndL h)
theorem rndL_length (s:List Int) (p:Int × Int) (h:s.length=8):(rndL s p).length=8:=by
 unfold rndL;split
 ·rfl
 ·exact h
theorem foldl_rndL (l:List (Int × Int)):∀ s:List Int,s.length=8->(l.foldl rndL s).length=8:=by
 induction l with
 | nil=>exact fun s h=>h
 | cons p l ih=>exact fun s h=>ih _ (rndL_length s p h)
theorem blockF_length (ks:List Int) (b:Nat->Int) (h:List Int) (hh:h.length=8):(blockF ks b h).length=8:=by
 unfold blockF;rw [List.length_zipWith,foldl_rndL _ _ hh,hh];rfl
theorem len8 {h:List Int} (hh:h.length=8):∃ h0 h1 h2 h3 h4 h5 h6 h7,h=[h0,h1,h2,h3,h4,h5,h6,h7]:=by
 match h,hh with
 | [h0,h1,h2,h3,h4,h5,h6,h7],_=>exact ⟨_,_,_,_,_,_,_,_,rfl⟩
def h0:List Int:=[1779033703,3144134277,1013904242,2773480762,1359893119,2600822924,528734635,1541459225]
def k0:List Int:=[1116352408,1899447441,3049323471,3921009573,961987163,1508970993,2453635748,2870763221,3624381080,310598401,607225278,1426881987,1925078388,2162078206,2614888103,3248222580,3835390401,4022224774,264347078,604807628,770255983,1249150122,1555081692,1996064986,2554220882,2821834349,2952996808,3210313671,3336571891,3584528711,113926993,338241895,666307205,773529912,1294757372,1396182291,1695183700,1986661051,2177026350,2456956037,2730485921,2820302411,3259730800,3345764771,3516065817,3600352804,4094571909,275423344,430227734,506948616,659060556,883997877,958139571,1322822218,1537002063,1747873779,1955562222,2024104815,2227730452,2361852424,2428436474,2756734187,3204031479,3329325298]
theorem wpList_builtAs {P:Program} {ops:Array Oper} {Q:Exit->Act->World->Prop} {a:Act} {w:World} {rest:List Oper} {o:Oper} (hg:o.guard=none) (t:TypeId) (parts:Array (Nat × Operand)) (ho:o.op=.build t parts)
  (cells:Array Value) (hc:P.built t (parts.map fun (i,x)=>(i,a.eval x)).toList=some cells) (h:wpList P ops Q rest (a.put o.dst (.agg cells)) w):wpList P ops Q (o :: rest) a w :=
 wpList_plain hg fun _ hK=>by
  unfold Oper.wp execOp;simp only [ho,Sem.run_bind,run_build w t _ cells hc,Result.andThen_ok];exact hK _ _ h
def c8 (l:List Int):Array Value:=(l.map (Value.int .u32)).toArray
def runF (ks:List Int):Nat->(Nat->Int)->List Int->List Int
 | 0,_,h=>h
 | n+1,b,h=>runF ks n (fun k=>b (64+k)) (blockF ks b h)
theorem wordsF_congr {b b':Nat->Int} (h:∀ k,k < 64->b k=b' k):∀ n,wordsF b n=wordsF b' n
 | 0=>rfl
 | n+1=>by
  unfold wordsF;rw [wordsF_congr h n];by_cases hn:n < 16
  ·rw [if_pos hn,if_pos hn,h _ (by omega),h _ (by omega),h _ (by omega),h _ (by omega)]
  ·rw [if_neg hn,if_neg hn]
theorem blockF_congr {ks:List Int} {b b':Nat->Int} (h:∀ k,k < 64->b k=b' k) (s:List Int):blockF ks b s=blockF ks b' s:=by
 unfold blockF;rw [wordsF_congr h]
theorem runF_congr {ks:List Int}:∀ (n:Nat) {b b':Nat->Int},(∀ k,k < 64*n->b k=b' k)->∀ s,runF ks n b s=runF ks n b' s
 | 0,_,_,_,_=>rfl
 | n+1,b,b',h,s=>by
  unfold runF;rw [blockF_congr (fun k hk=>h k (by omega)),runF_congr n (b:=fun k=>b (64+k)) (b':=fun k=>b' (64+k)) (fun k hk=>h (64+k) (by omega))]
theorem runF_add {ks:List Int} (n:Nat):∀ (m:Nat) (b:Nat->Int) (s:List Int),runF ks (m+n) b s=runF ks n (fun k=>b (64*m+k)) (runF ks m b s)
 | 0,b,s=>by rw [Nat.zero_add];simp only [Nat.mul_zero,Nat.zero_add];rfl
 | m+1,b,s=>by
  rw [show m+1+n=(m+n)+1 by omega];show runF ks (m+n) (fun k=>b (64+k)) (blockF ks b s)=_
  rw [runF_add n m (fun k=>b (64+k))];show _=runF ks n (fun k=>b (64*(m+1)+k)) (runF ks m (fun k=>b (64+k)) (blockF ks b s))
  congr 1
  funext k;congr 1
  omega
theorem runF_last {ks:List Int} (m:Nat) (b:Nat->Int) (s:List Int):runF ks (m+1) b s=blockF ks (fun k=>b (64*m+k)) (runF ks m b s):=runF_add 1 m b s
theorem runF_length (ks:List Int):∀ (n:Nat) (b:Nat->Int) (s:List Int),s.length=8->(runF ks n b s).length=8
 | 0,_,_,h=>h
 | n+1,b,s,h=>runF_length ks n _ _ (blockF_length ks b s h)
def bf (l:List UInt8) (k:Nat):Int:=((l.getD k 0).toNat:Int)
theorem bf_drop (l:List UInt8) (m k:Nat):bf (l.drop m) k=bf l (m+k):=by
 unfold bf;rw [List.getD_eq_getElem?_getD,List.getD_eq_getElem?_getD,List.getElem?_drop]
theorem bv_bf {l:List UInt8} {k:Nat} (h:k < l.length):(bv l)[k]? = some (.int .u8 (bf l k)):=by
 unfold bv bf;rw [List.getElem?_map,List.getElem?_eq_getElem h,List.getD_eq_getElem?_getD,List.getElem?_eq_getElem h];rfl
theorem Sl.bytes {X:Nat->Prop} {w:World} {b o n c:Nat} {l:List UInt8} (h:Sl w X 5 (.slice (some ⟨b,o,none⟩) n c) n (bv l)) {k:Nat} (hk:k < l.length):w.cell? ⟨b,o+k,none⟩=some (.int .u8 (bf l k)):=by
 rw [h.cell (a:=⟨b,o,none⟩) (by simpa [bv] using hk),bv_bf hk]
def lenByte (n i:Nat):UInt8:=UInt8.ofNat (n / 2 ^ (56 - 8*i))
def lenBytes (n i:Nat):List UInt8:=(List.range i).map (lenByte n)
theorem lenBytes_length (n i:Nat):(lenBytes n i).length=i:=by simp [lenBytes]
theorem lenBytes_succ (n i:Nat):lenBytes n (i+1)=lenBytes n i++[lenByte n i]:=by simp [lenBytes,List.range_succ]
theorem lenByte_val (n i s:Nat) (hs:s=56 - 8*i):((n:Int) / 2 ^ s) % 256=((lenByte n i).toNat:Int):=by
 subst hs;unfold lenByte;generalize 56 - 8*i=s;rw [UInt8.toNat_ofNat',Int.natCast_emod,Int.natCast_ediv,Int.natCast_pow];rfl
def lenAt (L:List UInt8) (e n i:Nat):List UInt8:=L.take (e - 8)++lenBytes n i++L.drop (e - 8+i)
def keyB (h:List Int) (i:Nat):UInt8:=UInt8.ofNat (h.getD (i / 4) 0 / 2 ^ (24 - 8*(i % 4)) % 256).toNat
def keyF (h:List Int):List UInt8:=(List.range 32).map (keyB h)
theorem keyB_val (h:List Int) (i s:Nat) (x:Int) (hx:h.getD (i / 4) 0=x) (hs:s=24 - 8*(i % 4)):x / 2 ^ s % 256=((keyB h i).toNat:Int):=by
 subst hx hs;unfold keyB;generalize h.getD (i / 4) 0 / 2 ^ (24 - 8*(i % 4))=y;rw [UInt8.toNat_ofNat'];omega
def keyAt (h:List Int) (i:Nat):List UInt8:=(List.range i).map (keyB h)++List.replicate (32 - i) 0
theorem keyAt_full (h:List Int):keyAt h 32=keyF h:=by simp [keyAt,keyF]
theorem keyAt_get (h:List Int) {i:Nat} (hi:i < 32):(bv (keyAt h i)).toArray[i]? = some (.int .u8 0):=by
 unfold keyAt;rw [List.getElem?_toArray,bv_append,List.getElem?_append_right (by simp)];have:i - (bv ((List.range i).map (keyB h))).length=0:=by simp
 rw [this,show 32 - i=(31 - i)+1 by omega,List.replicate_succ];rfl
theorem keyAt_set (h:List Int) {i:Nat} (hi:i < 32):(bv (keyAt h i)).toArray.setIfInBounds i (.int .u8 ((keyB h i).toNat:Int))=(bv (keyAt h (i+1))).toArray:=by
 rw [List.setIfInBounds_toArray];congr 1
 unfold keyAt;rw [show 32 - i=(32 - (i+1))+1 by omega,List.replicate_succ,List.range_succ,List.map_append,bv_append,bv_append,bv_append,List.set_append_right _ _ (by simp)];have:i - (bv ((List.range i).map (keyB h))).length=0:=by simp
 rw [this,List.append_assoc];rfl
def lastN (l:List UInt8):Nat:=if 64 < l.length % 64+9 then 2 else 1
def bufF (l:List UInt8):List UInt8:=l.drop (64*(l.length / 64))++128 :: List.replicate (127 - l.length % 64) 0
def lastF (l:List UInt8):List UInt8:=lenAt (bufF l) (64*lastN l) (l.length*8) 8
def sumF (l:List UInt8):List UInt8:=keyF (runF k0 (lastN l) (bf (lastF l)) (runF k0 (l.length / 64) (bf l) h0))
theorem sumF_length (l:List UInt8):(sumF l).length=32:=by simp [sumF,keyF]
def padT (l:List UInt8):List UInt8:=l++128 :: List.replicate (64*lastN l - 9 - l.length % 64) 0++lenBytes (l.length*8) 8
theorem lastN_le (l:List UInt8):l.length % 64+9<=64*lastN l:=by
 unfold lastN;split <;> omega
theorem lastN_le2 (l:List UInt8):lastN l<=2:=by
 unfold lastN;split <;> omega
theorem padT_length (l:List UInt8):(padT l).length=64*(l.length / 64+lastN l):=by
 unfold padT;have:=lastN_le l;rw [List.length_append,List.length_append,List.length_cons,List.length_replicate,lenBytes_length];omega
theorem bf_append_left {a b:List UInt8} {k:Nat} (h:k < a.length):bf (a++b) k=bf a k:=by
 unfold bf;rw [List.getD_eq_getElem?_getD,List.getD_eq_getElem?_getD,List.getElem?_append_left h]
def lastT (l:List UInt8):List UInt8:=l.drop (64*(l.length / 64))++128 :: List.replicate (64*lastN l - 9 - l.length % 64) 0++lenBytes (l.length*8) 8
theorem lastT_length (l:List UInt8):(lastT l).length=64*lastN l:=by
 unfold lastT;have:=lastN_le l;rw [List.length_append,List.length_append,List.length_cons,List.length_replicate,lenBytes_length,List.length_drop];omega
theorem padT_drop (l:List UInt8):(padT l).drop (64*(l.length / 64))=lastT l:=by
 unfold padT lastT;rw [List.append_assoc,List.drop_append_of_le_length (by omega),List.append_assoc]
theorem lastF_lastT (l:List UInt8):∃ z,lastF l=lastT l++z:=by
 have h1:=lastN_le l;have h2:=lastN_le2 l;have h3:(l.drop (64*(l.length / 64))).length=l.length % 64:=by rw [List.length_drop];omega
 refine ⟨(bufF l).drop (64*lastN l - 8+8),?_⟩
 unfold lastF lenAt lastT bufF;congr 2
 rw [List.take_append,h3,List.take_of_length_le (by omega),show 64*lastN l - 8 - l.length % 64=(64*lastN l - 9 - l.length % 64)+1 by omega,List.take_succ_cons,List.take_replicate,Nat.min_eq_left (by omega)]
theorem run_padT (l:List UInt8) (h:List Int):runF k0 (l.length / 64+lastN l) (bf (padT l)) h=runF k0 (lastN l) (bf (lastF l)) (runF k0 (l.length / 64) (bf l) h):=by
 rw [runF_add];obtain ⟨z,hz⟩:=lastF_lastT l;have e1:runF k0 (l.length / 64) (bf (padT l)) h=runF k0 (l.length / 64) (bf l) h:=runF_congr _ (fun k hk=>by
  unfold padT;rw [List.append_assoc];exact bf_append_left (by omega)) h
 rw [e1];refine runF_congr _ (fun k hk=>?_) _
 rw [<- bf_drop,padT_drop,hz,bf_append_left (by rw [lastT_length];exact hk)]
theorem sumF_padT (l:List UInt8):keyF (runF k0 ((padT l).length / 64) (bf (padT l)) h0)=sumF l:=by
 rw [padT_length,Nat.mul_div_cancel_left _ (by decide),run_padT];rfl
abbrev strV (l:List UInt8):Value:=.string ⟨l.toArray⟩
theorem byte_ext (Z:ByteArray):Z=⟨Z.data.toList.toArray⟩:=by cases Z;simp
theorem str_list (l:List UInt8):(⟨l.toArray⟩:ByteArray).toList=l:=by rw [ByteArray.toList_eq]
theorem run_at (l:List UInt8) (i:Nat) (hi:i < l.length) (W:World):(Instr.index 9 (.string ⟨l.toArray⟩) (.int .i64 (i:Int))).run prog W=.ok (.int .u8 (l[i].toNat:Int)) W:=by
 have hsz:=str_len3 l;have hi2:(0:Int)<=(i:Int)/\(i:Int) < ((⟨l.toArray⟩:ByteArray).size:Int):=by rw [hsz];omega
 rw [run_index_string W 9 _ .i64 i underlying9,dif_pos hi2];rfl
theorem str_part (l:List UInt8) (a b:Nat):(ByteArray.extract ⟨l.toArray⟩ a b)=⟨((l.drop a).take (b - a)).toArray⟩:=by
 rw [byte_ext (ByteArray.extract _ _ _),Lib.extract_data]
theorem str_to (l:List UInt8) (b:Nat):(ByteArray.extract ⟨l.toArray⟩ 0 b)=⟨(l.take b).toArray⟩:=by
 rw [str_part];simp
theorem str_from (l:List UInt8) (a:Nat):(ByteArray.extract ⟨l.toArray⟩ a (⟨l.toArray⟩:ByteArray).size)=⟨(l.drop a).toArray⟩:=by
 rw [str_part,str_len3,List.take_of_length_le (by rw [List.length_drop];exact Nat.le_refl _)]
theorem bool_ret {a b:Bool} (h:a=b):Ending.returned (.bool a)=Ending.returned (.bool b):=by rw [h]
def strs (l:List (List UInt8)):List Value:=l.map strV
@[simp] theorem strs_length (l:List (List UInt8)):(strs l).length=l.length:=by simp [strs]
theorem strs_append (a b:List (List UInt8)):strs (a++b)=strs a++strs b:=by simp [strs]
theorem strs_one (l:List (List UInt8)):∀ u ∈ strs l,u.oneCell'=true:=by
 intro u hu;obtain ⟨_,_,rfl⟩:=List.mem_map.1 hu;rfl
def dig (c:UInt8):Bool:=decide (48<=c.toNat) && decide (c.toNat<=57)
def digitsB (l:List UInt8):Bool:=l.all dig && !l.isEmpty
def plainB (l:List UInt8):Bool:=decide (l.length=1) || decide (l.head? ≠ some 48)
def decV (l:List UInt8):Nat:=l.foldl (fun n c=>10*n+(c.toNat - 48)) 0
def numB (l:List UInt8):Bool:=digitsB l && decide (l.length<=9) && plainB l
def signB (c:UInt8):Bool:=dig c || (decide (97<=c.toNat) && decide (c.toNat<=122)) || (decide (65<=c.toNat) && decide (c.toNat<=90)) || decide (c.toNat=45)
def markB (l:List UInt8):Bool:=!l.isEmpty && decide (l.length<=16) && (!digitsB l || plainB l) && l.all signB
theorem all_take_succ {p:UInt8->Bool} {l:List UInt8} {k:Nat} (hk:k < l.length) (h:∀ i (hi:i < l.length),i < k->p l[i]=true) (h2:p l[k]=true):∀ i (hi:i < l.length),i < k+1->p l[i]=true:=fun i hi hik=>by
 rcases Nat.lt_or_ge i k with h3 | h3
 ·exact h i hi h3
 ·obtain rfl:i=k:=by omega
  exact h2
theorem all_of {p:UInt8->Bool} {l:List UInt8} {k:Nat} (hk:l.length<=k) (h:∀ i (hi:i < l.length),i < k->p l[i]=true):l.all p=true:=by
 rw [List.all_eq_true];intro c hc;obtain ⟨i,hi,rfl⟩:=List.getElem_of_mem hc;exact h i hi (by omega)
theorem not_all {p:UInt8->Bool} {l:List UInt8} {k:Nat} (hk:k < l.length) (h:p l[k]=false):l.all p=false:=by
 rw [<- Bool.not_eq_true,List.all_eq_true];intro hh;have:=hh _ (List.getElem_mem hk);rw [h] at this;cases this
def splitC (c:UInt8):List UInt8->List (List UInt8)
 | []=>[[]]
 | d :: l=>if d=c then [] :: splitC c l else match splitC c l with
  | []=>[[d]]
  | p :: r=>(d :: p) :: r
theorem splitC_ne (c:UInt8) (l:List UInt8):splitC c l ≠ []:=by
 cases l with
 | nil=>simp [splitC]
 | cons d l =>
  unfold splitC;split
  ·simp
  ·split <;> simp
theorem splitC_none {c:UInt8}:∀ {l:List UInt8},(∀ d ∈ l,d ≠ c)->splitC c l=[l]
 | [],_=>rfl
 | d :: l,h=>by
  unfold splitC;rw [if_neg (h d (by simp)),splitC_none (fun e he=>h e (by simp [he]))]
theorem splitC_hit {c:UInt8} (b:List UInt8):∀ {a:List UInt8},(∀ d ∈ a,d ≠ c)->splitC c (a++c :: b)=a :: splitC c b
 | [],_=>by
  show splitC c (c :: b)=_
  rw [splitC,if_pos rfl]
 | d :: a,h=>by
  show splitC c (d :: (a++c :: b))=_
  rw [splitC,if_neg (h d (by simp)),splitC_hit b (fun e he=>h e (by simp [he]))]
theorem splitC_length_le (c:UInt8):∀ l:List UInt8,(splitC c l).length<=l.length+1
 | []=>by simp [splitC]
 | d :: l=>by
  have ih:=splitC_length_le c l;unfold splitC;split
  ·simp;omega
  ·split
   ·simp
   ·rename_i h;rw [h] at ih;simp at ih ⊢;omega
theorem splitC_mem_le (c:UInt8):∀ (l:List UInt8),∀ p ∈ splitC c l,p.length<=l.length
 | [],p,hp=>by simp [splitC] at hp;simp [hp]
 | d :: l,p,hp=>by
  have ih:=splitC_mem_le c l;unfold splitC at hp;split at hp
  ·rcases List.mem_cons.1 hp with rfl | hp
   ·simp
   ·have:=ih p hp;simp;omega
  ·split at hp
   ·simp at hp;simp [hp]
   ·rename_i q r h;rw [h] at ih;rcases List.mem_cons.1 hp with rfl | hp
    ·have:=ih q (by simp);simp;omega
    ·have:=ih p (by simp [hp]);simp;omega
theorem first_place {c:UInt8}:∀ {l:List UInt8},c ∈ l->∃ a b,l=a++c :: b/\∀ d ∈ a,d ≠ c
 | d :: l,h=>by
  by_cases hd:d=c
  ·subst hd;exact ⟨[],l,rfl,fun _ h=>by cases h⟩
  ·obtain ⟨a,b,rfl,h2⟩:=first_place (c:=c) (l:=l) (by
    rcases List.mem_cons.1 h with h | h
    ·exact absurd h.symm hd
    ·exact h)
   exact ⟨d :: a,b,rfl,fun e he=>by
    rcases List.mem_cons.1 he with rfl | he
    ·exact hd
    ·exact h2 e he⟩
theorem index_none {c:UInt8}:∀ {l:List UInt8},(∀ d ∈ l,d ≠ c)->Lib.index l [c] = -1
 | [],_=>rfl
 | d :: l,h=>by
  have h1:([c]:List UInt8).isPrefixOf (d :: l)=false:=by simp [List.isPrefixOf,Ne.symm (h d (by simp))]
  rw [Lib.index,h1,index_none (fun e he=>h e (by simp [he]))];rfl
theorem index_hit {c:UInt8} (b:List UInt8):∀ {a:List UInt8},(∀ d ∈ a,d ≠ c)->Lib.index (a++c :: b) [c]=(a.length:Int)
 | [],_=>by
  show Lib.index (c :: b) [c]=0
  rw [Lib.index];simp [List.isPrefixOf]
 | d :: a,h=>by
  have h1:([c]:List UInt8).isPrefixOf (d :: (a++c :: b))=false:=by simp [List.isPrefixOf,Ne.symm (h d (by simp))]
  show Lib.index (d :: (a++c :: b)) [c]=_
  rw [Lib.index,h1,index_hit b (fun e he=>h e (by simp [he]))];rw [if_neg (by simp),if_neg (by simp)];simp
theorem splitK_C (c:UInt8):∀ (n:Nat) (l:List UInt8),l.length=n->∀ k,k=Lib.count l [c]->Lib.splitK [c] 0 k l=splitC c l:=by
 intro n;induction n using Nat.strongRecOn with
 | ind n ih =>
  intro l hl k hk;by_cases hc:c ∈ l
  ·obtain ⟨a,b,rfl,ha⟩:=first_place hc;have hi:=index_hit b ha;have hcount:=Lib.count_hit (s:=a++c :: b) (sub:=[c]) (by simp) hi;have hd:(a++c :: b).drop (a.length + [c].length)=b:=by simp
   rw [hd] at hcount;rw [hk,hcount,Nat.add_comm,Lib.splitK,hi,if_neg (by simp),splitC_hit b ha];have e1:((a.length:Int).toNat+0)=a.length:=by simp
   have e2:((a.length:Int).toNat + [c].length)=a.length + [c].length:=by simp
   rw [e1,e2,hd,List.take_left,ih b.length (by simp at hl;omega) b rfl _ rfl]
  ·have hn:∀ d ∈ l,d ≠ c:=fun d hd e=>hc (e ▸ hd)
   have hi:=index_none hn;rw [hk,Lib.count_miss hi,splitC_none hn];rfl
theorem splitB_strs (c:UInt8) (l:List UInt8):(Lib.splitB ⟨#[c]⟩ 0 (Lib.countB ⟨l.toArray⟩ ⟨#[c]⟩) ⟨l.toArray⟩).map Value.string=strs (splitC c l):=by
 have h:=Lib.splitB_data ⟨#[c]⟩ 0 (Lib.countB ⟨l.toArray⟩ ⟨#[c]⟩) ⟨l.toArray⟩;have h2:(Lib.splitB ⟨#[c]⟩ 0 (Lib.countB ⟨l.toArray⟩ ⟨#[c]⟩) ⟨l.toArray⟩).map (·.data.toList)=splitC c l:=h.trans (by
  show Lib.splitK [c] 0 (Lib.count l.toArray.toList [c]) l.toArray.toList=_
  rw [List.toList_toArray];exact splitK_C c _ l rfl _ rfl)
 rw [<- h2];unfold strs strV;rw [List.map_map];refine List.map_congr_left fun z _=>?_
 show Value.string z=Value.string ⟨z.data.toList.toArray⟩
 rw [<- byte_ext]
def headC (c:UInt8) (l:List UInt8):List UInt8:=l.takeWhile (fun d=>!decide (d=c))
def tailC (c:UInt8) (l:List UInt8):List UInt8:=l.drop ((headC c l).length+1)
theorem headC_hit {c:UInt8} {a:List UInt8} (b:List UInt8) (h:∀ d ∈ a,d ≠ c):headC c (a++c :: b)=a:=by
 unfold headC;rw [List.takeWhile_append_of_pos (by intro d hd;simpa using h d hd)];simp
theorem headC_none {c:UInt8} {l:List UInt8} (h:∀ d ∈ l,d ≠ c):headC c l=l:=by
 unfold headC;have:=List.takeWhile_append_of_pos (p:=fun d=>!decide (d=c)) (l₁:=l) (l₂:=[]) (by intro d hd;simpa using h d hd);simpa using this
theorem tailC_hit {c:UInt8} {a:List UInt8} (b:List UInt8) (h:∀ d ∈ a,d ≠ c):tailC c (a++c :: b)=b:=by
 unfold tailC;rw [headC_hit b h];simp
theorem tailC_none {c:UInt8} {l:List UInt8} (h:∀ d ∈ l,d ≠ c):tailC c l=[]:=by
 unfold tailC;rw [headC_none h];simp
theorem cut_C (c:UInt8) (l:List UInt8):Lib.cut l [c]=(headC c l,tailC c l,decide (c ∈ l)):=by
 by_cases hc:c ∈ l
 ·obtain ⟨a,b,rfl,ha⟩:=first_place hc;unfold Lib.cut;rw [index_hit b ha,if_pos (by omega),headC_hit b ha,tailC_hit b ha,decide_eq_true hc];simp
 ·have hn:∀ d ∈ l,d ≠ c:=fun d hd e=>hc (e ▸ hd)
  unfold Lib.cut;rw [index_none hn,if_neg (by omega),headC_none hn,tailC_none hn,decide_eq_false hc]
theorem own_alloc {w:World} {e:TypeId} {xs:List Value} (hn:xs.length<=maxLen):(w.alloc (.cells xs.toArray e)).ownsRow w.heap.size e 1 (.slice (some ⟨w.heap.size,0,none⟩) xs.length xs.length) xs.length xs :=
 ⟨by simp,.inr ⟨w.heap.size,_,_,rfl,Nat.le_refl _,heap_alloc_new w _,Nat.le_refl _,hn,by simp,by simp⟩⟩
theorem Sl.cellN {X:Nat->Prop} {w:World} {e:TypeId} {b o n c:Nat} {xs:List Value} (h:Sl w X e (.slice (some ⟨b,o,none⟩) n c) n xs) {i:Nat} (hi:i < xs.length):w.cell? ⟨b,o+i,none⟩=some xs[i]:=by
 rw [Sl.cell h hi,List.getElem?_eq_getElem hi]
def SvX (w:World) (X:Nat->Prop) (v:Value) (n:Nat) (xs:List Value):Prop:=(∃ a c,v=.slice a n c)/\((n=0/\xs=[])\/∃ e,Sl w X e v n xs)
theorem SvX.of {w:World} {X:Nat->Prop} {e:TypeId} {v:Value} {n:Nat} {xs:List Value} (h:Sl w X e v n xs):SvX w X v n xs:=⟨h.len,.inr ⟨e,h⟩⟩
theorem SvX.len {w:World} {X:Nat->Prop} {v:Value} {n:Nat} {xs:List Value} (h:SvX w X v n xs):∃ a c,v=.slice a n c:=h.1
theorem SvX.get {w:World} {X:Nat->Prop} {v:Value} {n:Nat} {xs:List Value} (h:SvX w X v n xs) (hn:0 < n):∃ e,Sl w X e v n xs:=by
 rcases h.2 with ⟨h0,_⟩ | h
 ·omega
 ·exact h
theorem SvX.shape {w:World} {X:Nat->Prop} {v:Value} {n:Nat} {xs:List Value} (h:SvX w X v n xs) (hn:0 < n):∃ blk o c,v=.slice (some ⟨blk,o,none⟩) n c/\n<=c/\c<=maxLen/\¬ X blk:=by
 obtain ⟨e,h⟩:=h.get hn;exact h.shape hn
theorem SvX.cellN {w:World} {X:Nat->Prop} {b o n c:Nat} {xs:List Value} (h:SvX w X (.slice (some ⟨b,o,none⟩) n c) n xs) {i:Nat} (hi:i < xs.length):w.cell? ⟨b,o+i,none⟩=some xs[i]:=by
 rcases h.2 with ⟨_,h0⟩ | ⟨e,h⟩
 ·subst h0;cases hi
 ·exact h.cellN hi
theorem SvX.keep {S X:Nat->Prop} {w w':World} {v:Value} {n:Nat} {xs:List Value} (h:SvX w X v n xs) (hm:Mod S w w') (hs:∀ (k:Nat) (_:Array Value) (_:Nat × Nat),S k->¬ X k->False):SvX w' X v n xs :=
 ⟨h.1,h.2.imp id fun ⟨e,h⟩=>⟨e,h.keep hm fun k cur fz a b=>(hs k cur fz a b).elim⟩⟩
theorem SvX.kn {X:Nat → Prop} {w w':World} {v:Value} {n:Nat} {xs:List Value} (h:SvX w X v n xs) (hm:Mod No w w'):SvX w' X v n xs:=h.keep hm (fun _ _ _ f=>f.elim)
theorem SvX.shrink {X Y:Nat->Prop} {w:World} {v:Value} {n:Nat} {xs:List Value} (h:SvX w X v n xs) (hy:∀ k,k < w.heap.size->Y k->X k):SvX w Y v n xs :=
 ⟨h.1,h.2.imp id fun ⟨e,h⟩=>⟨e,h.shrink hy⟩⟩
theorem SvX.avoid {X:Nat->Prop} {w:World} {v:Value} {n:Nat} {xs:List Value} (h:SvX w X v n xs):SvX w (fun q=>X q\/w.heap.size<=q) v n xs :=
 ⟨h.1,h.2.imp id fun ⟨e,h⟩=>⟨e,h.avoid⟩⟩
def findI {α:Type} (p:α->Bool) (l:List α):Int:=match l.findIdx? p with
 | some i=>(i:Int)
 | none=>-1
theorem findI_none {α:Type} {p:α->Bool} {l:List α} (h:∀ i (hi:i < l.length),p l[i]=false):findI p l = -1:=by
 unfold findI;rw [List.findIdx?_eq_none_iff.2 (fun x hx=>by
  obtain ⟨i,hi,rfl⟩:=List.getElem_of_mem hx;exact h i hi)]
theorem findI_hit {α:Type} {p:α->Bool} {l:List α} {k:Nat} (hk:k < l.length) (h:∀ i (hi:i < l.length),i < k->p l[i]=false) (h2:p l[k]=true):findI p l=(k:Int):=by
 unfold findI;rw [List.findIdx?_eq_some_iff_getElem.2 ⟨hk,h2,fun j hj=>by rw [h j (by omega) hj];simp⟩]
theorem findI_any {α:Type} (p:α->Bool) (l:List α):decide (0<=findI p l)=l.any p:=by
 by_cases h:l.any p=true
 ·rw [h];obtain ⟨x,hx,hp⟩:=List.any_eq_true.1 h;unfold findI;cases hf:l.findIdx? p with
  | none=>rw [List.findIdx?_eq_none_iff] at hf;rw [hf x hx] at hp;cases hp
  | some i=>simp
 ·have h2:l.any p=false:=by simpa using h
  rw [h2];unfold findI;rw [List.findIdx?_eq_none_iff.2 (fun x hx=>by
   have:=List.any_eq_false.1 h2 x hx;simpa using this)]
  rfl
theorem indexfunc_strs (g:Nat) (lb:Array Value) (eg:∀ args w,(callFunc g args).run prog w=.ok (.enter g args) w) (p:List UInt8->Bool) (xs:List (List UInt8)) (hx:xs.length<=1000000) (v:Value) (w:World) (hv:Sl w No 9 v xs.length (strs xs))
  (hp:∀ i (hi:i < xs.length),∀ W,Mod No w W->Calls prog g (#[strV xs[i]]++lb) W fun e w'=>e=.returned (.bool (p xs[i]))/\Mod No W w') :
  Calls prog 209 #[v,.func (.func g) #[] lb] w fun e w'=>e=.returned (.int .i64 (findI p xs))/\Mod No w w':=by
 refine calls_hide fun R hR=>?_
 obtain ⟨va,vc,rfl⟩:=hv.len;have HV:=zh hv;have HP:=zh hp;clear hv hp;go_enter func209,ntmps209
 go_wp2_with fail
 go_loopw [8] (fun q wr=>∃ k:Nat,k<=xs.length/\q=.int .i64 k/\Mod No w wr/\∀ i (hi:i < xs.length),i < k->p xs[i]=false) (fun q _=>xs.length - (intOf q).toNat)
 case atStart=>exact ⟨0,by omega,rfl,Mod.refl _ _,fun i _ hi=>absurd hi (by omega)⟩
 case round =>
  obtain ⟨k,hk,rfl,hmod,hno⟩:=hrel;have HM:=zh hmod;have HNO:=zh hno;have hk0:(0:Int)<=(k:Int):=Int.natCast_nonneg _;clear hmod hno;by_cases hlt:k < xs.length
  ·have hk1:(k:Int) < (xs.length:Int):=by omega
   obtain ⟨b,o,c,hvs,_⟩:=HV.out.shape (by omega);cases hvs
   have hcell:=HM.out.cell (HV.out.cellN (i:=k) (by rw [strs_length];exact hlt)) (fun f=>f);rw [show (strs xs)[k]'(by rw [strs_length];exact hlt)=.string ⟨xs[k].toArray⟩ from by simp [strs,strV]] at hcell;have HC:=zh (HP.out k hlt _ HM.out);have HN:=zh (show p xs[k]=false->∀ i (hi:i < xs.length),i < k+1->p xs[i]=false from fun h i hi hik=>by
    rcases Nat.lt_or_ge i k with h3 | h3
    ·exact HNO.out i hi h3
    ·obtain rfl:i=k:=by omega
     exact h)
   have HH:=zh (show p xs[k]=true->findI p xs=(k:Int) from fun h=>findI_hit hlt HNO.out h);clear HNO;go_wp2_with fail
   with_reducible refine HC.out.mono ?_
   rintro e w2 ⟨rfl,hm2⟩;have HM2:=zh (HM.out.trans hm2);clear hm2;generalize p xs[k]=pk at *;rcases pk with _ | _
   ·go_wp2_with fail
    exact ⟨⟨k+1,by omega,rfl,HM2.out,HN.out (by trivial)⟩,by show xs.length - ((k:Int)+1).toNat < xs.length - (k:Int).toNat;omega⟩
   ·have hf:=HH.out (by trivial);go_wp2_with fail
    refine fin hR ⟨?_,HM2.out⟩
    rw [hf];rfl
  ·go_wp2_with fail
   refine fin hR ⟨?_,HM.out⟩
   rw [findI_none (p:=p) (l:=xs) (fun i hi=>HNO.out i hi (by omega))];rfl
theorem containsfunc_strs (g:Nat) (lb:Array Value) (eg:∀ args w,(callFunc g args).run prog w=.ok (.enter g args) w) (p:List UInt8->Bool) (xs:List (List UInt8)) (hx:xs.length<=1000000) (v:Value) (w:World) (hv:Sl w No 9 v xs.length (strs xs))
  (hp:∀ i (hi:i < xs.length),∀ W,Mod No w W->Calls prog g (#[strV xs[i]]++lb) W fun e w'=>e=.returned (.bool (p xs[i]))/\Mod No W w') :
  Calls prog 157 #[v,.func (.func g) #[] lb] w fun e w'=>e=.returned (.bool (xs.any p))/\Mod No w w':=by
 refine calls_hide fun R hR=>?_
 have HC:=zh (indexfunc_strs g lb eg p xs hx v w hv hp);obtain ⟨va,vc,rfl⟩:=hv.len;have HA:=zh (findI_any p xs);clear hv hp;go_enter func157,ntmps157
 go_wp2_with fail
 with_reducible refine HC.out.mono ?_
 rintro e w2 ⟨rfl,hm2⟩;have HM2:=zh hm2;clear hm2 HC;generalize findI p xs=r at *;go_wp2_with fail
 refine fin hR ⟨bool_ret ?_,HM2.out⟩
 exact HA.out
end Go.Proofs.YticfcmdjplmaeaaGreatDoor
