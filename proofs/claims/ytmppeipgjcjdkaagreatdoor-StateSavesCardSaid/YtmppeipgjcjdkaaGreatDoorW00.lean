/-
  Layers 0 to 14: helps of the laws of indexes. No statement is proved here; no condition.
-/
import Derived.Test.YtmppeipgjcjdkaaGreatDoorProg
import GoSem.Claim
import GoSem.ClaimJoined
import GoSem.ClaimMapViews
import Derived.JoinedTies
import Derived.KernelRfl
import Derived.RowKit
import Derived.WalkKit
import Derived.WalkSpells
import Derived.WalkLawsBesides
import Derived.BigQuiet
import Derived.Deep.QuietTactic
import Derived.Deep.RegionHeld3
import Derived.Lib.Hide
namespace Go.Proofs.YtmppeipgjcjdkaaGreatDoor
open Go.RowKit
theorem zh {p:Prop} (h:p):Hid p:=Lib.hid h
theorem yB {α:Type} (l:List α) (i:Nat) (a:α):l.toArray.setIfInBounds i a=(l.set i a).toArray:=List.setIfInBounds_toArray ..
theorem yC {α:Type} (x a:α) (l:List α):(x :: l).set 0 a=a :: l:=List.set_cons_zero ..
theorem yD {α:Type} (x a:α) (l:List α) (n:Nat):(x :: l).set (n+1) a=x :: l.set n a:=List.set_cons_succ ..
theorem calls_hide {P:Program} {f:FuncId} {args:Array Value} {w:World} {R:Ending → World → Prop}
  (h:∀ R':Ending → World → Prop,Hid (∀ e w',R e w' → R' e w') → Calls P f args w R'):Calls P f args w R :=
 h R (Lib.hid fun _ _ h=>h)
theorem fin {R R':Ending → World → Prop} (h:Hid (∀ e w',R e w' → R' e w')) {e:Ending} {w':World} (hr:R e w'):R' e w':=h.out _ _ hr
theorem cell_of {w:World} {b i:Nat} {xs:List Value} {e:TypeId} {fz:Nat × Nat} {v:Value} (h:w.heap[b]? = some (.cells xs.toArray e fz)) (hi:xs[i]? = some v):w.cell? ⟨b,i,none⟩=some v:=by
 simp [World.cell?,h,hi]
theorem cell_ofA {w:World} {b i:Nat} {xs:Array Value} {e:TypeId} {fz:Nat × Nat} {v:Value} (h:w.heap[b]? = some (.cells xs e fz)) (hi:xs[i]? = some v):w.cell? ⟨b,i,none⟩=some v:=by
 simp [World.cell?,h,hi]
theorem frozen_of {w:World} {b:Nat} {xs:Array Value} {e:TypeId} (i:Nat) (h:w.heap[b]? = some (.cells xs e (0,0))):w.frozen? ⟨b,i,none⟩=false:=by
 simp [World.frozen?,h]
theorem lt_of_heap {w:World} {b:Nat} {o:Obj} (h:w.heap[b]? = some o):b < w.heap.size:=by
 rcases Nat.lt_or_ge b w.heap.size with h' | h'
 ·exact h'
 ·simp [Array.getElem?_eq_none h'] at h
theorem heap_setCell {w:World} {b i:Nat} {xs:Array Value} {e:TypeId} {fz:Nat × Nat} (h:w.heap[b]? = some (.cells xs e fz)) (v:Value) :
  (w.setCell ⟨b,i,none⟩ v).heap[b]? = some (.cells (xs.setIfInBounds i v) e fz):=by
 simp [World.setCell,Array.getElem?_modify,h]
theorem heap_setCell_ne {w:World} {a:Addr} {k:Nat} (v:Value) (h:k ≠ a.block):(w.setCell a v).heap[k]? = w.heap[k]?:=Below.heap_setCell w a v k h
theorem heap_alloc_new (w:World) (o:Obj):(w.alloc o).heap[w.heap.size]? = some o:=by
 show (w.heap.push o)[w.heap.size]? = _
 simp
theorem heap_alloc_old {w:World} {k:Nat} {x:Obj} (o:Obj) (h:w.heap[k]? = some x):(w.alloc o).heap[k]? = some x:=by
 rw [Below.heap_alloc w o k (lt_of_heap h)];exact h
theorem heap_at_new (w:World) (o:Obj) {n:Nat} (hn:n=w.heap.size):(w.alloc o).heap[n]? = some o:=by subst hn;exact heap_alloc_new w o
theorem own_shape {w:World} {base:Nat} {e:TypeId} {size:Nat} {v:Value} {n:Nat} {xs:List Value} (h:w.ownsRow base e size v n xs) (hn:0 < n):∃ g cap,v=.slice (some ⟨g,0,none⟩) n cap ∧ base ≤ g:=by
 obtain ⟨_,⟨_,h0⟩ | ⟨g,cap,cur,hv,hg,_⟩⟩:=h
 ·omega
 ·exact ⟨g,cap,hv,hg⟩
theorem own_len {w:World} {base:Nat} {e:TypeId} {size:Nat} {v:Value} {n:Nat} {xs:List Value} (h:w.ownsRow base e size v n xs):∃ a c,v=.slice a n c:=by
 obtain ⟨_,⟨hv,h0⟩ | ⟨g,cap,cur,hv,hg,_⟩⟩:=h
 ·exact ⟨none,0,by rw [hv,h0]⟩
 ·exact ⟨_,_,hv⟩
structure Mod (S:Nat → Prop) (w w':World):Prop where
 os:w'.os=w.os
 tape:w'.tape=w.tape
 output:w'.output=w.output
 size:w.heap.size ≤ w'.heap.size
 block:∀ k,k < w.heap.size → ¬ S k → w'.heap[k]? = w.heap[k]?
def No:Nat → Prop:=fun _=>False
theorem Mod.refl (S:Nat → Prop) (w:World):Mod S w w:=⟨rfl,rfl,rfl,Nat.le_refl _,fun _ _ _=>rfl⟩
theorem Mod.weaken {S T:Nat → Prop} {w w':World} (h:Mod S w w') (hs:∀ k,k < w.heap.size → S k → T k):Mod T w w' :=
 ⟨h.os,h.tape,h.output,h.size,fun k hk hn=>h.block k hk fun s=>hn (hs k hk s)⟩
theorem Mod.trans {S:Nat → Prop} {a b c:World} (h:Mod S a b) (k:Mod S b c):Mod S a c :=
 ⟨k.os.trans h.os,k.tape.trans h.tape,k.output.trans h.output,Nat.le_trans h.size k.size,
  fun i hi hn=>(k.block i (Nat.lt_of_lt_of_le hi h.size) hn).trans (h.block i hi hn)⟩
theorem Mod.then {S T:Nat → Prop} {a b c:World} (h:Mod S a b) (k:Mod T b c) (ht:∀ i,i < a.heap.size → T i → S i):Mod S a c :=
 ⟨k.os.trans h.os,k.tape.trans h.tape,k.output.trans h.output,Nat.le_trans h.size k.size,
  fun i hi hn=>(k.block i (Nat.lt_of_lt_of_le hi h.size) fun t=>hn (ht i hi t)).trans (h.block i hi hn)⟩
theorem Mod.alloc {S:Nat → Prop} {a w:World} (h:Mod S a w) (o:Obj):Mod S a (w.alloc o) :=
 h.then (T:=No) ⟨rfl,rfl,rfl,by simp,fun k hk _=>Below.heap_alloc _ _ _ hk⟩ (fun _ _ f=>f.elim)
theorem Mod.setCell {S:Nat → Prop} {a w:World} (h:Mod S a w) {p:Addr} (hp:p.block < a.heap.size → S p.block) (u:Value):Mod S a (w.setCell p u) :=
 h.then (T:=fun k=>k=p.block) ⟨rfl,rfl,rfl,by simp [World.setCell],fun k _ hn=>Below.heap_setCell _ _ _ _ hn⟩ (fun i hi e=>by subst e;exact hp hi)
theorem Mod.drew {S:Nat → Prop} {a w:World} (h:Mod S a w):Mod S a w.drew:=⟨h.os,h.tape,h.output,h.size,h.block⟩
theorem Mod.drewN {S:Nat → Prop} {a w:World} (h:Mod S a w) (n:Nat):Mod S a (w.drewN n):=⟨h.os,h.tape,h.output,h.size,h.block⟩
theorem Mod.of_below {S:Nat → Prop} {w w':World} (h:Below w.heap.size w w'):Mod S w w':=⟨h.os,h.tape,h.output,h.size,fun k hk _=>h.block k hk⟩
theorem Mod.below {w w':World} (h:Mod No w w'):Below w.heap.size w w':=⟨h.os,h.tape,h.output,h.size,fun k hk=>h.block k hk (fun f=>f)⟩
theorem Mod.of_grown {S:Nat → Prop} {w w':World} {row:Option Nat} (h:w.grownBy w' row) (hr:∀ k,row=some k → k < w.heap.size → S k):Mod S w w' :=
 ⟨h.os,h.tape,h.output,h.size,fun k hk hn=>h.block k hk fun e=>hn (hr k e.symm hk)⟩
theorem Mod.keep {S:Nat → Prop} {w w':World} (h:Mod S w w') {k:Nat} {o:Obj} (hk:w.heap[k]? = some o) (hn:¬ S k):w'.heap[k]? = some o:=by
 rw [h.block k (lt_of_heap hk) hn];exact hk
theorem lt_of_cell {w:World} {a:Addr} {v:Value} (h:w.cell? a=some v):a.block < w.heap.size:=World.block_lt_of_cell? w _ h
theorem Mod.cell {S:Nat → Prop} {w w':World} (h:Mod S w w') {a:Addr} {v:Value} (hc:w.cell? a=some v) (hn:¬ S a.block):w'.cell? a=some v:=by
 rw [World.cell?_of_block (w:=w) (h.block a.block (lt_of_cell hc) hn)];exact hc
def Sl (w:World) (X:Nat → Prop) (e:TypeId) (v:Value) (n:Nat) (xs:List Value):Prop :=
 (v=.slice none 0 0 ∧ n=0 ∧ xs=[]) ∨
 ∃ blk o c cur fz,v=.slice (some ⟨blk,o,none⟩) n c ∧ n ≤ c ∧ c ≤ maxLen ∧ ¬ X blk ∧ w.heap[blk]? = some (.cells cur e fz) ∧ o+xs.length ≤ cur.size ∧
  ∀ i,i < xs.length → cur[o+i]? = xs[i]?
theorem Sl.keep {S X:Nat → Prop} {w w':World} {e:TypeId} {v:Value} {n:Nat} {xs:List Value} (h:Sl w X e v n xs) (hm:Mod S w w')
  (hs:∀ k cur fz,S k → ¬ X k → w.heap[k]? ≠ some (.cells cur e fz)):Sl w' X e v n xs:=by
 rcases h with h | ⟨blk,o,c,cur,fz,hv,hn,hc,hx,hh,hl,hr⟩
 ·exact .inl h
 ·exact .inr ⟨blk,o,c,cur,fz,hv,hn,hc,hx,hm.keep hh (fun s=>hs blk cur fz s hx hh),hl,hr⟩
theorem Sl.kn {X:Nat → Prop} {w w':World} {e:TypeId} {v:Value} {n:Nat} {xs:List Value} (h:Sl w X e v n xs) (hm:Mod No w w'):Sl w' X e v n xs:=h.keep hm (fun _ _ _ f=>f.elim)
theorem Sl.shrink {X Y:Nat → Prop} {w:World} {e:TypeId} {v:Value} {n:Nat} {xs:List Value} (h:Sl w X e v n xs) (hy:∀ k,k < w.heap.size → Y k → X k):Sl w Y e v n xs:=by
 rcases h with h | ⟨blk,o,c,cur,fz,hv,hn,hc,hx,hh,hl,hr⟩
 ·exact .inl h
 ·exact .inr ⟨blk,o,c,cur,fz,hv,hn,hc,fun y=>hx (hy blk (lt_of_heap hh) y),hh,hl,hr⟩
theorem Sl.of_own {X:Nat → Prop} {w:World} {base:Nat} {e:TypeId} {size:Nat} {v:Value} {n:Nat} {xs:List Value} (h:w.ownsRow base e size v n xs) (hx:∀ k,base ≤ k → ¬ X k):Sl w X e v n xs:=by
 obtain ⟨hl,h | ⟨g,cap,cur,hv,hg,hh,hn,hc,hs,ht⟩⟩:=h
 ·obtain ⟨hv,hn⟩:=h
  subst hn
  exact .inl ⟨hv,rfl,List.eq_nil_of_length_eq_zero (by simpa using hl)⟩
 ·have hle:xs.length ≤ cur.size:=by
   rw [← ht];simp
   exact Nat.min_le_right _ _
  refine .inr ⟨g,0,cap,cur,(0,0),hv,hn,hc,hx g hg,hh,by simpa using hle,fun i hi=>?_⟩
  rw [← ht,List.getElem?_take,if_pos (by rw [← hl];exact hi)]
  simp
theorem Sl.cell {X:Nat → Prop} {w:World} {e:TypeId} {n c:Nat} {xs:List Value} {a:Addr} (h:Sl w X e (.slice (some a) n c) n xs) {i:Nat} (hi:i < xs.length) :
  w.cell? ⟨a.block,a.off+i,none⟩=xs[i]?:=by
 rcases h with ⟨h,_⟩ | ⟨blk,o,c',cur,fz,hv,hn,hc,hx,hh,hl,hr⟩
 ·cases h
 ·cases hv
  simp only [World.cell?,hh]
  simpa using hr i hi
theorem Sl.len {X:Nat → Prop} {w:World} {e:TypeId} {v:Value} {n:Nat} {xs:List Value} (h:Sl w X e v n xs):∃ a c,v=.slice a n c:=by
 rcases h with ⟨hv,hn,_⟩ | ⟨blk,o,c,_,_,hv,_⟩
 ·exact ⟨none,0,by rw [hv,hn]⟩
 ·exact ⟨_,_,hv⟩
theorem Sl.shape {X:Nat → Prop} {w:World} {e:TypeId} {v:Value} {n:Nat} {xs:List Value} (h:Sl w X e v n xs) (hn:0 < n):∃ blk o c,v=.slice (some ⟨blk,o,none⟩) n c ∧ n ≤ c ∧ c ≤ maxLen ∧ ¬ X blk:=by
 rcases h with ⟨_,h0,_⟩ | ⟨blk,o,c,_,_,hv,h1,h2,h3,_⟩
 ·omega
 ·exact ⟨blk,o,c,hv,h1,h2,h3⟩
theorem Sl.avoid {X:Nat → Prop} {w:World} {e:TypeId} {v:Value} {n:Nat} {xs:List Value} (h:Sl w X e v n xs):Sl w (fun q=>X q ∨ w.heap.size ≤ q) e v n xs:=by
 rcases h with h | ⟨blk,o,c,cur,fz,hv,hn,hc,hx,hh,hl,hr⟩
 ·exact .inl h
 ·exact .inr ⟨blk,o,c,cur,fz,hv,hn,hc,fun h=>h.elim hx (fun h=>by have:=lt_of_heap hh;omega),hh,hl,hr⟩
def bv (l:List UInt8):List Value:=l.map fun c=>.int .u8 c.toNat
@[simp] theorem bv_length (l:List UInt8):(bv l).length=l.length:=by simp [bv]
theorem bv_get (l:List UInt8) (i:Nat) (h:i < l.length):(bv l)[i]? = some (.int .u8 l[i].toNat):=by simp [bv,h]
theorem bv_one (l:List UInt8):∀ u ∈ bv l,u.oneCell'=true:=by
 intro u hu
 obtain ⟨_,_,rfl⟩:=List.mem_map.1 hu
 rfl
theorem grown_refl (w:World) (row:Option Nat):w.grownBy w row:=⟨rfl,rfl,rfl,Nat.le_refl _,fun _ _ _=>rfl⟩
theorem app_sl {P:Program} (w:World) {ops:Array Oper} {rest:List Oper} {o:Oper} {a:Act} {Q:Exit → Act → World → Prop} (hgd:o.guard=none) (s x:Operand) (t:TypeId)
  (ho:o.op=.call { callee:=.builtin .append,args:=#[s,x],argTypes:=#[t,t] })
  (base:Nat) (e:TypeId) (i:TypeInfo) (z:Value) (size bytes:Nat) (ht:P.underlying t=some (.slice e)) (hi:P.info? e=some i) (hz:i.zero=some z)
  (hsize:i.size=size) (hby:i.bytes=bytes) (hzs:z.cells.size=size) (hsz:0 < size)
  (v:Value) (n:Nat) (xs:List Value) (hs:a.eval s=v) (hown:w.ownsRow base e size v n xs)
  (X:Nat → Prop) (e':TypeId) (xv:Value) (m:Nat) (news:List Value) (hx:a.eval x=xv) (hsl:Sl w X e' xv m news) (hl:news.length=m*size) (h1:∀ u ∈ news,u.oneCell'=true)
  (h63:n+m ≤ maxLen) (hbytes:(n+m)*bytes ≤ 140737488355328) (hbase:base ≤ w.heap.size)
  (h:∀ v' w',w'.ownsRow base e size v' (n+m) (xs++news) → w.grownBy w' v.ownBlock → (v'=.slice none 0 0 ↔ v=.slice none 0 0 ∧ m=0) → wpList P ops Q rest (a.put o.dst v') w'):wpList P ops Q (o :: rest) a w:=by
 rcases hsl with ⟨rfl,rfl,rfl⟩ | ⟨blk,of,c,cur,fz,rfl,hn,hc,hX,hh,hle,hr⟩
 ·refine wpList_plain hgd fun K hK'=>?_
  have hrun:=run_append_owned_none (P:=P) w base t o.type e i size ht hi v n xs hown
  unfold Oper.wp
  simp only [execOp,ho,resolve,invoke,builtin,Sem.run_bind,Sem.run_pure,Result.andThen_ok,List.map_toArray,List.map_cons,List.map_nil,hs,hx,hrun]
  exact hK' _ _ (h v w (by simpa using hown) (grown_refl _ _) (by simp))
 ·refine wpList_append_own w hgd s x t ho base e i z size bytes ht hi hz hsize hby hzs hsz v n xs hs hown _ m c news hx hl (fun j u hu=>?_) h1 h63 hbytes hbase h
  have hj:j < news.length:=(List.getElem?_eq_some_iff.1 hu).1
  simp only [World.cell?,Addr.add_lit,hh]
  simpa [hu] using hr j hj
theorem wp_app_sl {P:Program} (w:World) {o:Oper} {a:Act} {K:Act → World → Prop} {Q:Exit → Act → World → Prop} (s x:Operand) (t:TypeId)
  (ho:o.op=.call { callee:=.builtin .append,args:=#[s,x],argTypes:=#[t,t] })
  (base:Nat) (e:TypeId) (i:TypeInfo) (z:Value) (size bytes:Nat) (ht:P.underlying t=some (.slice e)) (hi:P.info? e=some i) (hz:i.zero=some z)
  (hsize:i.size=size) (hby:i.bytes=bytes) (hzs:z.cells.size=size) (hsz:0 < size)
  (v:Value) (n:Nat) (xs:List Value) (hs:a.eval s=v) (hown:w.ownsRow base e size v n xs)
  (X:Nat → Prop) (e':TypeId) (xv:Value) (m:Nat) (news:List Value) (hx:a.eval x=xv) (hsl:Sl w X e' xv m news) (hl:news.length=m*size) (h1:∀ u ∈ news,u.oneCell'=true)
  (h63:n+m ≤ maxLen) (hbytes:(n+m)*bytes ≤ 140737488355328) (hbase:base ≤ w.heap.size)
  (h:∀ v' w',w'.ownsRow base e size v' (n+m) (xs++news) → w.grownBy w' v.ownBlock → (v'=.slice none 0 0 ↔ v=.slice none 0 0 ∧ m=0) → K (a.put o.dst v') w'):o.wp P a w K Q:=by
 rcases hsl with ⟨rfl,rfl,rfl⟩ | ⟨blk,of,c,cur,fz,rfl,hn,hc,hX,hh,hle,hr⟩
 ·have hrun:=run_append_owned_none (P:=P) w base t o.type e i size ht hi v n xs hown
  unfold Oper.wp
  simp only [execOp,ho,resolve,invoke,builtin,Sem.run_bind,Sem.run_pure,Result.andThen_ok,List.map_toArray,List.map_cons,List.map_nil,hs,hx,hrun]
  exact h v w (by simpa using hown) (grown_refl _ _) (by simp)
 ·refine wp_append_own w s x t ho base e i z size bytes ht hi hz hsize hby hzs hsz v n xs hs hown _ m c news hx hl (fun j u hu=>?_) h1 h63 hbytes hbase h
  have hj:j < news.length:=(List.getElem?_eq_some_iff.1 hu).1
  simp only [World.cell?,Addr.add_lit,hh]
  simpa [hu] using hr j hj
theorem string_of {P:Program} {w:World} {X:Nat → Prop} {src dst e e':TypeId} {v:Value} {l:List UInt8} (h:Sl w X e' v l.length (bv l)) (hs:P.underlying src=some (.slice e)) (he:P.underlying e=some (.int .u8)) (hd:P.underlying dst=some .string) :
  (convert src dst v).run P w=.ok (.string ⟨l.toArray⟩) w:=by
 rcases h with ⟨rfl,hn,hl⟩ | ⟨blk,o,c,cur,fz,rfl,hn,hc,hx,hh,hle,hr⟩
 ·have:l=[]:=List.eq_nil_of_length_eq_zero hn
  subst this
  rw [run_convert_bytes_string w src dst e none 0 0 hs he hd]
  rfl
 ·refine run_convert_bytes_back w src dst e ⟨blk,o,none⟩ c l hs he hd fun j hj=>?_
  simp only [World.cell?,Addr.add_lit,hh]
  have:=hr j (by simpa using hj)
  rw [bv_get l j hj] at this
  simpa using this
end Go.Proofs.YtmppeipgjcjdkaaGreatDoor
namespace Go.Proofs.YtmppeipgjcjdkaaGreatDoor
open _root_.Go.Proofs.Tryz
open Go.RowKit
set_option maxRecDepth 100000 in
set_option maxHeartbeats 400000 in
theorem within_any (x l m:Int) (w:World) :
  Calls prog 25 #[.int .i64 x,.int .i64 l,.int .i64 m] w fun e w'=>e=.returned (.int .i64 (min (max x l) m))/\w=w':=by
 refine calls_hide fun R hR=>?_
 rcases Int.lt_or_le x l with h1 | h1
 ·rcases Int.lt_or_le m l with h2 | h2
  ·have e1:min (max x l) m=m:=by omega
   rw [e1] at hR;clear e1
   go_enter func25,ntmps25
   go_wp2
   exact fin hR ⟨rfl,rfl⟩
  ·have e1:min (max x l) m=l:=by omega
   rw [e1] at hR;clear e1
   go_enter func25,ntmps25
   go_wp2
   exact fin hR ⟨rfl,rfl⟩
 ·rcases Int.lt_or_le m x with h2 | h2
  ·have e1:min (max x l) m=m:=by omega
   rw [e1] at hR;clear e1
   go_enter func25,ntmps25
   go_wp2
   exact fin hR ⟨rfl,rfl⟩
  ·have e1:min (max x l) m=x:=by omega
   rw [e1] at hR;clear e1
   go_enter func25,ntmps25
   go_wp2
   exact fin hR ⟨rfl,rfl⟩
set_option maxRecDepth 100000 in
set_option maxHeartbeats 400000 in
theorem sectors_any (p:Addr) (a:Option Addr) (n c:Nat) (w:World) (h0:w.cell? p=some (.slice a n c)) :
  Calls prog 59 #[.pointer (some p)] w fun e w'=>e=.returned (.int .i64 n)/\w=w':=by
 go_enter func59,ntmps59
 go_wp2
 go_ret
 exact ⟨rfl,rfl⟩
set_option maxRecDepth 100000 in
set_option maxHeartbeats 400000 in
theorem dsize_any (p:Addr) (sb n c:Nat) (a:Option Addr) (m k:Nat) (w:World) (hn:0 < n) (h0:w.cell? p=some (.slice (some ⟨sb,0,none⟩) n c)) (h1:w.cell? ⟨sb,0,none⟩=some (.slice a m k)) :
  Calls prog 60 #[.pointer (some p)] w fun e w'=>e=.returned (.int .i64 m)/\w=w':=by
 go_enter func60,ntmps60
 go_wp2
 go_ret
 exact ⟨rfl,rfl⟩
def atE (dead:Bool) (i:Int) (n:Nat):Int:=if dead then 32 else if i < 0\/(n:Int)<=i then 30 else 0
set_option maxRecDepth 100000 in
set_option maxHeartbeats 400000 in
theorem dat_any (b:Nat) (sa:Option Addr) (n c:Nat) (vm:Value) (cut:Int) (dead:Bool) (i:Int) (w:World)
  (hb:w.heap[b]? = some (.cells #[.slice sa n c,vm,.int .i64 cut,.bool dead] 83 (0,0))) :
  Calls prog 231 #[.pointer (some ⟨b,0,none⟩),.int .i64 i] w fun e w'=>e=.returned (.int .i64 (atE dead i n))/\w=w':=by
 have c0:=cell_of (i:=0) hb rfl
 have c3:=cell_of (i:=3) hb rfl
 clear hb
 refine calls_hide fun R hR=>?_
 cases dead
 ·rcases Int.lt_or_le i 0 with h1 | h1
  ·go_enter func231,ntmps231
   go_wp2
   exact fin hR ⟨by simp [atE,h1],rfl⟩
  ·rcases Int.lt_or_le i n with h2 | h2
   ·go_enter func231,ntmps231
    go_wp2
    exact fin hR ⟨by simp [atE];omega,rfl⟩
   ·go_enter func231,ntmps231
    go_wp2
    exact fin hR ⟨by simp [atE];omega,rfl⟩
 ·go_enter func231,ntmps231
  go_wp2
  exact fin hR ⟨by simp [atE],rfl⟩
set_option maxRecDepth 100000 in
set_option maxHeartbeats 400000 in
theorem powered_any (b:Nat) (vs vm:Value) (cut:Int) (dead:Bool) (w:World) (hcut:-1<=cut) (hcut2:cut<=9223372036854775807)
  (hb:w.heap[b]? = some (.cells #[vs,vm,.int .i64 cut,.bool dead] 83 (0,0))) :
  Calls prog 244 #[.pointer (some ⟨b,0,none⟩)] w fun e w' =>
   e=.returned (.int .i64 (if cut=0 then 32 else 0)) ∧
   w'.heap[b]? = some (.cells #[vs,vm,.int .i64 (if 0 < cut then cut - 1 else cut),.bool (if cut=0 then true else dead)] 83 (0,0))/\Mod (· = b) w w'/\w'.heap.size=w.heap.size:=by
 have c2:=cell_of (i:=2) hb rfl
 have c3:=cell_of (i:=3) hb rfl
 have f2:=frozen_of 2 hb
 have f3:=frozen_of 3 hb
 have HB:=zh hb
 clear hb
 refine calls_hide fun R hR=>?_
 by_cases h0:cut=0
 ·subst h0
  go_enter func244,ntmps244
  go_wp2
  exact fin hR ⟨rfl,by rw [heap_setCell HB.out];rfl,(Mod.refl (· = b) _).setCell (fun _=>rfl) _,by simp⟩
 ·have hb0:(cut == 0)=false:=by simpa using h0
  by_cases h1:0 < cut
  ·go_enter func244,ntmps244
   go_wp2
   exact fin hR ⟨by simp [h0],by rw [heap_setCell HB.out];simp [h0,h1],(Mod.refl (· = b) _).setCell (fun _=>rfl) _,by simp⟩
  ·go_enter func244,ntmps244
   go_wp2
   refine fin hR ⟨by simp [h0],?_,Mod.refl _ _,rfl⟩
   rw [HB.out,if_neg (by omega),if_neg h0]
end Go.Proofs.YtmppeipgjcjdkaaGreatDoor
namespace Go.Proofs.YtmppeipgjcjdkaaGreatDoor
open _root_.Go.Proofs.Tryz
def cnB (n:Nat):List UInt8:=if h:n < 128 then [UInt8.ofNat n] else UInt8.ofNat (n % 128+128) :: cnB (n / 128)
termination_by n
decreasing_by omega
theorem numB_lt {n:Nat} (h:n < 128):cnB n=[UInt8.ofNat n]:=by rw [cnB];simp [h]
theorem numB_ge {n:Nat} (h:128<=n):cnB n=UInt8.ofNat (n % 128+128) :: cnB (n / 128):=by rw [cnB];simp [Nat.not_lt.2 h]
theorem numB_len:∀ (k n:Nat),n < 128 ^ (k+1)->(cnB n).length<=k+1
 | k,n,h=>by
  by_cases hn:n < 128
  ·rw [numB_lt hn];simp
  ·rw [numB_ge (by omega)]
   match k,h with
   | 0,h=>simp at h;omega
   | k+1,h =>
    have:=numB_len k (n / 128) (by rw [Nat.pow_succ] at h;exact Nat.div_lt_of_lt_mul (by rw [Nat.mul_comm];exact h))
    simp only [List.length_cons];omega
theorem numB_pos (n:Nat):0 < (cnB n).length:=by
 by_cases hn:n < 128
 ·rw [numB_lt hn];simp
 ·rw [numB_ge (by omega)];simp
def rdNumG (i acc:Nat):List UInt8->Option (Nat × List UInt8)
 | []=>none
 | x :: l=>if 10<=i then none else if i=9/\1 < x.toNat then none else
   if x.toNat < 128 then (if x.toNat=0/\i ≠ 0 then none else some (acc+x.toNat % 128*2 ^ (7*i),l)) else rdNumG (i+1) (acc+x.toNat % 128*2 ^ (7*i)) l
def rdNum (l:List UInt8):Option (Nat × List UInt8):=rdNumG 0 0 l
theorem rdNumG_num:∀ (k i acc m:Nat) (l:List UInt8),i+k=9->m*2 ^ (7*i) < 18446744073709551616->(i ≠ 0->0 < m)->rdNumG i acc (cnB m++l)=some (acc+m*2 ^ (7*i),l):=by
 intro k
 induction k with
 | zero =>
  intro i acc m l hi hm h0
  have hi9:i=9:=by omega
  subst hi9
  have hm2:m < 2:=by omega
  rw [numB_lt (by omega)]
  have hx:(UInt8.ofNat m).toNat=m:=by simp;omega
  simp only [List.cons_append,List.nil_append,rdNumG,hx]
  rw [if_neg (by omega),if_neg (by omega),if_pos (by omega),if_neg (by have:=h0 (by omega);omega),Nat.mod_eq_of_lt (by omega)]
 | succ k ih =>
  intro i acc m l hi hm h0
  by_cases hs:m < 128
  ·rw [numB_lt hs]
   have hx:(UInt8.ofNat m).toNat=m:=by simp;omega
   simp only [List.cons_append,List.nil_append,rdNumG,hx]
   rw [if_neg (by omega),if_neg (by omega),if_pos hs,if_neg (fun h=>by have:=h0 h.2;omega),Nat.mod_eq_of_lt hs]
  ·rw [numB_ge (by omega)]
   have hx:(UInt8.ofNat (m % 128+128)).toNat=m % 128+128:=by simp;omega
   have hp:2 ^ (7*(i+1))=128*2 ^ (7*i):=by rw [show 7*(i+1)=7*i+7 by omega,Nat.pow_add];omega
   have hd:m / 128*(128*2 ^ (7*i))=m / 128*128*2 ^ (7*i):=by rw [Nat.mul_assoc]
   have hle:m / 128*128*2 ^ (7*i)<=m*2 ^ (7*i):=Nat.mul_le_mul_right _ (by omega)
   simp only [List.cons_append,rdNumG,hx]
   rw [if_neg (by omega),if_neg (by omega),if_neg (by omega),ih (i+1) _ (m / 128) l (by omega) (by rw [hp,hd];omega) (fun _=>by omega)]
   congr 2
   rw [hp,hd,show (m % 128+128) % 128=m % 128 by omega,Nat.add_assoc,<- Nat.add_mul]
   congr 2;omega
theorem rdNum_num (n:Nat) (l:List UInt8) (h:n < 18446744073709551616):rdNum (cnB n++l)=some (n,l):=by
 have:=rdNumG_num 9 0 0 n l rfl (by simpa using h) (fun h=>absurd rfl h)
 simpa [rdNum] using this
def textB (s:List UInt8):List UInt8:=cnB s.length++s
def rdText (l:List UInt8):Option (List UInt8 × List UInt8):=match rdNum l with
 | some (n,r)=>if n<=r.length then some (r.take n,r.drop n) else none
 | none=>none
theorem rdText_text (s l:List UInt8) (h:s.length < 18446744073709551616):rdText (textB s++l)=some (s,l):=by
 unfold rdText textB
 rw [List.append_assoc,rdNum_num _ _ h]
 simp
def boolB (b:Bool):List UInt8:=[if b then 1 else 0]
def rdBool:List UInt8->Option (Bool × List UInt8)
 | []=>none
 | x :: l=>if x.toNat<=1 then some (x.toNat == 1,l) else none
theorem rdBool_bool (b:Bool) (l:List UInt8):rdBool (boolB b++l)=some (b,l):=by
 cases b <;> rfl
end Go.Proofs.YtmppeipgjcjdkaaGreatDoor
namespace Go.Proofs.YtmppeipgjcjdkaaGreatDoor
open _root_.Go.Proofs.Tryz
open Go.RowKit
theorem own_heapM {w:World} {base:Nat} {e:TypeId} {size:Nat} {v:Value} {n:Nat} {xs:List Value} (h:w.ownsRow base e size v n xs) {k:Nat} (hk:v.ownBlock=some k):∃ cur,w.heap[k]? = some (.cells cur e (0,0)):=by
 obtain ⟨_,⟨hv,_⟩ | ⟨g,cap,cur,hv,hg,hh,r⟩⟩:=h
 ·rw [hv] at hk;cases hk
 ·rw [hv] at hk;cases hk;exact ⟨_,hh⟩
theorem Sl.zero {X:Nat->Prop} {w:World} {e:TypeId} {b o n c:Nat} {xs:List Value} (h:Sl w X e (.slice (some ⟨b,o,none⟩) n c) n xs):Sl w X e (.slice (some ⟨b,o,none⟩) 0 0) 0 []:=by
 rcases h with ⟨h,_⟩ | ⟨blk,o',c0,cur,fz,hv,hn,hc,hX,hh,hl,hr⟩
 ·cases h
 ·cases hv
  exact .inr ⟨b,o,0,cur,fz,rfl,Nat.le_refl _,Nat.zero_le _,hX,hh,by simp only [List.length_nil];omega,fun i hi=>by cases hi⟩
theorem own_keepM {S:Nat->Prop} {w w':World} {base:Nat} {e:TypeId} {size:Nat} {v:Value} {n:Nat} {xs:List Value} (h:w.ownsRow base e size v n xs) (hm:Mod S w w') (hs:∀ k,v.ownBlock=some k->¬ S k):w'.ownsRow base e size v n xs:=by
 obtain ⟨hl,h | ⟨g,cap,cur,hv,hg,hh,r⟩⟩:=h
 ·exact ⟨hl,.inl h⟩
 ·exact ⟨hl,.inr ⟨g,cap,cur,hv,hg,hm.keep hh (hs g (by rw [hv];rfl)),r⟩⟩
theorem Sl.part {X:Nat->Prop} {w:World} {e:TypeId} {b o n c:Nat} {xs:List Value} (h:Sl w X e (.slice (some ⟨b,o,none⟩) n c) n xs) (hx:xs.length=n) (i m c':Nat) (hm:i+m<=n) (h1:m<=c') (h2:c'<=maxLen) :
  Sl w X e (.slice (some ⟨b,o+i,none⟩) m c') m ((xs.drop i).take m):=by
 rcases h with ⟨h,_⟩ | ⟨blk,o',c0,cur,fz,hv,hn,hc,hX,hh,hl,hr⟩
 ·cases h
 ·cases hv
  refine .inr ⟨b,o+i,c',cur,fz,rfl,h1,h2,hX,hh,?_,fun j hj=>?_⟩
  ·rw [List.length_take,List.length_drop];omega
  ·rw [List.length_take,List.length_drop] at hj
   rw [List.getElem?_take,if_pos (by omega),List.getElem?_drop,<- hr (i+j) (by omega)]
   congr 1;omega
theorem Sl.takeN {X:Nat->Prop} {w:World} {e:TypeId} {b o n c m:Nat} {xs:List Value} (h:Sl w X e (.slice (some ⟨b,o,none⟩) n c) n xs) (hx:xs.length=n) (hm:m<=n):Sl w X e (.slice (some ⟨b,o,none⟩) m c) m (xs.take m):=by
 rcases h with ⟨h,_⟩ | ⟨blk,o',c',cur,fz,hv,hn,hc,hX,hh,hl,hr⟩
 ·cases h
 ·cases hv
  refine .inr ⟨b,o,c,cur,fz,rfl,by omega,hc,hX,hh,?_,fun i hi=>?_⟩
  ·rw [List.length_take];omega
  ·rw [List.length_take] at hi
   rw [hr i (by omega),List.getElem?_take,if_pos (by omega)]
theorem Sl.dropN {X:Nat->Prop} {w:World} {e:TypeId} {b o n c m:Nat} {xs:List Value} (h:Sl w X e (.slice (some ⟨b,o,none⟩) n c) n xs) (hx:xs.length=n) (hm:m<=n) :
  Sl w X e (.slice (if c=m then some ⟨b,o,none⟩ else some ⟨b,o+m,none⟩) (n - m) (c - m)) (n - m) (xs.drop m):=by
 rcases h with ⟨h,_⟩ | ⟨blk,o',c',cur,fz,hv,hn,hc,hX,hh,hl,hr⟩
 ·cases h
 ·cases hv
  refine .inr ⟨b,if c=m then o else o+m,c - m,cur,fz,by split <;> rfl,by omega,by omega,hX,hh,?_,fun i hi=>?_⟩
  ·rw [List.length_drop];split <;> omega
  ·rw [List.length_drop] at hi
   rw [if_neg (by omega),List.getElem?_drop,<- hr (m+i) (by omega),Nat.add_assoc]
theorem bv_take (l:List UInt8) (n:Nat):bv (l.take n)=(bv l).take n:=by simp [bv,List.map_take]
theorem bv_drop (l:List UInt8) (n:Nat):bv (l.drop n)=(bv l).drop n:=by simp [bv,List.map_drop]
theorem bv_append (a b:List UInt8):bv (a++b)=bv a++bv b:=by simp [bv]
end Go.Proofs.YtmppeipgjcjdkaaGreatDoor
namespace Go.Proofs.YtmppeipgjcjdkaaGreatDoor
open _root_.Go.Proofs.Tryz
def getN (l:List UInt8):Nat:=l.foldl (fun n x=>(n*256+x.toNat) % 18446744073709551616) 0
def be (m n:Nat):List UInt8:=(List.range m).map fun i=>UInt8.ofNat (n / 2 ^ (8*(m - 1 - i)))
theorem be_len (m n:Nat):(be m n).length=m:=by simp [be]
theorem be_part (m n:Nat) (hm:m<=8) (hn:n < 2 ^ (8*m)):∀ k,k<=m->((List.range k).map fun i=>UInt8.ofNat (n / 2 ^ (8*(m - 1 - i)))).foldl (fun n x=>(n*256+x.toNat) % 18446744073709551616) 0=n / 2 ^ (8*(m - k)):=by
 intro k
 induction k with
 | zero =>
  intro _
  rw [Nat.sub_zero,Nat.div_eq_of_lt hn];rfl
 | succ k ih =>
  intro hk
  rw [List.range_succ,List.map_append,List.foldl_append,ih (by omega)]
  simp only [List.map_cons,List.map_nil,List.foldl_cons,List.foldl_nil]
  have e:m - k=(m - 1 - k)+1:=by omega
  have e2:m - (k+1)=m - 1 - k:=by omega
  rw [e2,e]
  generalize hD:2 ^ (8*(m - 1 - k))=D
  have hD2:2 ^ (8*(m - 1 - k+1))=D*256:=by rw [<- hD,show 8*(m - 1 - k+1)=8*(m - 1 - k)+8 by omega,Nat.pow_add]
  rw [hD2,<- Nat.div_div_eq_div_mul]
  have h1:(UInt8.ofNat (n / D)).toNat=n / D % 256:=by simp
  rw [h1]
  have h2:n / D / 256*256+n / D % 256=n / D:=by omega
  rw [h2]
  have h3:n / D<=n:=Nat.div_le_self _ _
  have h4:(2:Nat) ^ (8*m)<=2 ^ 64:=Nat.pow_le_pow_right (by omega) (by omega)
  exact Nat.mod_eq_of_lt (by omega)
theorem getN_be (m n:Nat) (hm:m<=8) (hn:n < 2 ^ (8*m)):getN (be m n)=n:=by
 have:=be_part m n hm hn m (Nat.le_refl _)
 rw [Nat.sub_self] at this
 simpa [getN,be] using this
theorem getN_zeros (m:Nat):getN (List.replicate m 0)=0:=by
 unfold getN
 induction m with
 | zero=>rfl
 | succ m ih=>rw [List.replicate_succ,List.foldl_cons];exact ih
def sign:List UInt8:=[72,65,86,69,82,83,65,75]
def recB (r:List UInt8):List UInt8:=be 4 r.length++r
def bodyB (rs:List (List UInt8)):List UInt8:=rs.flatMap recB
def frameB (turn next:Nat) (rs:List (List UInt8)):List UInt8:=sign++(be 8 turn++(be 8 next++(be 8 (bodyB rs).length++bodyB rs)))
theorem frameB_len (turn next:Nat) (rs:List (List UInt8)):(frameB turn next rs).length=32+(bodyB rs).length:=by
 simp [frameB,be_len,sign];omega
def secs (size n:Nat):Nat:=n / size+min (n % size) 1
theorem secs_up {size n:Nat} (hs:0 < size):n<=secs size n*size:=by
 unfold secs
 have h:=Nat.div_add_mod n size
 have h2:=Nat.mod_lt n hs
 rcases Nat.eq_zero_or_pos (n % size) with e | e
 ·rw [e] at h ⊢;simp;rw [Nat.mul_comm];omega
 ·rw [show min (n % size) 1=1 by omega,Nat.add_mul,Nat.mul_comm];omega
theorem secs_pos {size n:Nat} (hn:0 < n):0 < secs size n:=by
 unfold secs
 rcases Nat.eq_zero_or_pos (n % size) with e | e
 ·have h:=Nat.div_add_mod n size
  rw [e] at h
  have:0 < n / size:=by
   rcases Nat.eq_zero_or_pos (n / size) with e2 | e2
   ·rw [e2] at h;simp at h;omega
   ·exact e2
  exact Nat.lt_of_lt_of_le this (Nat.le_add_right _ _)
 ·rw [show min (n % size) 1=1 by omega]
  exact Nat.succ_pos _
theorem secs_le {size n k:Nat} (hs:0 < size) (h:n<=k*size):secs size n<=k:=by
 unfold secs
 have h1:=Nat.div_add_mod n size
 have h2:=Nat.mod_lt n hs
 rcases Nat.eq_zero_or_pos (n % size) with e | e
 ·rw [e]
  have:n / size<=k:=Nat.div_le_of_le_mul (by rw [Nat.mul_comm];exact h)
  omega
 ·have:n / size < k:=Nat.div_lt_of_lt_mul (by
   rcases Nat.lt_or_ge n (k*size) with g | g
   ·rw [Nat.mul_comm];exact g
   ·have:n=k*size:=by omega
    rw [this,Nat.mul_mod_left] at e;omega)
  omega
def parse:Nat->List UInt8->Option (List (List UInt8))
 | _,[]=>some []
 | 0,_=>none
 | f+1,x :: l=>if (x :: l).length < 4 then none else if getN ((x :: l).take 4)<=(x :: l).length - 4 then
   (parse f ((x :: l).drop (4+getN ((x :: l).take 4)))).map ((((x :: l).drop 4).take (getN ((x :: l).take 4))) :: ·) else none
theorem parse_body:∀ (rs:List (List UInt8)),(∀ r ∈ rs,r.length < 4294967296)->∀ f,(bodyB rs).length<=f->parse f (bodyB rs)=some rs
 | [],_,f,_=>by cases f <;> rfl
 | r :: rs,h,f,hf=>by
  have hb:bodyB (r :: rs)=be 4 r.length++(r++bodyB rs):=by simp [bodyB,recB]
  have hg:getN (be 4 r.length)=r.length:=getN_be 4 _ (by omega) (by have:=h r (by simp);omega)
  have hl:(be 4 r.length).length=4:=be_len _ _
  rw [hb] at hf ⊢
  have hlen:(be 4 r.length++(r++bodyB rs)).length=4+(r.length+(bodyB rs).length):=by simp [hl]
  generalize hL:be 4 r.length++(r++bodyB rs)=L at *
  match L,f,hL,hlen with
  | [],_,_,hlen=>simp at hlen;omega
  | x :: l,0,_,hlen=>rw [hlen] at hf;omega
  | x :: l,f+1,hL,hlen =>
   have t4:(x :: l).take 4=be 4 r.length:=by rw [<- hL,List.take_append_of_le_length (by omega),List.take_of_length_le (by omega)]
   have d4:(x :: l).drop 4=r++bodyB rs:=by rw [<- hL,List.drop_append_of_le_length (by omega),List.drop_of_length_le (by omega),List.nil_append]
   have hd:(x :: l).drop (4+r.length)=bodyB rs:=by rw [<- List.drop_drop,d4,List.drop_append_of_le_length (by omega),List.drop_of_length_le (by omega),List.nil_append]
   unfold parse
   rw [t4,hg,hd,if_neg (by omega),if_pos (by omega),parse_body rs (fun r' hr=>h r' (by simp [hr])) f (by omega),d4,List.take_append_of_le_length (by omega),List.take_of_length_le (by omega)]
   rfl
def rdAll (S:Nat->List UInt8) (base size k:Nat):List UInt8:=(List.range k).flatMap fun i=>(S (base+i)).take size
def rd (S:Nat->List UInt8) (h size side at_ next:Nat):Option (Nat × List (List UInt8) × Nat) :=
 if at_ < h then
  if ((S (side*h+at_)).take size).take 8=sign/\getN ((((S (side*h+at_)).take size).drop 16).take 8)=next ∧
    getN (((S (side*h+at_)).drop size).take 8)=getN ((((S (side*h+at_)).take size).drop 8).take 8)/\getN (((S (side*h+at_)).drop size).drop 8)=(next+1) % 18446744073709551616 ∧
    getN ((((S (side*h+at_)).take size).drop 24).take 8)+32<=(h - at_)*size then
   (parse (getN ((((S (side*h+at_)).take size).drop 24).take 8)) (((rdAll S (side*h+at_) size (secs size (32+getN ((((S (side*h+at_)).take size).drop 24).take 8)))).drop 32).take (getN ((((S (side*h+at_)).take size).drop 24).take 8)))).map
    fun rs=>(getN ((((S (side*h+at_)).take size).drop 8).take 8),rs,at_+secs size (32+getN ((((S (side*h+at_)).take size).drop 24).take 8)))
  else none
 else none
def laidAt (size turn next:Nat) (b:List UInt8) (i:Nat):List UInt8 :=
 ((b.drop (i*size)).take size++List.replicate (size - ((b.drop (i*size)).take size).length) 0)++if i=0 then be 8 turn++be 8 (next+1) else List.replicate 16 0
theorem laidAt_take (size turn next:Nat) (b:List UInt8) (i:Nat):(laidAt size turn next b i).take size=(b.drop (i*size)).take size++List.replicate (size - ((b.drop (i*size)).take size).length) 0:=by
 unfold laidAt
 have hl:((b.drop (i*size)).take size++List.replicate (size - ((b.drop (i*size)).take size).length) (0:UInt8)).length=size:=by
  have:=List.length_take_le size (b.drop (i*size))
  simp only [List.length_append,List.length_replicate];omega
 rw [List.take_append_of_le_length (by omega),List.take_of_length_le (by omega)]
theorem laidAt_drop (size turn next:Nat) (b:List UInt8) (i:Nat):(laidAt size turn next b i).drop size=if i=0 then be 8 turn++be 8 (next+1) else List.replicate 16 0:=by
 unfold laidAt
 have hl:((b.drop (i*size)).take size++List.replicate (size - ((b.drop (i*size)).take size).length) (0:UInt8)).length=size:=by
  have:=List.length_take_le size (b.drop (i*size))
  simp only [List.length_append,List.length_replicate];omega
 rw [List.drop_append_of_le_length (by omega),List.drop_of_length_le (by omega),List.nil_append]
theorem laidAt_len (size turn next:Nat) (b:List UInt8) (i:Nat):(laidAt size turn next b i).length=size+16:=by
 have h1:=List.length_take_le size (b.drop (i*size))
 unfold laidAt
 simp only [List.length_append,List.length_replicate]
 split
 ·simp only [List.length_append,be_len];omega
 ·simp only [List.length_replicate];omega
theorem rdAll_laid {S:Nat->List UInt8} {base size turn next:Nat} {b:List UInt8}:∀ k,(∀ i,i < k->S (base+i)=laidAt size turn next b i)->rdAll S base size k=b.take (k*size)++List.replicate (k*size - b.length) 0
 | 0,_=>by simp [rdAll]
 | k+1,h=>by
  have ih:=rdAll_laid k fun i hi=>h i (by omega)
  unfold rdAll at ih ⊢
  rw [List.range_succ,List.flatMap_append,ih]
  simp only [List.flatMap_cons,List.flatMap_nil,List.append_nil]
  rw [h k (by omega),laidAt_take]
  have e:(k+1)*size=k*size+size:=Nat.succ_mul _ _
  rw [e]
  generalize k*size=m
  have hl:((b.drop m).take size).length=min size (b.length - m):=by simp
  rw [hl]
  rcases Nat.le_total b.length m with g | g
  ·have e1:b.drop m=[]:=List.drop_of_length_le g
   rw [e1,List.take_nil,List.nil_append,List.take_of_length_le g,List.take_of_length_le (show b.length<=m+size by omega),List.append_assoc,List.replicate_append_replicate]
   congr 2;omega
  ·rw [show m - b.length=0 by omega,List.replicate_zero,List.append_nil,List.take_add,List.append_assoc]
   congr 3;omega
theorem rd_laid {S:Nat->List UInt8} {h size side at_ turn next:Nat} {rs:List (List UInt8)} (hsz:32<=size) (ht:turn < 18446744073709551616) (hn:next+1 < 18446744073709551616)
  (hr:∀ r ∈ rs,r.length < 4294967296) (hb:(bodyB rs).length < 18446744073709551616) (hk:at_+secs size (32+(bodyB rs).length)<=h)
  (hS:∀ i,i < secs size (32+(bodyB rs).length)->S (side*h+at_+i)=laidAt size turn next (frameB turn next rs) i) :
  rd S h size side at_ next=some (turn,rs,at_+secs size (32+(bodyB rs).length)):=by
 have hpos:0 < secs size (32+(bodyB rs).length):=secs_pos (by omega)
 have hup:=secs_up (size:=size) (n:=32+(bodyB rs).length) (by omega)
 have h0:=hS 0 hpos
 rw [Nat.add_zero] at h0
 have hfl:=frameB_len turn next rs
 have hall:=rdAll_laid (base:=side*h+at_) _ hS
 rw [List.take_of_length_le (by rw [hfl];exact hup)] at hall
 have hx:(S (side*h+at_)).take size=(frameB turn next rs).take size++List.replicate (size - ((frameB turn next rs).take size).length) 0:=by
  rw [h0,laidAt_take];simp
 have hd:(S (side*h+at_)).drop size=be 8 turn++be 8 (next+1):=by rw [h0,laidAt_drop];rfl
 have hfs:((frameB turn next rs).take size).length=min size (32+(bodyB rs).length):=by rw [List.length_take,hfl]
 have field:∀ o,o+8<=32->(((S (side*h+at_)).take size).drop o).take 8=((frameB turn next rs).drop o).take 8:=fun o ho=>by
  rw [hx,List.drop_append_of_le_length (by omega),List.take_append_of_le_length (by rw [List.length_drop];omega),List.drop_take,List.take_take]
  congr 1;omega
 have e8:∀ n,(be 8 n).length=8:=fun n=>be_len 8 n
 have d8:(frameB turn next rs).drop 8=be 8 turn++(be 8 next++(be 8 (bodyB rs).length++bodyB rs)):=List.drop_left' rfl
 have d16:(frameB turn next rs).drop 16=be 8 next++(be 8 (bodyB rs).length++bodyB rs):=by
  rw [show 16=8+8 from rfl,<- List.drop_drop,d8];exact List.drop_left' (e8 _)
 have d24:(frameB turn next rs).drop 24=be 8 (bodyB rs).length++bodyB rs:=by
  rw [show 24=16+8 from rfl,<- List.drop_drop,d16];exact List.drop_left' (e8 _)
 have d32:(frameB turn next rs).drop 32=bodyB rs:=by
  rw [show 32=24+8 from rfl,<- List.drop_drop,d24];exact List.drop_left' (e8 _)
 have f0:((S (side*h+at_)).take size).take 8=sign:=by
  have:=field 0 (by omega)
  rw [List.drop_zero,List.drop_zero] at this
  rw [this]
  exact List.take_left' rfl
 have f8:(((S (side*h+at_)).take size).drop 8).take 8=be 8 turn:=by
  rw [field 8 (by omega),d8];exact List.take_left' (e8 _)
 have f16:(((S (side*h+at_)).take size).drop 16).take 8=be 8 next:=by
  rw [field 16 (by omega),d16];exact List.take_left' (e8 _)
 have f24:(((S (side*h+at_)).take size).drop 24).take 8=be 8 (bodyB rs).length:=by
  rw [field 24 (by omega),d24];exact List.take_left' (e8 _)
 have gt:getN (be 8 turn)=turn:=getN_be 8 _ (by omega) (by omega)
 have gn:getN (be 8 next)=next:=getN_be 8 _ (by omega) (by omega)
 have gn1:getN (be 8 (next+1))=next+1:=getN_be 8 _ (by omega) (by omega)
 have gb:getN (be 8 (bodyB rs).length)=(bodyB rs).length:=getN_be 8 _ (by omega) (by omega)
 have g0:((S (side*h+at_)).drop size).take 8=be 8 turn:=by rw [hd,List.take_append_of_le_length (by rw [e8];omega),List.take_of_length_le (by rw [e8];omega)]
 have g1:((S (side*h+at_)).drop size).drop 8=be 8 (next+1):=by rw [hd,List.drop_append_of_le_length (by rw [e8];omega),List.drop_of_length_le (by rw [e8];omega),List.nil_append]
 have hbd:((rdAll S (side*h+at_) size (secs size (32+(bodyB rs).length))).drop 32).take (bodyB rs).length=bodyB rs:=by
  rw [hall,List.drop_append_of_le_length (by omega),d32,List.take_append_of_le_length (by omega),List.take_of_length_le (by omega)]
 have hroom:(bodyB rs).length+32<=(h - at_)*size:=by
  have:secs size (32+(bodyB rs).length)*size<=(h - at_)*size:=Nat.mul_le_mul_right _ (by omega)
  omega
 unfold rd
 rw [if_pos (by omega),f0,f8,f16,f24,g0,g1,gt,gn,gn1,gb,hbd,parse_body rs hr _ (Nat.le_refl _),if_pos ⟨rfl,rfl,rfl,by rw [Nat.mod_eq_of_lt hn],hroom⟩]
 rfl
def tlT (S:Nat->List UInt8) (size i:Nat):Nat:=getN (((S i).drop size).take 8)
def tlN (S:Nat->List UInt8) (size i:Nat):Nat:=getN (((S i).drop size).drop 8)
theorem rd_some {S:Nat->List UInt8} {h size side at_ next t beh:Nat} {rs:List (List UInt8)} (hs:0 < size) (e:rd S h size side at_ next=some (t,rs,beh)) :
  at_ < h/\at_ < beh/\beh<=h/\tlT S size (side*h+at_)=t/\tlN S size (side*h+at_)=(next+1) % 18446744073709551616:=by
 unfold rd at e
 split at e
 ·rename_i h1
  split at e
  ·rename_i h2
   obtain ⟨p,_,hq⟩:=Option.map_eq_some_iff.1 e
   simp only [Prod.mk.injEq] at hq
   obtain ⟨q1,_,q3⟩:=hq
   have hp:=secs_pos (size:=size) (n:=32+getN ((((S (side*h+at_)).take size).drop 24).take 8)) (by omega)
   have hl:=secs_le (size:=size) (n:=32+getN ((((S (side*h+at_)).take size).drop 24).take 8)) (k:=h - at_) hs (by have:=h2.2.2.2.2;omega)
   refine ⟨h1,by omega,by omega,?_,?_⟩
   ·unfold tlT;rw [h2.2.2.1,q1]
   ·unfold tlN;exact h2.2.2.2.1
  ·cases e
 ·cases e
theorem rd_congr {S S':Nat->List UInt8} {h size side at_ next t beh:Nat} {rs:List (List UInt8)} (hs:0 < size) (e:rd S h size side at_ next=some (t,rs,beh))
  (ag:∀ j,at_<=j->j < beh->S' (side*h+j)=S (side*h+j)):rd S' h size side at_ next=some (t,rs,beh):=by
 obtain ⟨h1,h2,_⟩:=rd_some hs e
 have h0:=ag at_ (Nat.le_refl _) h2
 rw [<- e]
 unfold rd at e ⊢
 rw [h0]
 rw [if_pos h1] at e
 split at e
 ·rename_i h3
  obtain ⟨p,_,hq⟩:=Option.map_eq_some_iff.1 e
  simp only [Prod.mk.injEq] at hq
  obtain ⟨_,_,q3⟩:=hq
  have hall:rdAll S' (side*h+at_) size (secs size (32+getN ((((S (side*h+at_)).take size).drop 24).take 8)))=rdAll S (side*h+at_) size (secs size (32+getN ((((S (side*h+at_)).take size).drop 24).take 8))):=by
   unfold rdAll
   rw [List.flatMap_def,List.flatMap_def]
   congr 1
   refine List.map_congr_left fun i hi=>?_
   have:=List.mem_range.1 hi
   rw [Nat.add_assoc,ag (at_+i) (by omega) (by omega)]
  rw [hall]
 ·cases e
inductive Chain (S:Nat->List UInt8) (h size side turn:Nat):Nat->Nat->List (List UInt8)->Prop
 | zero:Chain S h size side turn 0 0 []
 | step {at_ next beh:Nat} {all rs:List (List UInt8)}:Chain S h size side turn at_ next all->rd S h size side at_ next=some (turn,rs,beh)->Chain S h size side turn beh (next+1) (all++rs)
theorem Chain.le {S:Nat->List UInt8} {h size side turn at_ next:Nat} {all:List (List UInt8)} (hs:0 < size) (c:Chain S h size side turn at_ next all):at_<=h:=by
 cases c with
 | zero=>omega
 | step _ e=>exact (rd_some hs e).2.2.1
theorem Chain.congr {S S':Nat->List UInt8} {h size side turn at_ next:Nat} {all:List (List UInt8)} (hs:0 < size) (c:Chain S h size side turn at_ next all):(∀ j,j < at_->S' (side*h+j)=S (side*h+j))->Chain S' h size side turn at_ next all:=by
 induction c with
 | zero=>exact fun _=>.zero
 | step _ e ih =>
  intro ag
  have hb:=rd_some hs e
  exact .step (ih fun j hj=>ag j (by omega)) (rd_congr hs e fun j _ hj=>ag j hj)
theorem Chain.same {S:Nat->List UInt8} {h size side turn:Nat}:∀ {next a b:Nat} {xs ys:List (List UInt8)},Chain S h size side turn a next xs->Chain S h size side turn b next ys->a=b/\xs=ys:=by
 intro next
 induction next with
 | zero=>intro a b xs ys c d;cases c;cases d;exact ⟨rfl,rfl⟩
 | succ n ih =>
  intro a b xs ys c d
  cases c with
  | step c1 e1 =>
   cases d with
   | step d1 e2 =>
    obtain ⟨rfl,rfl⟩:=ih c1 d1
    rw [e1] at e2
    simp only [Option.some.injEq,Prod.mk.injEq,true_and] at e2
    obtain ⟨rfl,rfl⟩:=e2
    exact ⟨rfl,rfl⟩
def Stop (S:Nat->List UInt8) (h size side turn at_ next:Nat):Prop:=∀ rs beh,rd S h size side at_ next ≠ some (turn,rs,beh)
theorem Chain.upto {S:Nat->List UInt8} {h size side turn:Nat}:∀ {m b:Nat} {ys:List (List UInt8)},Chain S h size side turn b m ys->∀ n,n < m->∃ a xs rs beh,Chain S h size side turn a n xs/\rd S h size side a n=some (turn,rs,beh):=by
 intro m
 induction m with
 | zero=>intro b ys _ n hn;omega
 | succ m ih =>
  intro b ys c n hn
  cases c with
  | step c1 e1 =>
   by_cases e:n=m
   ·subst e;exact ⟨_,_,_,_,c1,e1⟩
   ·exact ih c1 n (by omega)
theorem Chain.unique {S:Nat->List UInt8} {h size side turn a b n m:Nat} {xs ys:List (List UInt8)} (c:Chain S h size side turn a n xs) (d:Chain S h size side turn b m ys) (sc:Stop S h size side turn a n) (sd:Stop S h size side turn b m):a=b/\n=m/\xs=ys:=by
 rcases Nat.lt_trichotomy n m with g | g | g
 ·obtain ⟨a',xs',rs,beh,c',e⟩:=d.upto n g
  obtain ⟨rfl,_⟩:=c.same c'
  exact absurd e (sc rs beh)
 ·subst g
  obtain ⟨h1,h2⟩:=c.same d
  exact ⟨h1,rfl,h2⟩
 ·obtain ⟨a',xs',rs,beh,c',e⟩:=c.upto m g
  obtain ⟨rfl,_⟩:=d.same c'
  exact absurd e (sd rs beh)
structure Lg where
 turn:Nat
 next:Nat
 at_:Nat
 all:List (List UInt8)
structure LogOK (S:Nat->List UInt8) (h size:Nat) (L:Lg):Prop where
 chain:Chain S h size (L.turn % 2) L.turn L.at_ L.next L.all
 free:∀ j,L.at_<=j->j < h->tlT S size (L.turn % 2*h+j)=L.turn->tlN S size (L.turn % 2*h+j)<=L.next
 top:∀ i,i < 2*h->tlT S size i<=L.turn
 first:L.turn=0\/0 < L.next
 bT:L.turn < 4611686018427387904
 bN:L.next < 4611686018427387904
theorem LogOK.stop {S:Nat->List UInt8} {h size:Nat} {L:Lg} (hs:0 < size) (o:LogOK S h size L):Stop S h size (L.turn % 2) L.turn L.at_ L.next:=by
 intro rs beh e
 obtain ⟨h1,_,_,h2,h3⟩:=rd_some hs e
 have:=o.free L.at_ (Nat.le_refl _) h1 h2
 have:=o.bN
 rw [h3,Nat.mod_eq_of_lt (by omega)] at *
 omega
theorem tl_laid {S':Nat->List UInt8} {size turn next i j:Nat} {b:List UInt8} (ht:turn < 18446744073709551616) (hn:next+1 < 18446744073709551616) (e:S' j=laidAt size turn next b i) :
  (i=0/\tlT S' size j=turn/\tlN S' size j=next+1)\/(i ≠ 0/\tlT S' size j=0/\tlN S' size j=0):=by
 have e8:∀ n,(be 8 n).length=8:=fun n=>be_len 8 n
 by_cases h:i=0
 ·refine .inl ⟨h,?_,?_⟩
  ·unfold tlT
   rw [e,laidAt_drop,if_pos h,List.take_append_of_le_length (by rw [e8];omega),List.take_of_length_le (by rw [e8];omega),getN_be 8 _ (by omega) (by omega)]
  ·unfold tlN
   rw [e,laidAt_drop,if_pos h,List.drop_append_of_le_length (by rw [e8];omega),List.drop_of_length_le (by rw [e8];omega),List.nil_append,getN_be 8 _ (by omega) (by omega)]
 ·refine .inr ⟨h,?_,?_⟩
  ·unfold tlT
   rw [e,laidAt_drop,if_neg h,List.take_replicate,getN_zeros]
  ·unfold tlN
   rw [e,laidAt_drop,if_neg h,List.drop_replicate,getN_zeros]
structure Laid (S S':Nat->List UInt8) (size turn next base k:Nat) (b:List UInt8):Prop where
 here:∀ i,i < k->S' (base+i)=laidAt size turn next b i
 else_:∀ j,j < base\/base+k<=j->S' j=S j
theorem Laid.tails {S S':Nat->List UInt8} {size turn next base k:Nat} {b:List UInt8} (l:Laid S S' size turn next base k b) (ht:turn < 18446744073709551616) (hn:next+1 < 18446744073709551616) (i:Nat) :
  (tlT S' size i=turn\/tlT S' size i=0)\/tlT S' size i=tlT S size i:=by
 by_cases h:i < base\/base+k<=i
 ·right;unfold tlT;rw [l.else_ i h]
 ·left
  have e:=l.here (i - base) (by omega)
  rw [show base+(i - base)=i by omega] at e
  rcases tl_laid ht hn e with ⟨_,h1,_⟩ | ⟨_,h1,_⟩
  ·exact .inl h1
  ·exact .inr h1
theorem LogOK.commit {S S':Nat->List UInt8} {h size:Nat} {L:Lg} {rs:List (List UInt8)} (hsz:32<=size) (o:LogOK S h size L) (hr:∀ r ∈ rs,r.length < 4294967296) (hb:(bodyB rs).length < 18446744073709551616)
  (hk:L.at_+secs size (32+(bodyB rs).length)<=h) (hn:L.next+1 < 4611686018427387904) (l:Laid S S' size L.turn L.next (L.turn % 2*h+L.at_) (secs size (32+(bodyB rs).length)) (frameB L.turn L.next rs)) :
  LogOK S' h size ⟨L.turn,L.next+1,L.at_+secs size (32+(bodyB rs).length),L.all++rs⟩:=by
 have bT:=o.bT
 have ht:L.turn < 18446744073709551616:=by omega
 have hn1:L.next+1 < 18446744073709551616:=by omega
 have hc:Chain S' h size (L.turn % 2) L.turn (L.at_+secs size (32+(bodyB rs).length)) (L.next+1) (L.all++rs) :=
  .step (o.chain.congr (by omega) fun j hj=>l.else_ _ (.inl (Nat.add_lt_add_left hj _))) (rd_laid hsz ht hn1 hr hb hk l.here)
 refine ⟨hc,fun j h1 h2 h3=>?_,fun i hi=>?_,.inr (Nat.succ_pos _),bT,hn⟩
 ·dsimp only at h1 h2 h3 ⊢
  have e:=l.else_ (L.turn % 2*h+j) (.inr (by rw [Nat.add_assoc];exact Nat.add_le_add_left h1 _))
  unfold tlT at h3
  unfold tlN
  rw [e] at h3 ⊢
  have:=o.free j (by omega) h2 h3
  unfold tlN at this
  omega
 ·have:=o.top i hi
  dsimp only
  rcases l.tails ht hn1 i with (e | e) | e <;> omega
theorem LogOK.reset {S S':Nat->List UInt8} {h size:Nat} {L:Lg} {rs:List (List UInt8)} (hsz:32<=size) (o:LogOK S h size L) (hr:∀ r ∈ rs,r.length < 4294967296) (hb:(bodyB rs).length < 18446744073709551616)
  (hk:secs size (32+(bodyB rs).length)<=h) (ht:L.turn+1 < 4611686018427387904) (l:Laid S S' size (L.turn+1) 0 ((L.turn+1) % 2*h) (secs size (32+(bodyB rs).length)) (frameB (L.turn+1) 0 rs)) :
  LogOK S' h size ⟨L.turn+1,1,secs size (32+(bodyB rs).length),rs⟩:=by
 have hrd:=rd_laid (side:=(L.turn+1) % 2) (at_:=0) (h:=h) hsz (show L.turn+1 < 18446744073709551616 by omega) (show 0+1 < 18446744073709551616 by omega) hr hb (by omega) (by simpa using l.here)
 rw [Nat.zero_add] at hrd
 have hc:Chain S' h size ((L.turn+1) % 2) (L.turn+1) (secs size (32+(bodyB rs).length)) 1 rs:=.step .zero hrd
 have ht1:L.turn+1 < 18446744073709551616:=by omega
 refine ⟨hc,fun j h1 h2 h3=>?_,fun i hi=>?_,.inr Nat.one_pos,ht,(by decide:(1:Nat) < 4611686018427387904)⟩
 ·dsimp only at h1 h2 h3 ⊢
  have e:=l.else_ ((L.turn+1) % 2*h+j) (.inr (Nat.add_le_add_left h1 _))
  have hj:(L.turn+1) % 2*h+j < 2*h:=by
   rcases Nat.mod_two_eq_zero_or_one (L.turn+1) with g | g <;> rw [g] <;> omega
  have:=o.top _ hj
  unfold tlT at h3 this
  rw [e] at h3
  omega
 ·have:=o.top i hi
  dsimp only
  rcases l.tails ht1 (show 0+1 < 18446744073709551616 by omega) i with (e | e) | e <;> omega
def firstT (S:Nat->List UInt8) (h size side:Nat):Option Nat:=match rd S h size side 0 0 with
 | some (t,_,_)=>if t % 2=side then some t else none
 | none=>none
def later (a b:Nat):Bool:=decide (0 < (a+18446744073709551616 - b) % 18446744073709551616/\(a+18446744073709551616 - b) % 18446744073709551616 < 9223372036854775808)
def bgStep (S:Nat->List UInt8) (h size:Nat) (p:Bool × Nat) (side:Nat):Bool × Nat:=match firstT S h size side with
 | some t=>if !p.1 || later t p.2 then (true,t) else p
 | none=>p
def turnOf (S:Nat->List UInt8) (h size:Nat):Nat:=(bgStep S h size (bgStep S h size (false,0) 0) 1).2
theorem LogOK.firstTop {S:Nat->List UInt8} {h size side t:Nat} {L:Lg} (hs:0 < size) (o:LogOK S h size L) (hside:side < 2) (e:firstT S h size side=some t):t<=L.turn/\t % 2=side:=by
 unfold firstT at e
 split at e
 ·rename_i t' rs beh hrd
  split at e
  ·rename_i hp
   cases e
   obtain ⟨h1,_,_,h2,_⟩:=rd_some hs hrd
   have hi:side*h+0 < 2*h:=by
    have:side=0\/side=1:=by omega
    rcases this with g | g
    ·subst g;omega
    ·subst g;omega
   have:=o.top (side*h+0) hi
   exact ⟨by omega,hp⟩
  ·cases e
 ·cases e
theorem LogOK.turnOf {S:Nat->List UInt8} {h size:Nat} {L:Lg} (hs:0 < size) (hh:0 < h) (o:LogOK S h size L):turnOf S h size=L.turn:=by
 have bT:=o.bT
 have l1:∀ t,t < L.turn->later L.turn t=true:=fun t ht=>by
  unfold later
  have:(L.turn+18446744073709551616 - t) % 18446744073709551616=L.turn - t:=by
   rw [show L.turn+18446744073709551616 - t=(L.turn - t)+18446744073709551616 by omega,Nat.add_mod_right,Nat.mod_eq_of_lt (by omega)]
  rw [this]
  exact decide_eq_true (by omega)
 have l2:∀ t,t < L.turn->later t L.turn=false:=fun t ht=>by
  unfold later
  have:(t+18446744073709551616 - L.turn) % 18446744073709551616=t+18446744073709551616 - L.turn:=Nat.mod_eq_of_lt (by omega)
  rw [this]
  exact decide_eq_false (by omega)
 have f0:=fun t=>o.firstTop (side:=0) (t:=t) hs (by omega)
 have f1:=fun t=>o.firstTop (side:=1) (t:=t) hs (by omega)
 have hmy:L.next=0\/firstT S h size (L.turn % 2)=some L.turn:=by
  rcases Nat.eq_zero_or_pos L.next with g | g
  ·exact .inl g
  ·right
   obtain ⟨a,xs,rs,beh,c,e⟩:=o.chain.upto 0 g
   cases c
   unfold firstT
   rw [e]
   exact if_pos rfl
 unfold Go.Proofs.YtmppeipgjcjdkaaGreatDoor.turnOf bgStep
 rcases hmy with g | g
 ·have ht:L.turn=0:=by have:=o.first;omega
  have hat:L.at_=0:=by
   have hz:∀ a n xs,Chain S h size (L.turn % 2) L.turn a n xs->n=0->a=0:=fun a n xs c e=>by
    cases c with
    | zero=>rfl
    | step _ _=>cases e
   exact hz _ _ _ o.chain g
  have n0:firstT S h size 0=none:=by
   cases e:firstT S h size 0 with
   | none=>rfl
   | some t =>
    unfold firstT at e
    split at e
    ·rename_i t' rs beh hrd
     obtain ⟨h1,_,_,h2,h3⟩:=rd_some hs hrd
     have h4:=o.top (0*h+0) (by omega)
     have h5:=o.free 0 (by omega) hh (by rw [ht] at h4 ⊢;simpa using h4)
     rw [ht,g] at h5
     simp at h5 h3
     omega
    ·cases e
  have n1:firstT S h size 1=none:=by
   cases e:firstT S h size 1 with
   | none=>rfl
   | some t=>have:=f1 t e;omega
  rw [n0,n1]
  exact ht.symm
 ·rcases Nat.mod_two_eq_zero_or_one L.turn with p | p
  ·rw [p] at g
   rw [g]
   cases e:firstT S h size 1 with
   | none=>rfl
   | some t =>
    have:=f1 t e
    simp only [Bool.not_false,Bool.true_or,if_true,Bool.not_true,Bool.false_or]
    rw [l2 t (by omega)]
    rfl
  ·rw [p] at g
   rw [g]
   cases e:firstT S h size 0 with
   | none=>rfl
   | some t =>
    have:=f0 t e
    simp only [Bool.not_false,Bool.true_or,if_true,Bool.not_true,Bool.false_or]
    rw [l1 t (by omega)]
    rfl
end Go.Proofs.YtmppeipgjcjdkaaGreatDoor
namespace Go.Proofs.YtmppeipgjcjdkaaGreatDoor
open _root_.Go.Proofs.Tryz
open Go.RowKit
theorem bytesLess_dec:∀ (x y:List UInt8),Op.bytesLess x y=decide (x < y)
 | [],[]=>by simp [Op.bytesLess]
 | _ :: _,[]=>by simp [Op.bytesLess]
 | [],_ :: _=>by simp [Op.bytesLess]
 | a :: x,b :: y=>by
  rw [Op.bytesLess,bytesLess_dec x y]
  simp only [List.cons_lt_cons_iff]
  by_cases h1:a < b <;> by_cases h2:a=b <;> by_cases h3:x < y <;> simp [h1,h2,h3]
def cfL (x y:List UInt8):Int:=if x < y then -1 else if y < x then 1 else 0
theorem isnan_any (x:ByteArray) (w:World):Calls prog 142 #[.string x] w fun e w'=>e=.returned (.bool false)/\w'=w:=by
 refine calls_hide fun R hR=>?_
 go_enter func142,ntmps142
 go_wp2_with fail
 exact fin hR ⟨by simp,rfl⟩
set_option maxRecDepth 100000 in
theorem compare_any (x y:List UInt8) (w:World):Calls prog 84 #[.string ⟨x.toArray⟩,.string ⟨y.toArray⟩] w fun e w'=>e=.returned (.int .i64 (cfL x y))/\w'=w:=by
 refine calls_hide fun R hR=>?_
 have HNX:=zh (isnan_any ⟨x.toArray⟩)
 have HNY:=zh (isnan_any ⟨y.toArray⟩)
 have h1:((⟨x.toArray⟩:ByteArray)).data.toList=x:=rfl
 have h2:((⟨y.toArray⟩:ByteArray)).data.toList=y:=rfl
 generalize (⟨x.toArray⟩:ByteArray)=X at *
 generalize (⟨y.toArray⟩:ByteArray)=Y at *
 go_enter func84,ntmps84
 go_wp2_with fail
 refine (HNX.out _).mono ?_
 rintro e w1 ⟨rfl,hw1⟩
 subst hw1
 go_wp2_with fail
 refine (HNY.out _).mono ?_
 rintro e w2 ⟨rfl,hw2⟩
 subst hw2
 go_wp2_with fail
 ·rename_i h3
  rw [ByteArray.toList_eq,ByteArray.toList_eq,h1,h2,bytesLess_dec] at h3
  have e:cfL x y = -1:=by unfold cfL;rw [if_pos (by simpa using h3)]
  exact fin hR ⟨by rw [e];rfl,rfl⟩
 ·rename_i h4 K h5 h3
  clear h5 K
  rw [ByteArray.toList_eq,ByteArray.toList_eq,h1,h2,bytesLess_dec] at h4
  rw [ByteArray.toList_eq,ByteArray.toList_eq,h1,h2] at h3
  have e:cfL x y=1:=by
   have h5:¬ x < y:=by simpa using h4
   have h6:x ≠ y:=by simpa using h3
   unfold cfL
   rw [if_neg h5,if_pos (by
    rcases Std.lt_trichotomy x y with h | h | h
    ·exact absurd h h5
    ·exact absurd h h6
    ·exact h)]
  exact fin hR ⟨by rw [e];rfl,rfl⟩
 ·rename_i h4 h3
  rw [ByteArray.toList_eq,ByteArray.toList_eq,h1,h2] at h3
  have hxy:x=y:=by simpa using h3
  subst hxy
  have e:cfL x x=0:=by
   have h6:¬ x < x:=by simp
   unfold cfL
   rw [if_neg h6,if_neg h6]
  exact fin hR ⟨by rw [e];rfl,rfl⟩
end Go.Proofs.YtmppeipgjcjdkaaGreatDoor
