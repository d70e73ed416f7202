/-
  Layers 0 to 14: helps of the laws of indexes. No statement is proved here; no condition.
-/
import Derived.Test.YtmppeipgjcjdkaaGreatDoorX00
import Derived.Deep.MidRow
import Derived.Maps.AppendAt
import Derived.Laws.OwnMore
import Derived.Defers
namespace Go.Proofs.YtmppeipgjcjdkaaGreatDoor
open _root_.Go.Proofs.Tryz
open Go.RowKit
def needLine (s:List UInt8):Option Nd:=if s.take 5=[110,101,101,100,32] then needL (s.drop 5) else none
theorem prefix_iff (s p:List UInt8):Lib.hasPrefix s p=decide (s.take p.length=p):=by
 unfold Lib.hasPrefix
 by_cases h:p <+: s
 ·rw [List.isPrefixOf_iff_prefix.2 h,decide_eq_true (List.prefix_iff_eq_take.1 h).symm]
 ·have h2:p.isPrefixOf s=false:=by
   cases hb:p.isPrefixOf s with
   | false=>rfl
   | true=>exact absurd (List.isPrefixOf_iff_prefix.1 hb) h
  rw [h2,decide_eq_false (fun e=>h (List.prefix_iff_eq_take.2 e.symm))]
def cmpN (a b:Int):Int:=if a < b then -1 else if b < a then 1 else 0
def cmpL (a b:List UInt8):Int:=if a < b then -1 else if b < a then 1 else 0
def orI:List Int->Int
 | []=>0
 | x :: l=>if x=0 then orI l else x
def markC (a b:List UInt8):Int :=
 if digitsB a && digitsB b then orI [cmpN a.length b.length,cmpL a b] else if digitsB a then -1 else if digitsB b then 1 else cmpL a b
def preC:List (List UInt8)->List (List UInt8)->Int
 | [],[]=>0
 | [],_ :: _=>-1
 | _ :: _,[]=>1
 | x :: a,y :: b=>if markC x y=0 then preC a b else markC x y
def verC (a b:Ver):Int :=
 if orI [cmpN a.ma b.ma,cmpN a.mi b.mi,cmpN a.pa b.pa]=0 then
  if a.pre=[]\/b.pre=[] then cmpN b.pre.length a.pre.length else preC a.pre b.pre
 else orI [cmpN a.ma b.ma,cmpN a.mi b.mi,cmpN a.pa b.pa]
theorem preC_drop {a b:List (List UInt8)} (k:Nat) (ha:k<=a.length) (hb:k<=b.length) (h:∀ i (h1:i < a.length) (h2:i < b.length),i < k->markC a[i] b[i]=0):preC a b=preC (a.drop k) (b.drop k):=by
 induction k with
 | zero=>simp
 | succ k ih =>
  rw [ih (by omega) (by omega) (fun i h1 h2 h3=>h i h1 h2 (by omega)),List.drop_eq_getElem_cons (i:=k) (by omega),List.drop_eq_getElem_cons (l:=b) (i:=k) (by omega)]
  show (if markC a[k] b[k]=0 then _ else _)=_
  rw [if_pos (h k (by omega) (by omega) (by omega))]
theorem preC_hit {a b:List (List UInt8)} {k:Nat} (ha:k < a.length) (hb:k < b.length) (h:∀ i (h1:i < a.length) (h2:i < b.length),i < k->markC a[i] b[i]=0) (hk:markC a[k] b[k] ≠ 0):preC a b=markC a[k] b[k]:=by
 rw [preC_drop k (by omega) (by omega) h,List.drop_eq_getElem_cons ha,List.drop_eq_getElem_cons hb]
 show (if markC a[k] b[k]=0 then _ else _)=_
 rw [if_neg hk]
theorem preC_nil (a b:List (List UInt8)) (h:a=[]\/b=[]):preC a b=cmpN a.length b.length:=by
 rcases a with _ | ⟨x,a⟩ <;> rcases b with _ | ⟨y,b⟩
 ·rfl
 ·show (-1:Int)=_
  unfold cmpN
  rw [if_pos (by simp only [List.length_nil,List.length_cons];omega)]
 ·show (1:Int)=_
  unfold cmpN
  rw [if_neg (by simp only [List.length_nil,List.length_cons];omega),if_pos (by simp only [List.length_nil,List.length_cons];omega)]
 ·rcases h with h | h <;> cases h
theorem preC_end {a b:List (List UInt8)} {k:Nat} (ha:k<=a.length) (hb:k<=b.length) (he:k=a.length\/k=b.length) (h:∀ i (h1:i < a.length) (h2:i < b.length),i < k->markC a[i] b[i]=0):preC a b=cmpN a.length b.length:=by
 rw [preC_drop k ha hb h,preC_nil _ _ (he.imp (fun h=>List.drop_eq_nil_of_le (by omega)) (fun h=>List.drop_eq_nil_of_le (by omega)))]
 unfold cmpN
 simp only [List.length_drop]
 by_cases h1:a.length < b.length
 ·rw [if_pos (by omega),if_pos (by omega)]
 ·by_cases h2:b.length < a.length
  ·rw [if_neg (by omega),if_pos (by omega),if_neg (by omega),if_pos (by omega)]
  ·rw [if_neg (by omega),if_neg (by omega),if_neg (by omega),if_neg (by omega)]
def insR {α:Type} (p:α->Bool) (x:α) (l:List α):List α:=(l.reverse.dropWhile p).reverse++x :: (l.reverse.takeWhile p).reverse
def sortR {α:Type} (lt:α->α->Bool) (l:List α):List α:=l.foldl (fun a x=>insR (lt x) x a) []
theorem takeWhile_hit {α:Type} {p:α->Bool} {b:List α}:∀ {a:List α},(∀ y ∈ a,p y=true)->(b=[]\/∃ z r,b=z :: r/\p z=false)->(a++b).takeWhile p=a/\(a++b).dropWhile p=b
 | [],_,hb=>by
  rcases hb with rfl | ⟨z,r,rfl,hz⟩
  ·simp
  ·simp [hz]
 | y :: a,ha,hb=>by
  obtain ⟨h1,h2⟩:=takeWhile_hit (a:=a) (fun z hz=>ha z (by simp [hz])) hb
  have hy:=ha y (by simp)
  simp [hy,h1,h2]
theorem insR_scan {α:Type} {p:α->Bool} {x:α} {A B:List α} (hB:∀ y ∈ B,p y=true) (hA:A=[]\/∃ C z,A=C++[z]/\p z=false):insR p x (A++B)=A++x :: B:=by
 unfold insR
 rw [List.reverse_append]
 obtain ⟨h1,h2⟩:=takeWhile_hit (p:=p) (a:=B.reverse) (b:=A.reverse) (fun y hy=>hB y (by simpa using hy)) (by
  rcases hA with rfl | ⟨C,z,rfl,hz⟩
  ·exact .inl rfl
  ·exact .inr ⟨z,C.reverse,by simp,hz⟩)
 rw [h1,h2]
 simp
theorem insR_length {α:Type} (p:α->Bool) (x:α) (l:List α):(insR p x l).length=l.length+1:=by
 unfold insR
 have h:=congrArg List.length (List.takeWhile_append_dropWhile (p:=p) (l:=l.reverse))
 rw [List.length_append,List.length_reverse] at h
 simp only [List.length_append,List.length_reverse,List.length_cons]
 omega
theorem sortR_length {α:Type} (lt:α->α->Bool) (l:List α):(sortR lt l).length=l.length:=by
 have:∀ (l a:List α),(l.foldl (fun a x=>insR (lt x) x a) a).length=a.length+l.length:=by
  intro l
  induction l with
  | nil=>simp
  | cons x l ih=>intro a;rw [List.foldl_cons,ih,insR_length,List.length_cons];omega
 have h:=this l []
 unfold sortR
 simpa using h
theorem sortR_take {α:Type} (lt:α->α->Bool) (l:List α) {k:Nat} (hk:k < l.length):sortR lt (l.take (k+1))=insR (lt l[k]) l[k] (sortR lt (l.take k)):=by
 unfold sortR
 rw [List.take_succ_eq_append_getElem hk,List.foldl_append]
 rfl
theorem insR_map {α β:Type} (f:α->β) (p:β->Bool) (x:α) (l:List α):(insR (fun y=>p (f y)) x l).map f=insR p (f x) (l.map f):=by
 unfold insR
 rw [<- List.map_reverse,List.dropWhile_map,List.takeWhile_map]
 simp
 constructor <;> rfl
theorem sortR_map {α β:Type} (f:α->β) (lt:β->β->Bool) (l:List α):(sortR (fun x y=>lt (f x) (f y)) l).map f=sortR lt (l.map f):=by
 unfold sortR
 have:∀ (l a:List α),(l.foldl (fun a x=>insR (fun y=>lt (f x) (f y)) x a) a).map f=(l.map f).foldl (fun a x=>insR (lt x) x a) (a.map f):=by
  intro l
  induction l with
  | nil=>simp
  | cons x l ih=>intro a;rw [List.foldl_cons,ih,insR_map f (lt (f x))];rfl
 exact this l []
theorem insR_mem {α:Type} (p:α->Bool) (x:α) (l:List α) (y:α):y ∈ insR p x l ↔ y=x\/y ∈ l:=by
 unfold insR
 have h:=List.takeWhile_append_dropWhile (p:=p) (l:=l.reverse)
 have h2:y ∈ l ↔ y ∈ l.reverse.takeWhile p\/y ∈ l.reverse.dropWhile p:=by
  rw [<- List.mem_append,h,List.mem_reverse]
 rw [h2]
 simp
 constructor
 ·rintro (h | h | h)
  ·exact .inr (.inr h)
  ·exact .inl h
  ·exact .inr (.inl h)
 ·rintro (h | h | h)
  ·exact .inr (.inl h)
  ·exact .inr (.inr h)
  ·exact .inl h
theorem sortR_mem {α:Type} (lt:α->α->Bool) (l:List α) (y:α):y ∈ sortR lt l ↔ y ∈ l:=by
 have:∀ (l a:List α),y ∈ l.foldl (fun a x=>insR (lt x) x a) a ↔ y ∈ a\/y ∈ l:=by
  intro l
  induction l with
  | nil=>simp
  | cons x l ih =>
   intro a
   rw [List.foldl_cons,ih,insR_mem,List.mem_cons]
   constructor
   ·rintro ((h | h) | h)
    ·exact .inr (.inl h)
    ·exact .inl h
    ·exact .inr (.inr h)
   ·rintro (h | h | h)
    ·exact .inl (.inr h)
    ·exact .inl (.inl h)
    ·exact .inr h
 have h:=this l []
 unfold sortR
 simpa using h
def hexD (c:UInt8):Option Nat:=if dig c then some (c.toNat - 48) else if 97<=c.toNat/\c.toNat<=102 then some (c.toNat - 87) else none
def unhexL:List UInt8->Option (List UInt8)
 | []=>some []
 | [_]=>none
 | a :: b :: l=>match hexD a,hexD b,unhexL l with
  | some x,some y,some r=>some (UInt8.ofNat (16*x+y) :: r)
  | _,_,_=>none
def sumL (l:List UInt8):Option (List UInt8):=if l.length=64 then unhexL l else none
def ltNd (x y:Nd):Bool:=decide (x.name < y.name)
theorem text_gt {a b:List UInt8} (h:¬ a < b) (h2:a ≠ b):b < a:=by
 rcases Std.lt_trichotomy a b with h3 | h3 | h3
 ·exact absurd h3 h
 ·exact absurd h3 h2
 ·exact h3
theorem Sl.block {X:Nat->Prop} {w:World} {e:TypeId} {b o n c:Nat} {xs:List Value} (h:Sl w X e (.slice (some ⟨b,o,none⟩) n c) n xs):∃ cur fz,w.heap[b]? = some (.cells cur e fz):=by
 rcases h with ⟨h,_⟩ | ⟨blk,o',c0,cur,fz,hv,hn,hc,hX,hh,hl,hr⟩
 ·cases h
 ·cases hv;exact ⟨cur,fz,hh⟩
theorem Mod.cell1 (w:World) (b i:Nat) (v:Value):Mod (fun p=>p=b) w (w.setCell ⟨b,i,none⟩ v):=Mod.setCell (S:=fun p=>p=b) (p:=⟨b,i,none⟩) (Mod.refl _ w) (fun _=>rfl) v
theorem Mod.no {S:Nat->Prop} {w w':World} (h:Mod No w w'):Mod S w w':=h.weaken (fun _ _ f=>f.elim)
theorem cells4 {w:World} {b:Nat} {v0 v1 v2 v3:Value} {e:TypeId} (h:w.heap[b]? = some (.cells #[v0,v1,v2,v3] e (0,0))) :
  (w.cell? ⟨b,0,none⟩=some v0/\w.cell? ⟨b,1,none⟩=some v1/\w.cell? ⟨b,2,none⟩=some v2/\w.cell? ⟨b,3,none⟩=some v3)/\w.frozen? ⟨b,0,none⟩=false/\w.frozen? ⟨b,1,none⟩=false/\w.frozen? ⟨b,2,none⟩=false/\w.frozen? ⟨b,3,none⟩=false :=
 ⟨⟨cell_ofA h rfl,cell_ofA h rfl,cell_ofA h rfl,cell_ofA h rfl⟩,frozen_of _ h,frozen_of _ h,frozen_of _ h,frozen_of _ h⟩
theorem set4 {w:World} {b:Nat} {u0 u1 u2 u3:Value} {e:TypeId} (h:w.heap[b]? = some (.cells #[u0,u1,u2,u3] e (0,0))) (v0 v1 v2 v3:Value) :
  ((((w.setCell ⟨b,0,none⟩ v0).setCell ⟨b,1,none⟩ v1).setCell ⟨b,2,none⟩ v2).setCell ⟨b,3,none⟩ v3).heap[b]? = some (.cells #[v0,v1,v2,v3] e (0,0)):=by
 rw [heap_setCell (heap_setCell (heap_setCell (heap_setCell h v0) v1) v2) v3]
 rfl
theorem Mod.set4 {S:Nat->Prop} {a w:World} {b:Nat} (h:Mod S a w) (hb:b < a.heap.size->S b) (v0 v1 v2 v3:Value) :
  Mod S a ((((w.setCell ⟨b,0,none⟩ v0).setCell ⟨b,1,none⟩ v1).setCell ⟨b,2,none⟩ v2).setCell ⟨b,3,none⟩ v3) :=
 (((h.setCell hb v0).setCell hb v1).setCell hb v2).setCell hb v3
set_option maxRecDepth 100000 in
theorem load_ver {w:World} {b:Nat} {v0 v1 v2 v3:Value} (h:w.heap[b]? = some (.cells #[v0,v1,v2,v3] 45 (0,0))) :
  (loadVar 45 ⟨b,0,none⟩).run prog w=.ok (.agg #[v0,v1,v2,v3]) w :=
 run_loadVar_row (P:=prog) w b 45 45 #[v0,v1,v2,v3] (0,0) _ h underlying45 rfl (by kernel_rfl)
theorem flat_length {α:Type} {f:α->List Value} {wd:Nat} (hf:∀ x,(f x).length=wd):∀ xs:List α,(xs.flatMap f).length=xs.length*wd
 | []=>by simp
 | x :: xs=>by
  rw [List.flatMap_cons,List.length_append,hf,flat_length hf xs,List.length_cons,Nat.succ_mul,Nat.add_comm]
theorem flat_get {α:Type} {f:α->List Value} {wd:Nat} (hf:∀ x,(f x).length=wd):∀ (xs:List α) {i:Nat} (hi:i < xs.length) {j:Nat} {u:Value},(f xs[i])[j]? = some u->(xs.flatMap f)[i*wd+j]? = some u
 | x :: xs,0,_,j,u,hj=>by
  have hj2:(f x)[j]? = some u:=hj
  have hlt:j < (f x).length:=(List.getElem?_eq_some_iff.1 hj2).1
  rw [List.flatMap_cons,Nat.zero_mul,Nat.zero_add,List.getElem?_append_left hlt,hj2]
 | x :: xs,i+1,hi,j,u,hj=>by
  have hj2:(f (xs[i]'(by simpa using hi)))[j]? = some u:=hj
  rw [List.flatMap_cons,List.getElem?_append_right (by rw [hf,Nat.succ_mul];omega),hf,show (i+1)*wd+j - wd=i*wd+j by rw [Nat.succ_mul];omega]
  exact flat_get hf xs (by simpa using hi) hj2
theorem Sl.at {α:Type} {f:α->List Value} {wd:Nat} {X:Nat->Prop} {w:World} {e:TypeId} {b o n c:Nat} {xs:List α} (hf:∀ x,(f x).length=wd) (h:Sl w X e (.slice (some ⟨b,o,none⟩) n c) n (xs.flatMap f)) {i:Nat} (hi:i < xs.length):w.rangeAt b (o+i*wd) (f xs[i]):=fun j u hj=>by
 have h1:=flat_get hf xs hi hj
 have h2:=Sl.cell h (List.getElem?_eq_some_iff.1 h1).1
 rw [Nat.add_assoc]
 rw [<- h1]
 exact h2
theorem rangeAt_part {w:World} {b o:Nat} {p q r:List Value} (h:w.rangeAt b o (p++q++r)):w.rangeAt b (o+p.length) q:=fun j u hj=>by
 have:=h (p.length+j) u (by
  rw [List.append_assoc,List.getElem?_append_right (by omega),show p.length+j - p.length=j by omega,List.getElem?_append_left (List.getElem?_eq_some_iff.1 hj).1,hj])
 rw [Nat.add_assoc]
 exact this
theorem Mod.rangeAt {S:Nat->Prop} {w w':World} (hm:Mod S w w') {b o:Nat} {cs:List Value} (h:w.rangeAt b o cs) (hs:¬ S b):w'.rangeAt b o cs:=fun j u hj=>hm.cell (h j u hj) hs
def Apart (ts:List TypeId) (S:Nat->Prop) (w:World):Prop:=∀ k cur fz e,S k->w.heap[k]? = some (.cells cur e fz)->e ∉ ts
theorem Apart.no (ts:List TypeId) (w:World):Apart ts No w:=fun _ _ _ _ f=>f.elim
theorem Apart.less {ts us:List TypeId} {S:Nat->Prop} {w:World} (h:Apart ts S w) (hs:∀ e ∈ us,e ∈ ts):Apart us S w:=fun k cur fz e hk hc he=>h k cur fz e hk hc (hs e he)
theorem Sl.apart {S:Nat->Prop} {w w':World} {e:TypeId} {v:Value} {n:Nat} {xs:List Value} (h:Sl w No e v n xs) (hm:Mod S w w') (ha:Apart [e] S w):Sl w' No e v n xs :=
 h.keep hm fun k cur fz hk _ hc=>ha k cur fz e hk hc (by simp)
abbrev verCs (v:Ver) (pv:Value):List Value:=[.int .i64 v.ma,.int .i64 v.mi,.int .i64 v.pa,pv]
structure BndX where
 b:Bnd
 pv:Value
def BndX.cells (x:BndX):List Value:=strV x.b.sign :: verCs x.b.v x.pv
theorem BndX.cells_length (x:BndX):x.cells.length=5:=rfl
def BndsX (X:Nat->Prop) (w:World) (v:Value) (l:List Bnd):Prop:=∃ xs:List BndX,xs.map BndX.b=l/\(∀ x ∈ xs,Sl w X 9 x.pv x.b.v.pre.length (strs x.b.v.pre))/\Sl w X 255 v l.length (xs.flatMap BndX.cells)
abbrev BndsAt (w:World) (v:Value) (l:List Bnd):Prop:=BndsX No w v l
theorem BndsX.shrink {X Y:Nat->Prop} {w:World} {v:Value} {l:List Bnd} (h:BndsX X w v l) (hy:∀ k,k < w.heap.size->Y k->X k):BndsX Y w v l:=by
 obtain ⟨xs,h1,h2,h3⟩:=h
 exact ⟨xs,h1,fun x hx=>(h2 x hx).shrink hy,h3.shrink hy⟩
theorem BndsX.no {X:Nat->Prop} {w:World} {v:Value} {l:List Bnd} (h:BndsX X w v l):BndsAt w v l:=h.shrink (fun _ _ f=>f.elim)
theorem BndsX.keepX {X S:Nat->Prop} {w w':World} {v:Value} {l:List Bnd} (h:BndsX X w v l) (hm:Mod S w w') (hs:∀ k cur fz e,S k->¬ X k->w.heap[k]? ≠ some (.cells cur e fz)):BndsX X w' v l:=by
 obtain ⟨xs,h1,h2,h3⟩:=h
 exact ⟨xs,h1,fun x hx=>(h2 x hx).keep hm (fun k cur fz a b=>hs k cur fz _ a b),h3.keep hm (fun k cur fz a b=>hs k cur fz _ a b)⟩
theorem BndsAt.keep {S:Nat->Prop} {w w':World} {v:Value} {l:List Bnd} (h:BndsAt w v l) (hm:Mod S w w') (ha:Apart [9,255] S w):BndsAt w' v l:=by
 obtain ⟨xs,h1,h2,h3⟩:=h
 exact ⟨xs,h1,fun x hx=>(h2 x hx).apart hm (ha.less (by simp)),h3.apart hm (ha.less (by simp))⟩
theorem sl_new (w:World) (e:TypeId) (xs:List Value) {n c:Nat} (hn:n<=c) (hc:c<=maxLen):Sl (w.alloc (.cells xs.toArray e)) No e (.slice (some ⟨w.heap.size,0,none⟩) n c) n xs :=
 .inr ⟨w.heap.size,0,c,_,(0,0),rfl,hn,hc,fun f=>f,heap_alloc_new w _,by simp,fun i hi=>by simp⟩
theorem bndsX_new {X:Nat->Prop} (w:World) (xs:List BndX) (h:∀ x ∈ xs,Sl w X 9 x.pv x.b.v.pre.length (strs x.b.v.pre)) (hn:xs.length<=maxLen) (hx:¬ X w.heap.size) :
  BndsX X (w.alloc (.cells (xs.flatMap BndX.cells).toArray 255)) (.slice (some ⟨w.heap.size,0,none⟩) xs.length xs.length) (xs.map BndX.b) :=
 ⟨xs,rfl,fun x hx=>Sl.keep (S:=No) (h x hx) ((Mod.refl No w).alloc _) (fun _ _ _ f=>f.elim),by
  rw [List.length_map]
  exact .inr ⟨w.heap.size,0,_,_,(0,0),rfl,Nat.le_refl _,hn,hx,heap_alloc_new w _,by simp,fun i hi=>by simp⟩⟩
structure OrX where
 l:List Bnd
 v:Value
def OrsAt (w:World) (v:Value) (l:List (List Bnd)):Prop:=∃ xs:List OrX,xs.map OrX.l=l/\(∀ x ∈ xs,BndsAt w x.v x.l)/\Sl w No 252 v l.length (xs.map OrX.v)
theorem OrsAt.keep {S:Nat->Prop} {w w':World} {v:Value} {l:List (List Bnd)} (h:OrsAt w v l) (hm:Mod S w w') (ha:Apart [9,255,252] S w):OrsAt w' v l:=by
 obtain ⟨xs,h1,h2,h3⟩:=h
 exact ⟨xs,h1,fun x hx=>(h2 x hx).keep hm (ha.less (by simp)),h3.apart hm (ha.less (by simp))⟩
structure NdX where
 n:Nd
 ov:Value
def NdX.cells (x:NdX):List Value:=[strV x.n.name,.bool x.n.span.any,x.ov,strV x.n.text]
theorem NdX.cells_length (x:NdX):x.cells.length=4:=rfl
def NdsAt (w:World) (v:Value) (l:List Nd):Prop:=∃ xs:List NdX,xs.map NdX.n=l/\(∀ x ∈ xs,OrsAt w x.ov x.n.span.ors)/\Sl w No 113 v l.length (xs.flatMap NdX.cells)
theorem NdsAt.keep {S:Nat->Prop} {w w':World} {v:Value} {l:List Nd} (h:NdsAt w v l) (hm:Mod S w w') (ha:Apart [9,255,252,113] S w):NdsAt w' v l:=by
 obtain ⟨xs,h1,h2,h3⟩:=h
 exact ⟨xs,h1,fun x hx=>(h2 x hx).keep hm (ha.less (by simp)),h3.apart hm (ha.less (by simp))⟩
structure Pn where
 name:List UInt8
 v:Ver
 sum:List UInt8
structure PnX where
 p:Pn
 pv:Value
def PnX.cells (x:PnX):List Value:=strV x.p.name :: (verCs x.p.v x.pv++bv x.p.sum)
theorem PnX.cells_length (x:PnX) (h:x.p.sum.length=32):x.cells.length=37:=by simp [PnX.cells,verCs,h]
structure PnOk (x:PnX):Prop where
 sum:x.p.sum.length=32
 pv:∃ a m c,x.pv=.slice a m c
theorem PnOk.one {x:PnX} (h:PnOk x):∀ u ∈ x.cells,u.oneCell'=true:=by
 intro u hu
 obtain ⟨a,m,c,e⟩:=h.pv
 unfold PnX.cells verCs at hu
 rw [e] at hu
 simp only [List.mem_cons,List.mem_append,List.not_mem_nil,or_false] at hu
 rcases hu with rfl | (rfl | rfl | rfl | rfl) | hu
 ·rfl
 ·rfl
 ·rfl
 ·rfl
 ·rfl
 ·exact bv_one _ u hu
def pinZero:Value:=.agg (#[.string ⟨#[]⟩,.int .i64 0,.int .i64 0,.int .i64 0,.slice none 0 0]++Array.replicate 32 (.int .u8 0))
theorem info_pn:(prog.info? 49).map (fun i=>(i.zero,i.size,i.bytes))=some (some pinZero,37,96):=by kernel_rfl
def holdsB (b:Bnd) (v:Ver):Bool :=
 if b.sign=[61] then decide (verC v b.v=0) else if b.sign=[60] then decide (verC v b.v < 0) else if b.sign=[60,61] then decide (verC v b.v<=0) else if b.sign=[62] then decide (0 < verC v b.v) else if b.sign=[62,61] then decide (0<=verC v b.v) else false
def nearB (b:Bnd) (v:Ver):Bool:=!b.v.pre.isEmpty && decide (b.v.ma=v.ma) && decide (b.v.mi=v.mi) && decide (b.v.pa=v.pa)
def hasO (v:Ver) (l:List Bnd):Bool:=l.all (fun b=>holdsB b v) && (v.pre.isEmpty || l.any (fun b=>nearB b v))
def hasS (s:Spn) (v:Ver):Bool:=if s.any then v.pre.isEmpty else s.ors.any (hasO v)
structure Mf where
 name:List UInt8
 v:Ver
 needs:List Nd
def mf0:Mf:=⟨[],⟨0,0,0,[]⟩,[]⟩
def nameW:List UInt8:=[110,97,109,101,32]
def versionW:List UInt8:=[118,101,114,115,105,111,110,32]
def mstep (n:Nat) (m:Mf) (s:List UInt8):Option Mf :=
 if n=0 then (if s.take 5=nameW/\nameB (s.drop 5)=true then some { m with name:=s.drop 5 } else none)
 else if n=1 then (if s.take 8=versionW then (verOf (s.drop 8)).map fun v=>{ m with v:=v } else none)
 else (needLine s).bind fun x=>if x.name=m.name\/x.name ∈ m.needs.map Nd.name\/m.needs.length=20 then none else some { m with needs:=m.needs++[x] }
def mlines:Nat->Mf->List (List UInt8)->Option (Nat × Mf)
 | n,m,[]=>some (n,m)
 | n,m,s :: l=>if silentB s then mlines n m l else match mstep n m s with
  | none=>none
  | some m'=>mlines (n+1) m' l
def mfOf (s:List UInt8):Option Mf :=
 if 65536 < s.length then none else match mlines 0 mf0 (linesL s) with
  | none=>none
  | some (n,m)=>if n < 2 then none else some { m with needs:=sortR ltNd m.needs }
def pinL (s:List UInt8):Option Pn:=match splitC 32 s with
 | [a,b,c]=>if nameB a=true then (verOf b).bind fun v=>(sumL c).map fun k=>⟨a,v,k⟩ else none
 | _=>none
def pinsG:List Pn->List (List UInt8)->Option (List Pn)
 | out,[]=>some out
 | out,s :: l=>match pinL s with
  | none=>none
  | some p=>if out.length < 200/\(out.getLast?.all fun q=>decide (q.name < p.name))=true then pinsG (out++[p]) l else none
def lockW:List UInt8:=[108,111,99,107,32,49]
def lkOf (s:List UInt8):Option (List Pn) :=
 if 65536 < s.length\/s.getLast? ≠ some 10 then none else match splitC 10 s.dropLast with
  | []=>none
  | h :: l=>if h=lockW then pinsG [] l else none
def metB (ps:List Pn) (n:Nd):Bool:=ps.any fun p=>decide (p.name=n.name) && hasS n.span p.v
def withinB (p d:List UInt8):Bool:=d.isEmpty || decide (p=d) || (d++[47]).isPrefixOf p
def heldB (m l:List UInt8) (paths:List (List UInt8)):Bool :=
 if m=[]/\l=[] then paths.isEmpty else match mfOf m,lkOf l with
  | some m,some ps=>m.needs.all (metB ps) && paths.all fun x=>ps.any fun p=>withinB x p.name
  | _,_=>false
end Go.Proofs.YtmppeipgjcjdkaaGreatDoor
namespace Go.Proofs.YtmppeipgjcjdkaaGreatDoor
open _root_.Go.Proofs.Tryz
def letters:List UInt8:=[97,98,99,100,101,102]
def pickL:List Bool->List UInt8->List UInt8
 | b :: bs,c :: cs=>if b then c :: pickL bs cs else pickL bs cs
 | _,_=>[]
def manH:List UInt8:=[110,97,109,101,32,109,101,10,118,101,114,115,105,111,110,32,49,46,48,46,48,10]
def manL (c:UInt8):List UInt8:=[110,101,101,100,32,c,32,42,10]
def manT (L:List UInt8):List UInt8:=manH++L.flatMap manL
def zzT:List UInt8:=[110,101,101,100,32,122,122,32,42,10]
def lckH:List UInt8:=[108,111,99,107,32,49,10]
def lckL (c:UInt8):List UInt8:=c :: 32 :: 48 :: 46 :: 48 :: 46 :: 48 :: 32 :: (List.replicate 64 48++[10])
def lckT (L:List UInt8):List UInt8:=lckH++L.flatMap lckL
def pathsT (L:List UInt8):List (List UInt8):=L.flatMap fun c=>[[c],[c,47,102]]
def turnedB (L:List UInt8):Bool :=
 heldB (manT L) (lckT L) (pathsT L) && !heldB (manT L++zzT) (lckT L) (pathsT L) && (L.isEmpty || !heldB (manT L) (lckT L.tail) (pathsT L)) && !heldB (manT L) (lckT L) (pathsT L++[[103]]) && !heldB (manT L) (lckT L++[120]) (pathsT L)
set_option maxRecDepth 100000 in
theorem turned_all:∀ a b c d e f:Bool,turnedB (pickL [a,b,c,d,e,f] letters)=true:=by decide +kernel
end Go.Proofs.YtmppeipgjcjdkaaGreatDoor
namespace Go.Proofs.YtmppeipgjcjdkaaGreatDoor
open _root_.Go.Proofs.Tryz
open Go.RowKit
theorem flat_getM {α:Type} {f:α->List Value} {wd:Nat}:∀ (xs:List α) (_:∀ x ∈ xs,(f x).length=wd) {i:Nat} (hi:i < xs.length) {j:Nat} {u:Value},(f xs[i])[j]? = some u->(xs.flatMap f)[i*wd+j]? = some u
 | x :: xs,hf,0,_,j,u,hj=>by
  have hj2:(f x)[j]? = some u:=hj
  have hlt:j < (f x).length:=(List.getElem?_eq_some_iff.1 hj2).1
  rw [List.flatMap_cons,Nat.zero_mul,Nat.zero_add,List.getElem?_append_left hlt,hj2]
 | x :: xs,hf,i+1,hi,j,u,hj=>by
  have hj2:(f (xs[i]'(by simpa using hi)))[j]? = some u:=hj
  have h1:=hf x (by simp)
  rw [List.flatMap_cons,List.getElem?_append_right (by rw [h1,Nat.succ_mul];omega),h1,show (i+1)*wd+j - wd=i*wd+j by rw [Nat.succ_mul];omega]
  exact flat_getM xs (fun y hy=>hf y (by simp [hy])) (by simpa using hi) hj2
theorem Sl.atM {α:Type} {f:α->List Value} {wd:Nat} {X:Nat->Prop} {w:World} {e:TypeId} {b o n c:Nat} {xs:List α} (hf:∀ x ∈ xs,(f x).length=wd) (h:Sl w X e (.slice (some ⟨b,o,none⟩) n c) n (xs.flatMap f)) {i:Nat} (hi:i < xs.length):w.rangeAt b (o+i*wd) (f xs[i]):=fun j u hj=>by
 have h1:=flat_getM xs hf hi hj
 have h2:=Sl.cell h (List.getElem?_eq_some_iff.1 h1).1
 rw [Nat.add_assoc]
 rw [<- h1]
 exact h2
theorem flat_takeM {α:Type} {f:α->List Value} {wd:Nat} {L:List α} (hf:∀ x ∈ L,(f x).length=wd) (k:Nat):(L.take k).flatMap f=(L.flatMap f).take (k*wd):=by
 induction L generalizing k with
 | nil=>simp
 | cons x L ih =>
  cases k with
  | zero=>simp
  | succ k =>
   have h1:=hf x (by simp)
   rw [List.take_succ_cons,List.flatMap_cons,List.flatMap_cons,ih (fun y hy=>hf y (by simp [hy])),Nat.succ_mul,List.take_append,h1,Nat.add_sub_cancel,List.take_of_length_le (l:=f x) (by rw [h1];omega)]
theorem flat_dropM {α:Type} {f:α->List Value} {wd:Nat} {L:List α} (hf:∀ x ∈ L,(f x).length=wd) (k:Nat):(L.drop k).flatMap f=(L.flatMap f).drop (k*wd):=by
 induction L generalizing k with
 | nil=>simp
 | cons x L ih =>
  cases k with
  | zero=>simp
  | succ k =>
   have h1:=hf x (by simp)
   rw [List.drop_succ_cons,List.flatMap_cons,ih (fun y hy=>hf y (by simp [hy])),Nat.succ_mul,List.drop_append,h1,Nat.add_sub_cancel,List.drop_of_length_le (l:=f x) (by rw [h1];omega),List.nil_append]
def NeedRes (w':World) (o:Option Nd) (e:Ending):Prop:=match o with
 | some n=>∃ oa om oc,e=.returned (.tuple #[.agg #[strV n.name,.bool n.span.any,.slice oa om oc,strV n.text],.bool true])/\OrsAt w' (.slice oa om oc) n.span.ors
 | none=>∃ s1 b oa om oc s2,e=.returned (.tuple #[.agg #[.string s1,.bool b,.slice oa om oc,.string s2],.bool false])
theorem info_partsN:∃ i,prog.info? 113=some i/\i.zero=some (.agg #[.string ⟨#[]⟩,.bool false,.slice none 0 0,.string ⟨#[]⟩])/\i.size=4/\i.bytes=64:=by
 have h:(prog.info? 113).map (fun i=>(i.zero,i.size,i.bytes))=some (some (.agg #[.string ⟨#[]⟩,.bool false,.slice none 0 0,.string ⟨#[]⟩]),4,64):=by kernel_rfl
 cases hi:prog.info? 113 with
 | none=>rw [hi] at h;cases h
 | some i =>
  rw [hi] at h
  simp only [Option.map_some,Option.some.injEq,Prod.mk.injEq] at h
  exact ⟨i,rfl,h.1,h.2.1,h.2.2⟩
theorem wp_app_atN {P:Program} {w:World} {o:Oper} {a:Act} {K:Act->World->Prop} {Q:Exit->Act->World->Prop} (s x:Operand) (t:TypeId)
  (ho:o.op=.call { callee:=.builtin .append,args:=#[s,x],argTypes:=#[t,t] })
  (base:Nat) (e:TypeId) (i:TypeInfo) (z:Value) (size bytes:Nat) (ht:P.underlying t=some (.slice e)) (hi:P.info? e=some i) (hz:i.zero=some z)
  (hsize:i.size=size) (hby:i.bytes=bytes) (hzs:z.cells.size=size) (hsz:0 < size)
  (v:Value) (n:Nat) (xs:List Value) (hs:a.eval s=v) (hown:w.ownsRow base e size v n xs)
  (ad:Addr) (m c:Nat) (news:List Value) (hx:a.eval x=.slice (some ad) m c) (hl:news.length=m*size) (hnews:∀ j u,news[j]? = some u->w.cell? (ad.add j)=some u) (h1:∀ u ∈ news,u.oneCell'=true)
  (h63:n+m<=maxLen) (hbytes:(n+m)*bytes<=140737488355328) (hbase:base<=w.heap.size)
  (h:∀ v' w',w'.ownsRow base e size v' (n+m) (xs++news)->w.grownBy w' v.ownBlock->(v'.ownBlock=v.ownBlock\/v'.ownBlock=some w.heap.size)->K (a.put o.dst v') w'):o.wp P a w K Q:=by
 obtain ⟨v',w',hr,h2,h3,h4,h5⟩:=run_append_own_at (P:=P) w base t o.type e i z size bytes ht hi hz hsize hby hzs hsz v n xs hown ad m c news hl hnews h1 h63 hbytes hbase
 unfold Oper.wp execOp
 simp only [ho,resolve,invoke,builtin,Sem.run_bind,Sem.run_pure,Result.andThen_ok,List.map_toArray,List.map_cons,List.map_nil,hs,hx,hr]
 exact h v' w' h2 h3 h5
theorem cells_newN {w:World} {cs:List Value} {e:TypeId} {j:Nat} {u:Value} (h:cs[j]? = some u):(w.alloc (.cells cs.toArray e)).cell? ((⟨w.heap.size,0,none⟩:Addr).add j)=some u:=by
 rw [Addr.add_lit,Nat.zero_add]
 exact cell_ofA (heap_alloc_new w _) (by simpa using h)
structure MfW (w:World) (B mb:Nat) (m:Mf) (pv nv:Value) (ys:List NdX):Prop where
 cells:w.heap[mb]? = some (.cells #[strV m.name,.int .i64 m.v.ma,.int .i64 m.v.mi,.int .i64 m.v.pa,pv,nv] 104 (0,0))
 pre:Sl w No 9 pv m.v.pre.length (strs m.v.pre)
 nds:ys.map NdX.n=m.needs
 ors:∀ y ∈ ys,OrsAt w y.ov y.n.span.ors
 own:w.ownsRow B 113 4 nv m.needs.length (ys.flatMap NdX.cells)
 few:m.needs.length<=20
theorem MfW.no {w w':World} {B mb:Nat} {m:Mf} {pv nv:Value} {ys:List NdX} (h:MfW w B mb m pv nv ys) (hm:Mod No w w'):MfW w' B mb m pv nv ys :=
 ⟨hm.keep h.cells (fun f=>f),h.pre.kn hm,h.nds,fun y hy=>(h.ors y hy).keep hm (Apart.no _ _),own_keepM h.own hm (fun _ _ f=>f),h.few⟩
theorem own_apartN {B:Nat} {w:World} {e:TypeId} {size:Nat} {v:Value} {n:Nat} {xs:List Value} (h:w.ownsRow B e size v n xs) {ts:List TypeId} (hne:e ∉ ts):Apart ts (fun k=>v.ownBlock=some k) w:=fun k cur fz e2 hk hc hm=>by
 obtain ⟨cur2,h5⟩:=own_heapM h hk
 rw [hc] at h5
 cases h5
 exact hne hm
theorem own_atB {B:Nat} {w:World} {e:TypeId} {size:Nat} {v:Value} {n:Nat} {xs:List Value} (h:w.ownsRow B e size v n xs) {k:Nat} (hk:v.ownBlock=some k):B<=k:=by
 obtain ⟨_,⟨hv,_⟩ | ⟨g',cap,cur,hv,hg,_⟩⟩:=h
 ·rw [hv] at hk;cases hk
 ·rw [hv] at hk;cases hk;exact hg
theorem MfW.stored {w w':World} {B mb:Nat} {m m':Mf} {pv pv' nv:Value} {ys:List NdX} (h:MfW w B mb m pv nv ys) (hmb:mb < B) (hm:Mod (fun k=>k=mb) w w') (hn:m'.needs=m.needs)
  (hc:w'.heap[mb]? = some (.cells #[strV m'.name,.int .i64 m'.v.ma,.int .i64 m'.v.mi,.int .i64 m'.v.pa,pv',nv] 104 (0,0))) (hp:Sl w' No 9 pv' m'.v.pre.length (strs m'.v.pre)):MfW w' B mb m' pv' nv ys:=by
 have hap:Apart [9,255,252] (fun k=>k=mb) w:=fun k cur fz e hk hc2 he=>by
  have hk2:k=mb:=hk
  subst hk2
  rw [h.cells] at hc2
  cases hc2
  simp at he
 exact ⟨hc,hp,by rw [hn];exact h.nds,fun y hy=>(h.ors y hy).keep hm hap,by rw [hn];exact own_keepM h.own hm (fun k hk e=>by have:=own_atB h.own hk;omega),by rw [hn];exact h.few⟩
theorem MfW.want {w w7:World} {B mb:Nat} {m:Mf} {pv nv nv' ov:Value} {n:Nd} {ys:List NdX} (h:MfW w B mb m pv nv ys) (hmb:mb < B) (hno:OrsAt w ov n.span.ors) (hfew:m.needs.length+1<=20)
  (hgr:w.grownBy w7 nv.ownBlock) (hown:w7.ownsRow B 113 4 nv' (m.needs.length+1) (ys.flatMap NdX.cells++NdX.cells ⟨n,ov⟩)) :
  MfW (w7.setCell ⟨mb,5,none⟩ nv') B mb { m with needs:=m.needs++[n] } pv nv' (ys++[⟨n,ov⟩])/\Mod (fun k=>k=mb\/B<=k) w (w7.setCell ⟨mb,5,none⟩ nv'):=by
 have hm7:Mod (fun k=>nv.ownBlock=some k) w w7:=Mod.of_grown hgr (fun k hk _=>hk)
 have hap7:=own_apartN h.own (ts:=[9,255,252]) (by decide)
 have hc7:=hm7.keep h.cells (fun e=>by have:=own_atB h.own e;omega)
 have hm8:Mod (fun k=>k=mb) w7 (w7.setCell ⟨mb,5,none⟩ nv'):=Mod.cell1 _ _ _ _
 have hap8:Apart [9,255,252] (fun k=>k=mb) w7:=fun k cur fz e hk hc2 he=>by
  have hk2:k=mb:=hk
  subst hk2
  rw [hc7] at hc2
  cases hc2
  simp at he
 refine ⟨⟨?_,?_,by simp [h.nds],fun y hy=>?_,?_,by simpa using hfew⟩,?_⟩
 ·rw [heap_setCell hc7 nv'];rfl
 ·exact (h.pre.apart hm7 (hap7.less (by simp))).apart hm8 (hap8.less (by simp))
 ·have hz2:OrsAt w y.ov y.n.span.ors:=by
   rcases List.mem_append.1 hy with hz | hz
   ·exact h.ors y hz
   ·obtain rfl:y=⟨n,ov⟩:=by simpa using hz
    exact hno
  exact (hz2.keep hm7 hap7).keep hm8 hap8
 ·have h9:=own_keepM hown hm8 (fun k hk e=>by have:=own_atB hown hk;omega)
  simpa using h9
 ·exact (hm7.weaken (fun k _ hk=>.inr (own_atB h.own hk))).trans (hm8.weaken (fun k _ hk=>.inl hk))
structure VerOk (v:Ver):Prop where
 ma:0<=v.ma/\v.ma<=999999999
 mi:0<=v.mi/\v.mi<=999999999
 pa:0<=v.pa/\v.pa<=999999999
theorem wrap_small {x:Int} (h:0<=x/\x<=1000000000):wrap64 x=x:=by
 unfold wrap64
 omega
structure N3 (w0 w:World) (gx gy gz:Nat) (x0 x1 x2:Value):Prop where
 hx:w.heap[gx]? = some (.cells #[x0,x1,x2,.slice none 0 0] 45 (0,0))
 hy:w.heap[gy]? = some (.cells #[.int .i64 0,.int .i64 0,.int .i64 0,.slice none 0 0] 45 (0,0))
 hz:w.heap[gz]? = some (.cells #[.pointer (some ⟨gx,0,none⟩),.pointer (some ⟨gx,1,none⟩),.pointer (some ⟨gx,2,none⟩)] 323 (0,0))
 hm:Mod No w0 w
 lt:w0.heap.size<=gx/\gx < gy/\gy < gz
theorem N3.set {w0 w:World} {gx gy gz:Nat} {x0 x1 x2:Value} (h:N3 w0 w gx gy gz x0 x1 x2) (i:Nat) (v:Value) {y0 y1 y2:Value} (hs:(#[x0,x1,x2,.slice none 0 0]:Array Value).setIfInBounds i v=#[y0,y1,y2,.slice none 0 0]):N3 w0 (w.setCell ⟨gx,i,none⟩ v) gx gy gz y0 y1 y2:=by
 obtain ⟨h1,h2,h3⟩:=h.lt
 refine ⟨?_,?_,?_,h.hm.setCell (fun h=>by dsimp only at h;omega) _,h.lt⟩
 ·rw [heap_setCell h.hx,hs]
 ·rw [heap_setCell_ne _ (by dsimp only;omega)];exact h.hy
 ·rw [heap_setCell_ne _ (by dsimp only;omega)];exact h.hz
theorem N3.cells {w0 w:World} {gx gy gz:Nat} {x0 x1 x2:Value} (h:N3 w0 w gx gy gz x0 x1 x2) :
  (w.cell? ⟨gx,0,none⟩=some x0/\w.cell? ⟨gx,1,none⟩=some x1/\w.cell? ⟨gx,2,none⟩=some x2/\w.cell? ⟨gx,3,none⟩=some (.slice none 0 0)) ∧
  (w.frozen? ⟨gx,0,none⟩=false/\w.frozen? ⟨gx,1,none⟩=false/\w.frozen? ⟨gx,2,none⟩=false) ∧
  (w.cell? ⟨gz,0,none⟩=some (.pointer (some ⟨gx,0,none⟩))/\w.cell? ⟨gz,1,none⟩=some (.pointer (some ⟨gx,1,none⟩))/\w.cell? ⟨gz,2,none⟩=some (.pointer (some ⟨gx,2,none⟩))) :=
 ⟨⟨cell_ofA h.hx rfl,cell_ofA h.hx rfl,cell_ofA h.hx rfl,cell_ofA h.hx rfl⟩,⟨frozen_of _ h.hx,frozen_of _ h.hx,frozen_of _ h.hx⟩,cell_ofA h.hz rfl,cell_ofA h.hz rfl,cell_ofA h.hz rfl⟩
set_option maxRecDepth 100000 in
set_option maxHeartbeats 8000000 in
theorem next_any (v:Ver) (pv:Value) (p:Nat) (hp:p < 3) (hv:VerOk v) (w:World) :
  Calls prog 302 #[verV v pv,.int .i64 (p:Int)] w fun e w'=>e=.returned (verV (nextV v p) (.slice none 0 0))/\Mod No w w':=by
 refine calls_hide fun R hR=>?_
 obtain ⟨a,b,c,pre⟩:=v
 obtain ⟨⟨ha0,ha1⟩,⟨hb0,hb1⟩,⟨hc0,hc1⟩⟩:=hv
 dsimp only at ha0 ha1 hb0 hb1 hc0 hc1
 have hwa:=wrap_small (x:=a+1) (by omega)
 have hwb:=wrap_small (x:=b+1) (by omega)
 have hwc:=wrap_small (x:=c+1) (by omega)
 have HNX:=zh (show nextV ⟨a,b,c,pre⟩ p=if p=0 then (if a < 999999999 then ⟨a+1,0,0,[]⟩ else ⟨a,b,c,[]⟩) else if p=1 then (if b < 999999999 then ⟨a,b+1,0,[]⟩ else ⟨a,b,c,[]⟩) else (if c < 999999999 then ⟨a,b,c+1,[]⟩ else ⟨a,b,c,[]⟩) from rfl)
 unfold verV at *
 dsimp only at *
 go_enter func302,ntmps302
 go_upto_region 1 with fail
 obtain ⟨gx,hgx⟩:∃ g,g=w.heap.size:=⟨_,rfl⟩
 obtain ⟨gy,hgy⟩:∃ g,g=gx+1:=⟨_,rfl⟩
 rw [<- hgx,<- hgy]
 obtain ⟨wA,hwA⟩:∃ z,z=(w.alloc (.cells #[.int .i64 a,.int .i64 b,.int .i64 c,pv] 45)).alloc (.cells #[.int .i64 0,.int .i64 0,.int .i64 0,.slice none 0 0] 45):=⟨_,rfl⟩
 have hx1:wA.heap[gx]? = some (.cells #[.int .i64 a,.int .i64 b,.int .i64 c,pv] 45 (0,0)):=by rw [hwA,hgx];exact heap_alloc_old _ (heap_alloc_new w _)
 have hy1:wA.heap[gy]? = some (.cells #[.int .i64 0,.int .i64 0,.int .i64 0,.slice none 0 0] 45 (0,0)):=by
  rw [hwA,hgy,hgx]
  have h1:=heap_alloc_new (w.alloc (.cells #[.int .i64 a,.int .i64 b,.int .i64 c,pv] 45)) (.cells #[.int .i64 0,.int .i64 0,.int .i64 0,.slice none 0 0] 45)
  rw [show (w.alloc (.cells #[.int .i64 a,.int .i64 b,.int .i64 c,pv] 45)).heap.size=w.heap.size+1 by simp] at h1
  exact h1
 have HMA:=zh (show Mod No w wA by rw [hwA];exact ((Mod.refl No w).alloc _).alloc _)
 have HGX:=zh (show w.heap.size<=gx by omega)
 have HGY:=zh (show gx < gy by omega)
 rw [<- hwA]
 have HX1:=zh hx1
 have HY1:=zh hy1
 obtain ⟨⟨a0,a1,a2,a3⟩,f0,f1,f2,f3⟩:=cells4 hx1
 clear hwA hgx hgy hx1 hy1
 go_upto_region 2 with fail
 clear a0 a1 a2 a3 f0 f1 f2 f3
 have HX2:=zh (show (wA.setCell ⟨gx,3,none⟩ (.slice none 0 0)).heap[gx]? = some (.cells #[.int .i64 a,.int .i64 b,.int .i64 c,.slice none 0 0] 45 (0,0)) by rw [heap_setCell HX1.out];rfl)
 have HY2:=zh (show (wA.setCell ⟨gx,3,none⟩ (.slice none 0 0)).heap[gy]? = some (.cells #[.int .i64 0,.int .i64 0,.int .i64 0,.slice none 0 0] 45 (0,0)) by rw [heap_setCell_ne _ (by have:=HGY.out;dsimp only;omega)];exact HY1.out)
 have HM2:=zh (show Mod No w (wA.setCell ⟨gx,3,none⟩ (.slice none 0 0)) from HMA.out.setCell (fun h=>by have:=HGX.out;dsimp only at h;omega) _)
 generalize wA.setCell ⟨gx,3,none⟩ (.slice none 0 0)=wB at *
 clear HX1 HY1 HMA
 go_upto_region 3 with fail
 obtain ⟨gz,hgz⟩:∃ g,g=wB.heap.size:=⟨_,rfl⟩
 rw [<- hgz]
 have HN3:=zh (show N3 w (wB.alloc (.cells #[.pointer (some ⟨gx,0,none⟩),.pointer (some ⟨gx,1,none⟩),.pointer (some ⟨gx,2,none⟩)] 323)) gx gy gz (.int .i64 a) (.int .i64 b) (.int .i64 c) from
  ⟨heap_alloc_old _ HX2.out,heap_alloc_old _ HY2.out,by rw [hgz];exact heap_alloc_new wB _,HM2.out.alloc _,HGX.out,HGY.out,by rw [hgz];exact lt_of_heap HY2.out⟩)
 generalize wB.alloc _=wC at *
 clear HX2 HY2 HM2 hgz
 match p,hp with
 | 0,_ =>
  have hnx:=HNX.out
  rw [if_pos rfl] at hnx
  clear HNX
  obtain ⟨⟨c0,c1,c2,c3⟩,⟨f0,f1,f2⟩,z0,z1,z2⟩:=HN3.out.cells
  by_cases h:a < 999999999
  ·rw [if_pos h] at hnx
   have h':¬ (999999999:Int)<=a:=by omega
   have HN:=zh hnx
   clear hnx
   go_upto_region 8 with fail
   have HD3:=zh (HN3.out.set 0 (.int .i64 (a+1)) (y0:=.int .i64 (a+1)) (y1:=.int .i64 b) (y2:=.int .i64 c) rfl)
   generalize wC.setCell ⟨gx,0,none⟩ (.int .i64 (a+1))=wD at *
   clear HN3 c0 c1 c2 c3 f0 f1 f2 z0 z1 z2 h h'
   go_wp2_with fail
   go_loopw [40] (fun q wr=>(q=.int .i64 0/\N3 w wr gx gy gz (.int .i64 (a+1)) (.int .i64 b) (.int .i64 c))\/(q=.int .i64 1/\N3 w wr gx gy gz (.int .i64 (a+1)) (.int .i64 0) (.int .i64 c))\/(q=.int .i64 2/\N3 w wr gx gy gz (.int .i64 (a+1)) (.int .i64 0) (.int .i64 0))) (fun q _=>2 - (intOf q).toNat)
   case atStart=>exact .inl ⟨rfl,HD3.out⟩
   case round =>
    rcases hrel with ⟨rfl,hj⟩ | ⟨rfl,hj⟩ | ⟨rfl,hj⟩
    ·obtain ⟨⟨c0,c1,c2,c3⟩,⟨f0,f1,f2⟩,z0,z1,z2⟩:=hj.cells
     have HJ:=zh (hj.set 1 (.int .i64 0) (y0:=.int .i64 (a+1)) (y1:=.int .i64 0) (y2:=.int .i64 c) rfl)
     clear hj
     go_wp2_with fail
     exact ⟨.inr (.inl ⟨rfl,HJ.out⟩),by show 2 - ((0:Int)+1).toNat < 2 - (0:Int).toNat;decide⟩
    ·obtain ⟨⟨c0,c1,c2,c3⟩,⟨f0,f1,f2⟩,z0,z1,z2⟩:=hj.cells
     have HJ:=zh (hj.set 2 (.int .i64 0) (y0:=.int .i64 (a+1)) (y1:=.int .i64 0) (y2:=.int .i64 0) rfl)
     clear hj
     go_wp2_with fail
     exact ⟨.inr (.inr (⟨rfl,HJ.out⟩)),by show 2 - ((1:Int)+1).toNat < 2 - (1:Int).toNat;decide⟩
    ·have HE3:=zh hj
     clear hj
     obtain ⟨⟨c0,c1,c2,c3⟩,-,-⟩:=HE3.out.cells
     obtain ⟨⟨d0,d1,d2,d3⟩,g0,g1,g2,g3⟩:=cells4 HE3.out.hy
     go_wp2_with fail
     have hl:=load_ver (set4 HE3.out.hy (.int .i64 (a+1)) (.int .i64 0) (.int .i64 0) (.slice none 0 0))
     have HMz:=zh (HE3.out.hm.set4 (b:=gy) (fun h=>by have:=HE3.out.lt;omega) (.int .i64 (a+1)) (.int .i64 0) (.int .i64 0) (.slice none 0 0))
     exact bodyPost_ret (v:=.agg #[.int .i64 (a+1),.int .i64 0,.int .i64 0,.slice none 0 0]) (by simp [results,results302,asAddr,hl]) rfl (fin hR ⟨by rw [HN.out],HMz.out⟩)
  ·rw [if_neg h] at hnx
   have h':(999999999:Int)<=a:=by omega
   have HN:=zh hnx
   have HE3:=HN3
   clear hnx HN3 c0 c1 c2 c3 f0 f1 f2
   obtain ⟨⟨c0,c1,c2,c3⟩,-,-⟩:=HE3.out.cells
   obtain ⟨⟨d0,d1,d2,d3⟩,g0,g1,g2,g3⟩:=cells4 HE3.out.hy
   go_wp2_with fail
   have hl:=load_ver (set4 HE3.out.hy (.int .i64 a) (.int .i64 b) (.int .i64 c) (.slice none 0 0))
   have HMz:=zh (HE3.out.hm.set4 (b:=gy) (fun h=>by have:=HE3.out.lt;omega) (.int .i64 a) (.int .i64 b) (.int .i64 c) (.slice none 0 0))
   exact bodyPost_ret (v:=.agg #[.int .i64 a,.int .i64 b,.int .i64 c,.slice none 0 0]) (by simp [results,results302,asAddr,hl]) rfl (fin hR ⟨by rw [HN.out],HMz.out⟩)
 | 1,_ =>
  have hnx:=HNX.out
  rw [if_neg (by decide),if_pos rfl] at hnx
  clear HNX
  obtain ⟨⟨c0,c1,c2,c3⟩,⟨f0,f1,f2⟩,z0,z1,z2⟩:=HN3.out.cells
  by_cases h:b < 999999999
  ·rw [if_pos h] at hnx
   have h':¬ (999999999:Int)<=b:=by omega
   have HN:=zh hnx
   clear hnx
   go_upto_region 8 with fail
   have HD3:=zh (HN3.out.set 1 (.int .i64 (b+1)) (y0:=.int .i64 a) (y1:=.int .i64 (b+1)) (y2:=.int .i64 c) rfl)
   generalize wC.setCell ⟨gx,1,none⟩ (.int .i64 (b+1))=wD at *
   clear HN3 c0 c1 c2 c3 f0 f1 f2 z0 z1 z2 h h'
   go_wp2_with fail
   go_loopw [40] (fun q wr=>(q=.int .i64 0/\N3 w wr gx gy gz (.int .i64 a) (.int .i64 (b+1)) (.int .i64 c))\/(q=.int .i64 1/\N3 w wr gx gy gz (.int .i64 a) (.int .i64 (b+1)) (.int .i64 0))) (fun q _=>1 - (intOf q).toNat)
   case atStart=>exact .inl ⟨rfl,HD3.out⟩
   case round =>
    rcases hrel with ⟨rfl,hj⟩ | ⟨rfl,hj⟩
    ·obtain ⟨⟨c0,c1,c2,c3⟩,⟨f0,f1,f2⟩,z0,z1,z2⟩:=hj.cells
     have HJ:=zh (hj.set 2 (.int .i64 0) (y0:=.int .i64 a) (y1:=.int .i64 (b+1)) (y2:=.int .i64 0) rfl)
     clear hj
     go_wp2_with fail
     exact ⟨.inr (⟨rfl,HJ.out⟩),by show 1 - ((0:Int)+1).toNat < 1 - (0:Int).toNat;decide⟩
    ·have HE3:=zh hj
     clear hj
     obtain ⟨⟨c0,c1,c2,c3⟩,-,-⟩:=HE3.out.cells
     obtain ⟨⟨d0,d1,d2,d3⟩,g0,g1,g2,g3⟩:=cells4 HE3.out.hy
     go_wp2_with fail
     have hl:=load_ver (set4 HE3.out.hy (.int .i64 a) (.int .i64 (b+1)) (.int .i64 0) (.slice none 0 0))
     have HMz:=zh (HE3.out.hm.set4 (b:=gy) (fun h=>by have:=HE3.out.lt;omega) (.int .i64 a) (.int .i64 (b+1)) (.int .i64 0) (.slice none 0 0))
     exact bodyPost_ret (v:=.agg #[.int .i64 a,.int .i64 (b+1),.int .i64 0,.slice none 0 0]) (by simp [results,results302,asAddr,hl]) rfl (fin hR ⟨by rw [HN.out],HMz.out⟩)
  ·rw [if_neg h] at hnx
   have h':(999999999:Int)<=b:=by omega
   have HN:=zh hnx
   have HE3:=HN3
   clear hnx HN3 c0 c1 c2 c3 f0 f1 f2
   obtain ⟨⟨c0,c1,c2,c3⟩,-,-⟩:=HE3.out.cells
   obtain ⟨⟨d0,d1,d2,d3⟩,g0,g1,g2,g3⟩:=cells4 HE3.out.hy
   go_wp2_with fail
   have hl:=load_ver (set4 HE3.out.hy (.int .i64 a) (.int .i64 b) (.int .i64 c) (.slice none 0 0))
   have HMz:=zh (HE3.out.hm.set4 (b:=gy) (fun h=>by have:=HE3.out.lt;omega) (.int .i64 a) (.int .i64 b) (.int .i64 c) (.slice none 0 0))
   exact bodyPost_ret (v:=.agg #[.int .i64 a,.int .i64 b,.int .i64 c,.slice none 0 0]) (by simp [results,results302,asAddr,hl]) rfl (fin hR ⟨by rw [HN.out],HMz.out⟩)
 | 2,_ =>
  have hnx:=HNX.out
  rw [if_neg (by decide),if_neg (by decide)] at hnx
  clear HNX
  obtain ⟨⟨c0,c1,c2,c3⟩,⟨f0,f1,f2⟩,z0,z1,z2⟩:=HN3.out.cells
  by_cases h:c < 999999999
  ·rw [if_pos h] at hnx
   have h':¬ (999999999:Int)<=c:=by omega
   have HN:=zh hnx
   clear hnx
   go_upto_region 8 with fail
   have HD3:=zh (HN3.out.set 2 (.int .i64 (c+1)) (y0:=.int .i64 a) (y1:=.int .i64 b) (y2:=.int .i64 (c+1)) rfl)
   generalize wC.setCell ⟨gx,2,none⟩ (.int .i64 (c+1))=wD at *
   clear HN3 c0 c1 c2 c3 f0 f1 f2 z0 z1 z2 h h'
   go_wp2_with fail
   go_loopw [40] (fun q wr=>(q=.int .i64 0/\N3 w wr gx gy gz (.int .i64 a) (.int .i64 b) (.int .i64 (c+1)))) (fun q _=>0 - (intOf q).toNat)
   case atStart=>exact ⟨rfl,HD3.out⟩
   case round =>
    obtain ⟨rfl,hj⟩:=hrel
    have HE3:=zh hj
    clear hj
    obtain ⟨⟨c0,c1,c2,c3⟩,-,-⟩:=HE3.out.cells
    obtain ⟨⟨d0,d1,d2,d3⟩,g0,g1,g2,g3⟩:=cells4 HE3.out.hy
    go_wp2_with fail
    have hl:=load_ver (set4 HE3.out.hy (.int .i64 a) (.int .i64 b) (.int .i64 (c+1)) (.slice none 0 0))
    have HMz:=zh (HE3.out.hm.set4 (b:=gy) (fun h=>by have:=HE3.out.lt;omega) (.int .i64 a) (.int .i64 b) (.int .i64 (c+1)) (.slice none 0 0))
    exact bodyPost_ret (v:=.agg #[.int .i64 a,.int .i64 b,.int .i64 (c+1),.slice none 0 0]) (by simp [results,results302,asAddr,hl]) rfl (fin hR ⟨by rw [HN.out],HMz.out⟩)
  ·rw [if_neg h] at hnx
   have h':(999999999:Int)<=c:=by omega
   have HN:=zh hnx
   have HE3:=HN3
   clear hnx HN3 c0 c1 c2 c3 f0 f1 f2
   obtain ⟨⟨c0,c1,c2,c3⟩,-,-⟩:=HE3.out.cells
   obtain ⟨⟨d0,d1,d2,d3⟩,g0,g1,g2,g3⟩:=cells4 HE3.out.hy
   go_wp2_with fail
   have hl:=load_ver (set4 HE3.out.hy (.int .i64 a) (.int .i64 b) (.int .i64 c) (.slice none 0 0))
   have HMz:=zh (HE3.out.hm.set4 (b:=gy) (fun h=>by have:=HE3.out.lt;omega) (.int .i64 a) (.int .i64 b) (.int .i64 c) (.slice none 0 0))
   exact bodyPost_ret (v:=.agg #[.int .i64 a,.int .i64 b,.int .i64 c,.slice none 0 0]) (by simp [results,results302,asAddr,hl]) rfl (fin hR ⟨by rw [HN.out],HMz.out⟩)
abbrev failV (n:Int):Value:=.iface 189 (.agg #[.int .i64 n])
set_option maxRecDepth 100000 in
set_option maxHeartbeats 1000000 in
theorem lstop_idle (p q r:Nat) (w:World) :
  CallsD prog 103 #[.pointer (some ⟨p,0,none⟩),.pointer (some ⟨q,0,none⟩),.pointer (some ⟨r,0,none⟩)] .returning w fun e u' w'=>e=.returned (.tuple #[])/\u'=.returning/\w'=w:=by
 refine callsD_of_wpS func103 rfl fun c₀ cs hu=>?_
 apply wpS_seq
 apply wpS_region
 simp [wpOpsS,go_sem,recoverD,hu,ntmps103,Exit.thenS]
 refine wpS_of_wp ?_
 refine wp_mono (Q:=Exit.then (fun a' w'=>a'.defers=[]/\w'=w) Nope) ?_ ?_
 ·refine wp_part fun J K' hJ hK=>?_
  go_wp2_with fail
  exact Met.intro (hJ _ _ ⟨rfl,rfl⟩)
 ·rintro e a' w' hq
  cases e with
  | normal =>
   obtain ⟨hd,rfl⟩:=hq
   cases c₀
   simp_all [bodyPostS,results,results103]
  | exit id=>exact hq.elim
  | goto l=>exact hq.elim
  | ret=>exact hq.elim
  | panic ch=>exact hq.elim
  | outgrown=>exact hq.elim
theorem assert_fail (w:World) (v:Value):(Instr.typeAssert (.iface 189 v) 20 189 true).run prog w=.ok (.tuple #[v,.bool true]) w:=by kernel_rfl
set_option maxRecDepth 100000 in
set_option maxHeartbeats 4000000 in
theorem lstop_caught (p q r:Nat) (n x:Int) (v:Value) (y:Int) (w:World) (hp:w.heap[p]? = some (.cells #[v] 42 (0,0))) (hq:w.heap[q]? = some (.cells #[.int .i64 x] 3 (0,0))) (hr:w.heap[r]? = some (.cells #[.int .i64 y] 26 (0,0))) :
  CallsD prog 103 #[.pointer (some ⟨p,0,none⟩),.pointer (some ⟨q,0,none⟩),.pointer (some ⟨r,0,none⟩)] (.panicking [{ v:=failV n,recovered:=false }]) w fun e u' w' =>
   e=.returned (.tuple #[])/\u'=.panicking [{ v:=failV n,recovered:=true }]/\w'.heap[p]? = some (.cells #[.slice none 0 0] 42 (0,0))/\w'.heap[q]? = some (.cells #[.int .i64 n] 3 (0,0))/\w'.heap[r]? = some (.cells #[.int .i64 63] 26 (0,0))/\Mod (fun k=>k=p\/k=q\/k=r) w w':=by
 refine callsD_of_wpS func103 rfl fun c₀ cs hu=>?_
 apply wpS_seq
 apply wpS_region
 simp [wpOpsS,go_sem,recoverD,hu,ntmps103,Exit.thenS]
 refine wpS_of_wp ?_
 refine wp_mono (Q:=Exit.then (fun a' w'=>a'.defers=[]/\w'.heap[p]? = some (.cells #[.slice none 0 0] 42 (0,0))/\w'.heap[q]? = some (.cells #[.int .i64 n] 3 (0,0))/\w'.heap[r]? = some (.cells #[.int .i64 63] 26 (0,0))/\Mod (fun k=>k=p\/k=q\/k=r) w w') Nope) ?_ ?_
 ·refine wp_part fun J K' hJ hK=>?_
  have has:=assert_fail
  have hpq:p ≠ q:=fun e=>by subst e;rw [hp] at hq;simp at hq
  have hpr:p ≠ r:=fun e=>by subst e;rw [hp] at hr;simp at hr
  have hqr:q ≠ r:=fun e=>by subst e;rw [hq] at hr;simp at hr
  have hpl:=lt_of_heap hp
  have hql:=lt_of_heap hq
  have hrl:=lt_of_heap hr
  obtain ⟨fb,hfb⟩:∃ f,f=w.heap.size:=⟨_,rfl⟩
  obtain ⟨w1,hw1⟩:∃ w1,w1=w.alloc (.cells #[.int .i64 n] 189):=⟨_,rfl⟩
  have m1:Mod No w w1:=by rw [hw1];exact (Mod.refl No w).alloc _
  have hf1:w1.heap[fb]? = some (.cells #[.int .i64 n] 189 (0,0)):=by rw [hw1,hfb];exact heap_alloc_new w _
  have HW1:=zh hw1
  have HFB:=zh hfb
  have HP0:=zh hp
  have HQ0:=zh hq
  have HR0:=zh hr
  have HM1:=zh m1
  have HF1:=zh hf1
  have HNE:=zh (show fb ≠ p/\fb ≠ q/\fb ≠ r by omega)
  have HNP:=zh (And.intro hpq (And.intro hpr hqr))
  clear hw1 hfb hp hq hr m1 hf1 hpq hpr hqr hpl hql hrl
  simp only [Array.replicate_succ,Array.replicate_zero]
  go_upto_region 5 with fail
  rw [<- HW1.out,<- HFB.out]
  obtain ⟨wD,hwD⟩:∃ y,y=w1.drew:=⟨_,rfl⟩
  have hmD:Mod No w wD:=by rw [hwD];exact HM1.out.drew
  have hfD:wD.heap[fb]? = some (.cells #[.int .i64 n] 189 (0,0)):=by rw [hwD];exact HF1.out
  have hpD:=hmD.keep HP0.out (fun f=>f)
  have hqD:=hmD.keep HQ0.out (fun f=>f)
  have hrD:=hmD.keep HR0.out (fun f=>f)
  have mA:Mod (fun k=>k=p) wD (wD.setCell ⟨p,0,none⟩ (.slice none 0 0)):=(Mod.refl (fun k=>k=p) wD).setCell (fun _=>rfl) _
  have hqA:=mA.keep hqD (fun e=>HNP.out.1 e.symm)
  have hrA:=mA.keep hrD (fun e=>HNP.out.2.1 e.symm)
  have hfA:=mA.keep hfD (fun e=>HNE.out.1 e)
  have hpA:=heap_setCell hpD (i:=0) (.slice none 0 0)
  have mB:Mod (fun k=>k=q) (wD.setCell ⟨p,0,none⟩ (.slice none 0 0)) ((wD.setCell ⟨p,0,none⟩ (.slice none 0 0)).setCell ⟨q,0,none⟩ (.int .i64 n)):=(Mod.refl (fun k=>k=q) _).setCell (fun _=>rfl) _
  have hrB:=mB.keep hrA (fun e=>HNP.out.2.2 e.symm)
  have hfB:=mB.keep hfA (fun e=>HNE.out.2.1 e)
  have hpB:=mB.keep hpA (fun e=>HNP.out.1 e)
  have hqB:=heap_setCell hqA (i:=0) (.int .i64 n)
  have mC:Mod (fun k=>k=r) ((wD.setCell ⟨p,0,none⟩ (.slice none 0 0)).setCell ⟨q,0,none⟩ (.int .i64 n)) (((wD.setCell ⟨p,0,none⟩ (.slice none 0 0)).setCell ⟨q,0,none⟩ (.int .i64 n)).setCell ⟨r,0,none⟩ (.int .i64 63)):=(Mod.refl (fun k=>k=r) _).setCell (fun _=>rfl) _
  have hfC:=mC.keep hfB (fun e=>HNE.out.2.2 e)
  have hpC:=mC.keep hpB (fun e=>HNP.out.2.1 e)
  have hqC:=mC.keep hqB (fun e=>HNP.out.2.2 e)
  have hrC:=heap_setCell hrB (i:=0) (.int .i64 63)
  have HE:=zh (show (((wD.setCell ⟨p,0,none⟩ (.slice none 0 0)).setCell ⟨q,0,none⟩ (.int .i64 n)).setCell ⟨r,0,none⟩ (.int .i64 63)).heap[p]? = some (.cells #[.slice none 0 0] 42 (0,0))/\(((wD.setCell ⟨p,0,none⟩ (.slice none 0 0)).setCell ⟨q,0,none⟩ (.int .i64 n)).setCell ⟨r,0,none⟩ (.int .i64 63)).heap[q]? = some (.cells #[.int .i64 n] 3 (0,0))/\(((wD.setCell ⟨p,0,none⟩ (.slice none 0 0)).setCell ⟨q,0,none⟩ (.int .i64 n)).setCell ⟨r,0,none⟩ (.int .i64 63)).heap[r]? = some (.cells #[.int .i64 63] 26 (0,0))/\Mod (fun k=>k=p\/k=q\/k=r) w (((wD.setCell ⟨p,0,none⟩ (.slice none 0 0)).setCell ⟨q,0,none⟩ (.int .i64 n)).setCell ⟨r,0,none⟩ (.int .i64 63)) from
   ⟨hpC,hqC,hrC,(((hmD.weaken (fun _ _ f=>f.elim)).trans (mA.weaken (fun _ _ e=>.inl e))).trans (mB.weaken (fun _ _ e=>.inr (.inl e)))).trans (mC.weaken (fun _ _ e=>.inr (.inr e)))⟩)
  have HP1:=zh (And.intro (show wD.cell? ⟨p,0,none⟩=some v from cell_ofA hpD rfl) (frozen_of 0 hpD))
  have HQ1:=zh (And.intro (show (wD.setCell ⟨p,0,none⟩ (.slice none 0 0)).cell? ⟨q,0,none⟩=some (.int .i64 x) from cell_ofA hqA rfl) (frozen_of 0 hqA))
  have HR1:=zh (And.intro (show ((wD.setCell ⟨p,0,none⟩ (.slice none 0 0)).setCell ⟨q,0,none⟩ (.int .i64 n)).cell? ⟨r,0,none⟩=some (.int .i64 y) from cell_ofA hrB rfl) (frozen_of 0 hrB))
  have hS0:wD.cell? ⟨fb,0,none⟩=some (.int .i64 n):=cell_ofA hfD rfl
  have HSB:=zh (show (wD.setCell ⟨p,0,none⟩ (.slice none 0 0)).cell? ⟨fb,0,none⟩=some (.int .i64 n) from cell_ofA hfA rfl)
  have HSC:=zh (show ((wD.setCell ⟨p,0,none⟩ (.slice none 0 0)).setCell ⟨q,0,none⟩ (.int .i64 n)).cell? ⟨fb,0,none⟩=some (.int .i64 n) from cell_ofA hfB rfl)
  have HSD:=zh (show (((wD.setCell ⟨p,0,none⟩ (.slice none 0 0)).setCell ⟨q,0,none⟩ (.int .i64 n)).setCell ⟨r,0,none⟩ (.int .i64 63)).cell? ⟨fb,0,none⟩=some (.int .i64 n) from cell_ofA hfC rfl)
  have HWD:=zh hwD
  clear hwD hmD hfD hpD hqD hrD mA hqA hrA hfA hpA mB hrB hfB hpB hqB mC hfC hpC hqC hrC has
  refine wp_region_T (fun w'=>w'.cell? ⟨fb,0,none⟩=some (.int .i64 n)) 99 (by kernel_rfl) ?_
  rw [<- HWD.out]
  refine yS 0 17 hS0 ?_
  refine yT 1 (some 18) (.int .i64 n) hS0 ?_ ?_
  ·(intro w' hSw;have q0:=hSw;go_simp;try with_reducible rfl)
  simp only [Act.put,yB,yC,yD]
  refine wpAnyT_one 2 rfl (by kernel_rfl) rfl ?_
  intro K hK
  have k1:=HP1.out.1
  have k2:=HP1.out.2
  go_simp
  clear k1 k2
  show K _ _
  have hS1:=HSB.out
  refine hK.out _ _ (fun _=>hS1) ?_
  clear hK K
  refine wpAnyT_one 3 rfl (by kernel_rfl) rfl ?_
  intro K hK
  have k1:=HQ1.out.1
  have k2:=HQ1.out.2
  go_simp
  clear k1 k2
  show K _ _
  have hS2:=HSC.out
  refine hK.out _ _ (fun _=>hS2) ?_
  clear hK K
  refine wpAnyT_one 4 rfl (by kernel_rfl) rfl ?_
  intro K hK
  have k1:=HR1.out.1
  have k2:=HR1.out.2
  go_simp
  clear k1 k2
  show K _ _
  have hS3:=HSD.out
  refine hK.out _ _ (fun _=>hS3) ?_
  clear hK K
  refine wpAnyT_done (by kernel_rfl) ?_ _
  exact hK _ _ (Met.intro (hJ _ _ ⟨rfl,HE.out.1,HE.out.2.1,HE.out.2.2.1,HE.out.2.2.2⟩))
 ·rintro e a' w' hq
  cases e with
  | normal =>
   obtain ⟨hd,h1,h2,h3,h4⟩:=hq
   cases c₀
   simp_all [bodyPostS,results,results103]
  | exit id=>exact hq.elim
  | goto l=>exact hq.elim
  | ret=>exact hq.elim
  | panic ch=>exact hq.elim
  | outgrown=>exact hq.elim
end Go.Proofs.YtmppeipgjcjdkaaGreatDoor
