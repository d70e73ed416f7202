/-
  Layers 0 to 14: helps of the laws of indexes. No statement is proved here; no condition.
-/
import Derived.Test.YtgiigemfbebcgaaGreatDoorU02
import Derived.Deep.MidRow
namespace Go.Proofs.YtgiigemfbebcgaaGreatDoor
open _root_.Go.Proofs.Tryz
open Go.RowKit
structure Ver where
 ma:Int
 mi:Int
 pa:Int
 pre:List (List UInt8)
deriving DecidableEq
abbrev verV (v:Ver) (pv:Value):Value:=.agg #[.int .i64 v.ma,.int .i64 v.mi,.int .i64 v.pa,pv]
def preOf (l:List UInt8):List (List UInt8):=if 45 ∈ l then splitC 46 (tailC 45 l) else []
def preOk (l:List UInt8):Bool:=decide (45 ∉ l) || (decide ((preOf l).length<=5) && (preOf l).all markB)
def verOf (l:List UInt8):Option Ver :=
 match splitC 46 (headC 45 l) with
 | [a,b,c]=>if numB a && numB b && numB c && preOk l then some ⟨decV a,decV b,decV c,preOf l⟩ else none
 | _=>none
theorem verOf_len {l:List UInt8} (h:(splitC 46 (headC 45 l)).length ≠ 3):verOf l=none:=by
 unfold verOf
 match hs:splitC 46 (headC 45 l),h with
 | [],_=>rfl
 | [_],_=>rfl
 | [_,_],_=>rfl
 | [_,_,_],h=>exact absurd rfl h
 | _ :: _ :: _ :: _ :: _,_=>rfl
theorem verOf_three {l a b c:List UInt8} (h:splitC 46 (headC 45 l)=[a,b,c]):verOf l=if numB a && numB b && numB c && preOk l then some ⟨decV a,decV b,decV c,preOf l⟩ else none:=by
 unfold verOf
 rw [h]
theorem headC_le (c:UInt8) (l:List UInt8):(headC c l).length<=l.length:=List.takeWhile_sublist _ |>.length_le
theorem tailC_le (c:UInt8) (l:List UInt8):(tailC c l).length<=l.length:=by unfold tailC;rw [List.length_drop];omega
def allO {α β:Type} (f:α->Option β):List α->Option (List β)
 | []=>some []
 | x :: l=>match f x,allO f l with
  | some y,some ys=>some (y :: ys)
  | _,_=>none
theorem allO_append {α β:Type} (f:α->Option β):∀ (a b:List α),allO f (a++b)=match allO f a,allO f b with | some x,some y=>some (x++y) | _,_=>none
 | [],b=>by
  show allO f b=_
  cases allO f b <;> rfl
 | x :: a,b=>by
  show allO f (x :: (a++b))=_
  rw [allO,allO_append f a b,allO]
  cases f x <;> cases allO f a <;> cases allO f b <;> rfl
theorem allO_take {α β:Type} {f:α->Option β} {l:List α} {k:Nat} (hk:k < l.length) {ys:List β} {y:β} (h:allO f (l.take k)=some ys) (hy:f l[k]=some y):allO f (l.take (k+1))=some (ys++[y]):=by
 rw [List.take_succ_eq_append_getElem hk,allO_append,h]
 simp [allO,hy]
theorem allO_fail {α β:Type} {f:α->Option β} {l:List α} {k:Nat} (hk:k < l.length) (hy:f l[k]=none):allO f l=none:=by
 rw [<- List.take_append_drop k l,List.drop_eq_getElem_cons hk,allO_append]
 have h2:allO f (l[k] :: l.drop (k+1))=none:=by rw [allO,hy]
 rw [h2]
 cases allO f (l.take k) <;> rfl
theorem allO_length {α β:Type} {f:α->Option β}:∀ {l:List α} {ys:List β},allO f l=some ys->ys.length=l.length
 | [],ys,h=>by simp [allO] at h;simp [h]
 | x :: l,ys,h=>by
  rw [allO] at h
  cases hx:f x with
  | none=>rw [hx] at h;simp at h
  | some y =>
   cases hl:allO f l with
   | none=>rw [hx,hl] at h;simp at h
   | some zs =>
    rw [hx,hl] at h
    simp at h
    subst h
    simp [allO_length hl]
structure Bnd where
 sign:List UInt8
 v:Ver
deriving DecidableEq
structure Spn where
 any:Bool
 ors:List (List Bnd)
deriving DecidableEq
structure Nd where
 name:List UInt8
 span:Spn
 text:List UInt8
deriving DecidableEq
structure Rw where
 name:List UInt8
 v:Ver
 sum:List UInt8
 size:Int
 needs:List Nd
deriving DecidableEq
def nextV (v:Ver) (p:Nat):Ver :=
 if p=0 then (if v.ma < 999999999 then ⟨v.ma+1,0,0,[]⟩ else ⟨v.ma,v.mi,v.pa,[]⟩)
 else if p=1 then (if v.mi < 999999999 then ⟨v.ma,v.mi+1,0,[]⟩ else ⟨v.ma,v.mi,v.pa,[]⟩)
 else (if v.pa < 999999999 then ⟨v.ma,v.mi,v.pa+1,[]⟩ else ⟨v.ma,v.mi,v.pa,[]⟩)
def signL (w:List UInt8):List UInt8 :=
 if w.take 2=[60,61]\/w.take 2=[62,61] then w.take 2
 else if w.take 1=[60]\/w.take 1=[62]\/w.take 1=[61]\/w.take 1=[94]\/w.take 1=[126] then w.take 1
 else []
def boundsV (sg:List UInt8) (v:Ver):List Bnd :=
 if sg=[] then [⟨[61],v⟩]
 else if sg=[94] then [⟨[62,61],v⟩,⟨[60],nextV v (if 0 < v.ma then 0 else if 0 < v.mi then 1 else 2)⟩]
 else if sg=[126] then [⟨[62,61],v⟩,⟨[60],nextV v 1⟩]
 else [⟨sg,v⟩]
def boundsL (w:List UInt8):Option (List Bnd):=(verOf (w.drop (signL w).length)).map (boundsV (signL w))
def wordsL (l:List UInt8):List (List UInt8):=(splitC 32 l).filter (fun x=>!x.isEmpty)
def splitO:List UInt8->List (List UInt8)
 | []=>[[]]
 | [c]=>[[c]]
 | c :: d :: l=>if c=124/\d=124 then [] :: splitO l else match splitO (d :: l) with
  | []=>[[c]]
  | p :: r=>(c :: p) :: r
def listL (x:List UInt8):Option (List Bnd):=if wordsL x=[]\/8 < (wordsL x).length then none else (allO boundsL (wordsL x)).map List.flatten
def spanL (l:List UInt8):Option Spn:=if wordsL l=[[42]] then some ⟨true,[]⟩ else if 8 < (splitO l).length then none else (allO listL (splitO l)).map (fun o=>⟨false,o⟩)
def smallB (c:UInt8):Bool:=decide (97<=c.toNat) && decide (c.toNat<=122)
def nameC (c:UInt8):Bool:=smallB c || dig c || decide (c.toNat=45)
def nameB (l:List UInt8):Bool:=!l.isEmpty && decide (l.length<=32) && (l.head?.any smallB) && l.all nameC
def linesL (l:List UInt8):List (List UInt8):=if (splitC 10 l).getLast? = some [] then (splitC 10 l).dropLast else splitC 10 l
def silentB (l:List UInt8):Bool:=l.isEmpty || decide (l.head? = some 35)
def needL (l:List UInt8):Option Nd:=if 32 ∈ l/\nameB (headC 32 l)=true then (spanL (tailC 32 l)).map (fun s=>⟨headC 32 l,s,tailC 32 l⟩) else none
def sizeL (l:List UInt8):Option Int:=if digitsB l=true/\l.length<=9/\decV l<=262144 then some (decV l:Int) else none
def cmpN (a b:Int):Int:=if a < b then -1 else if b < a then 1 else 0
def cmpL (a b:List UInt8):Int:=if a < b then -1 else if b < a then 1 else 0
def orI:List Int->Int
 | []=>0
 | x :: l=>if x=0 then orI l else x
def markC (a b:List UInt8):Int :=
 if digitsB a && digitsB b then orI [cmpN a.length b.length,cmpL a b] else if digitsB a then -1 else if digitsB b then 1 else cmpL a b
def preC:List (List UInt8)->List (List UInt8)->Int
 | [],[]=>0
 | [],_ :: _=>-1
 | _ :: _,[]=>1
 | x :: a,y :: b=>if markC x y=0 then preC a b else markC x y
def verC (a b:Ver):Int :=
 if orI [cmpN a.ma b.ma,cmpN a.mi b.mi,cmpN a.pa b.pa]=0 then
  if a.pre=[]\/b.pre=[] then cmpN b.pre.length a.pre.length else preC a.pre b.pre
 else orI [cmpN a.ma b.ma,cmpN a.mi b.mi,cmpN a.pa b.pa]
theorem preC_drop {a b:List (List UInt8)} (k:Nat) (ha:k<=a.length) (hb:k<=b.length) (h:∀ i (h1:i < a.length) (h2:i < b.length),i < k->markC a[i] b[i]=0):preC a b=preC (a.drop k) (b.drop k):=by
 induction k with
 | zero=>simp
 | succ k ih =>
  rw [ih (by omega) (by omega) (fun i h1 h2 h3=>h i h1 h2 (by omega)),List.drop_eq_getElem_cons (i:=k) (by omega),List.drop_eq_getElem_cons (l:=b) (i:=k) (by omega)]
  show (if markC a[k] b[k]=0 then _ else _)=_
  rw [if_pos (h k (by omega) (by omega) (by omega))]
theorem preC_hit {a b:List (List UInt8)} {k:Nat} (ha:k < a.length) (hb:k < b.length) (h:∀ i (h1:i < a.length) (h2:i < b.length),i < k->markC a[i] b[i]=0) (hk:markC a[k] b[k] ≠ 0):preC a b=markC a[k] b[k]:=by
 rw [preC_drop k (by omega) (by omega) h,List.drop_eq_getElem_cons ha,List.drop_eq_getElem_cons hb]
 show (if markC a[k] b[k]=0 then _ else _)=_
 rw [if_neg hk]
theorem preC_nil (a b:List (List UInt8)) (h:a=[]\/b=[]):preC a b=cmpN a.length b.length:=by
 rcases a with _ | ⟨x,a⟩ <;> rcases b with _ | ⟨y,b⟩
 ·rfl
 ·show (-1:Int)=_
  unfold cmpN
  rw [if_pos (by simp only [List.length_nil,List.length_cons];omega)]
 ·show (1:Int)=_
  unfold cmpN
  rw [if_neg (by simp only [List.length_nil,List.length_cons];omega),if_pos (by simp only [List.length_nil,List.length_cons];omega)]
 ·rcases h with h | h <;> cases h
theorem preC_end {a b:List (List UInt8)} {k:Nat} (ha:k<=a.length) (hb:k<=b.length) (he:k=a.length\/k=b.length) (h:∀ i (h1:i < a.length) (h2:i < b.length),i < k->markC a[i] b[i]=0):preC a b=cmpN a.length b.length:=by
 rw [preC_drop k ha hb h,preC_nil _ _ (he.imp (fun h=>List.drop_eq_nil_of_le (by omega)) (fun h=>List.drop_eq_nil_of_le (by omega)))]
 unfold cmpN
 simp only [List.length_drop]
 by_cases h1:a.length < b.length
 ·rw [if_pos (by omega),if_pos (by omega)]
 ·by_cases h2:b.length < a.length
  ·rw [if_neg (by omega),if_pos (by omega),if_neg (by omega),if_pos (by omega)]
  ·rw [if_neg (by omega),if_neg (by omega),if_neg (by omega),if_neg (by omega)]
theorem orI_three (x y z:Int):orI [x,y,z]=if x=0 then (if y=0 then z else y) else x:=by
 unfold orI orI orI orI
 by_cases h:z=0 <;> simp [h]
theorem orI_two (x y:Int):orI [x,y]=if x=0 then y else x:=by
 unfold orI orI orI
 by_cases h:y=0 <;> simp [h]
theorem cmpN_zero {a b:Int}:cmpN a b=0 ↔ a=b:=by
 unfold cmpN
 split
 ·constructor <;> intro h <;> omega
 ·split
  ·constructor <;> intro h <;> omega
  ·constructor <;> intro h <;> omega
theorem Sl.block {X:Nat->Prop} {w:World} {e:TypeId} {b o n c:Nat} {xs:List Value} (h:Sl w X e (.slice (some ⟨b,o,none⟩) n c) n xs):∃ cur fz,w.heap[b]? = some (.cells cur e fz):=by
 rcases h with ⟨h,_⟩ | ⟨blk,o',c0,cur,fz,hv,hn,hc,hX,hh,hl,hr⟩
 ·cases h
 ·cases hv;exact ⟨cur,fz,hh⟩
theorem Mod.cell1 (w:World) (b i:Nat) (v:Value):Mod (fun p=>p=b) w (w.setCell ⟨b,i,none⟩ v):=Mod.setCell (S:=fun p=>p=b) (p:=⟨b,i,none⟩) (Mod.refl _ w) (fun _=>rfl) v
theorem Mod.no {S:Nat->Prop} {w w':World} (h:Mod No w w'):Mod S w w':=h.weaken (fun _ _ f=>f.elim)
theorem cells4 {w:World} {b:Nat} {v0 v1 v2 v3:Value} {e:TypeId} (h:w.heap[b]? = some (.cells #[v0,v1,v2,v3] e (0,0))) :
  (w.cell? ⟨b,0,none⟩=some v0/\w.cell? ⟨b,1,none⟩=some v1/\w.cell? ⟨b,2,none⟩=some v2/\w.cell? ⟨b,3,none⟩=some v3)/\w.frozen? ⟨b,0,none⟩=false/\w.frozen? ⟨b,1,none⟩=false/\w.frozen? ⟨b,2,none⟩=false/\w.frozen? ⟨b,3,none⟩=false :=
 ⟨⟨cell_ofA h rfl,cell_ofA h rfl,cell_ofA h rfl,cell_ofA h rfl⟩,frozen_of _ h,frozen_of _ h,frozen_of _ h,frozen_of _ h⟩
theorem set4 {w:World} {b:Nat} {u0 u1 u2 u3:Value} {e:TypeId} (h:w.heap[b]? = some (.cells #[u0,u1,u2,u3] e (0,0))) (v0 v1 v2 v3:Value) :
  ((((w.setCell ⟨b,0,none⟩ v0).setCell ⟨b,1,none⟩ v1).setCell ⟨b,2,none⟩ v2).setCell ⟨b,3,none⟩ v3).heap[b]? = some (.cells #[v0,v1,v2,v3] e (0,0)):=by
 rw [heap_setCell (heap_setCell (heap_setCell (heap_setCell h v0) v1) v2) v3]
 rfl
theorem Mod.set4 {S:Nat->Prop} {a w:World} {b:Nat} (h:Mod S a w) (hb:b < a.heap.size->S b) (v0 v1 v2 v3:Value) :
  Mod S a ((((w.setCell ⟨b,0,none⟩ v0).setCell ⟨b,1,none⟩ v1).setCell ⟨b,2,none⟩ v2).setCell ⟨b,3,none⟩ v3) :=
 (((h.setCell hb v0).setCell hb v1).setCell hb v2).setCell hb v3
set_option maxRecDepth 100000 in
theorem load_ver {w:World} {b:Nat} {v0 v1 v2 v3:Value} (h:w.heap[b]? = some (.cells #[v0,v1,v2,v3] 40 (0,0))) :
  (loadVar 40 ⟨b,0,none⟩).run prog w=.ok (.agg #[v0,v1,v2,v3]) w :=
 run_loadVar_row (P:=prog) w b 40 40 #[v0,v1,v2,v3] (0,0) _ h underlying40 rfl (by kernel_rfl)
theorem flat_length {α:Type} {f:α->List Value} {wd:Nat} (hf:∀ x,(f x).length=wd):∀ xs:List α,(xs.flatMap f).length=xs.length*wd
 | []=>by simp
 | x :: xs=>by
  rw [List.flatMap_cons,List.length_append,hf,flat_length hf xs,List.length_cons,Nat.succ_mul,Nat.add_comm]
theorem flat_get {α:Type} {f:α->List Value} {wd:Nat} (hf:∀ x,(f x).length=wd):∀ (xs:List α) {i:Nat} (hi:i < xs.length) {j:Nat} {u:Value},(f xs[i])[j]? = some u->(xs.flatMap f)[i*wd+j]? = some u
 | x :: xs,0,_,j,u,hj=>by
  have hj2:(f x)[j]? = some u:=hj
  have hlt:j < (f x).length:=(List.getElem?_eq_some_iff.1 hj2).1
  rw [List.flatMap_cons,Nat.zero_mul,Nat.zero_add,List.getElem?_append_left hlt,hj2]
 | x :: xs,i+1,hi,j,u,hj=>by
  have hj2:(f (xs[i]'(by simpa using hi)))[j]? = some u:=hj
  rw [List.flatMap_cons,List.getElem?_append_right (by rw [hf,Nat.succ_mul];omega),hf,show (i+1)*wd+j - wd=i*wd+j by rw [Nat.succ_mul];omega]
  exact flat_get hf xs (by simpa using hi) hj2
theorem Sl.at {α:Type} {f:α->List Value} {wd:Nat} {X:Nat->Prop} {w:World} {e:TypeId} {b o n c:Nat} {xs:List α} (hf:∀ x,(f x).length=wd) (h:Sl w X e (.slice (some ⟨b,o,none⟩) n c) n (xs.flatMap f)) {i:Nat} (hi:i < xs.length):w.rangeAt b (o+i*wd) (f xs[i]):=fun j u hj=>by
 have h1:=flat_get hf xs hi hj
 have h2:=Sl.cell h (List.getElem?_eq_some_iff.1 h1).1
 rw [Nat.add_assoc]
 rw [<- h1]
 exact h2
theorem rangeAt_part {w:World} {b o:Nat} {p q r:List Value} (h:w.rangeAt b o (p++q++r)):w.rangeAt b (o+p.length) q:=fun j u hj=>by
 have:=h (p.length+j) u (by
  rw [List.append_assoc,List.getElem?_append_right (by omega),show p.length+j - p.length=j by omega,List.getElem?_append_left (List.getElem?_eq_some_iff.1 hj).1,hj])
 rw [Nat.add_assoc]
 exact this
theorem Mod.rangeAt {S:Nat->Prop} {w w':World} (hm:Mod S w w') {b o:Nat} {cs:List Value} (h:w.rangeAt b o cs) (hs:¬ S b):w'.rangeAt b o cs:=fun j u hj=>hm.cell (h j u hj) hs
def Apart (ts:List TypeId) (S:Nat->Prop) (w:World):Prop:=∀ k cur fz e,S k->w.heap[k]? = some (.cells cur e fz)->e ∉ ts
theorem Apart.no (ts:List TypeId) (w:World):Apart ts No w:=fun _ _ _ _ f=>f.elim
theorem Apart.less {ts us:List TypeId} {S:Nat->Prop} {w:World} (h:Apart ts S w) (hs:∀ e ∈ us,e ∈ ts):Apart us S w:=fun k cur fz e hk hc he=>h k cur fz e hk hc (hs e he)
theorem Sl.apart {S:Nat->Prop} {w w':World} {e:TypeId} {v:Value} {n:Nat} {xs:List Value} (h:Sl w No e v n xs) (hm:Mod S w w') (ha:Apart [e] S w):Sl w' No e v n xs :=
 h.keep hm fun k cur fz hk _ hc=>ha k cur fz e hk hc (by simp)
abbrev SsAt (w:World) (v:Value) (l:List (List UInt8)):Prop:=Sl w No 9 v l.length (strs l)
abbrev verCs (v:Ver) (pv:Value):List Value:=[.int .i64 v.ma,.int .i64 v.mi,.int .i64 v.pa,pv]
structure BndX where
 b:Bnd
 pv:Value
def BndX.cells (x:BndX):List Value:=strV x.b.sign :: verCs x.b.v x.pv
theorem BndX.cells_length (x:BndX):x.cells.length=5:=rfl
def BndsX (X:Nat->Prop) (w:World) (v:Value) (l:List Bnd):Prop:=∃ xs:List BndX,xs.map BndX.b=l/\(∀ x ∈ xs,Sl w X 9 x.pv x.b.v.pre.length (strs x.b.v.pre))/\Sl w X 153 v l.length (xs.flatMap BndX.cells)
abbrev BndsAt (w:World) (v:Value) (l:List Bnd):Prop:=BndsX No w v l
theorem BndsX.shrink {X Y:Nat->Prop} {w:World} {v:Value} {l:List Bnd} (h:BndsX X w v l) (hy:∀ k,k < w.heap.size->Y k->X k):BndsX Y w v l:=by
 obtain ⟨xs,h1,h2,h3⟩:=h
 exact ⟨xs,h1,fun x hx=>(h2 x hx).shrink hy,h3.shrink hy⟩
theorem BndsX.no {X:Nat->Prop} {w:World} {v:Value} {l:List Bnd} (h:BndsX X w v l):BndsAt w v l:=h.shrink (fun _ _ f=>f.elim)
theorem BndsX.keepX {X S:Nat->Prop} {w w':World} {v:Value} {l:List Bnd} (h:BndsX X w v l) (hm:Mod S w w') (hs:∀ k cur fz e,S k->¬ X k->w.heap[k]? ≠ some (.cells cur e fz)):BndsX X w' v l:=by
 obtain ⟨xs,h1,h2,h3⟩:=h
 exact ⟨xs,h1,fun x hx=>(h2 x hx).keep hm (fun k cur fz a b=>hs k cur fz _ a b),h3.keep hm (fun k cur fz a b=>hs k cur fz _ a b)⟩
theorem BndsAt.keep {S:Nat->Prop} {w w':World} {v:Value} {l:List Bnd} (h:BndsAt w v l) (hm:Mod S w w') (ha:Apart [9,153] S w):BndsAt w' v l:=by
 obtain ⟨xs,h1,h2,h3⟩:=h
 exact ⟨xs,h1,fun x hx=>(h2 x hx).apart hm (ha.less (by simp)),h3.apart hm (ha.less (by simp))⟩
theorem sl_new (w:World) (e:TypeId) (xs:List Value) {n c:Nat} (hn:n<=c) (hc:c<=maxLen):Sl (w.alloc (.cells xs.toArray e)) No e (.slice (some ⟨w.heap.size,0,none⟩) n c) n xs :=
 .inr ⟨w.heap.size,0,c,_,(0,0),rfl,hn,hc,fun f=>f,heap_alloc_new w _,by simp,fun i hi=>by simp⟩
theorem ss_alloc {w:World} {v:Value} {l:List (List UInt8)} (h:SsAt w v l) (o:Obj):SsAt (w.alloc o) v l:=Sl.keep (S:=No) h ((Mod.refl No w).alloc _) (fun _ _ _ f=>f.elim)
theorem bndsX_new {X:Nat->Prop} (w:World) (xs:List BndX) (h:∀ x ∈ xs,Sl w X 9 x.pv x.b.v.pre.length (strs x.b.v.pre)) (hn:xs.length<=maxLen) (hx:¬ X w.heap.size) :
  BndsX X (w.alloc (.cells (xs.flatMap BndX.cells).toArray 153)) (.slice (some ⟨w.heap.size,0,none⟩) xs.length xs.length) (xs.map BndX.b) :=
 ⟨xs,rfl,fun x hx=>Sl.keep (S:=No) (h x hx) ((Mod.refl No w).alloc _) (fun _ _ _ f=>f.elim),by
  rw [List.length_map]
  exact .inr ⟨w.heap.size,0,_,_,(0,0),rfl,Nat.le_refl _,hn,hx,heap_alloc_new w _,by simp,fun i hi=>by simp⟩⟩
theorem bnds_new (w:World) (xs:List BndX) (h:∀ x ∈ xs,SsAt w x.pv x.b.v.pre) (hn:xs.length<=maxLen) :
  BndsAt (w.alloc (.cells (xs.flatMap BndX.cells).toArray 153)) (.slice (some ⟨w.heap.size,0,none⟩) xs.length xs.length) (xs.map BndX.b) :=
 ⟨xs,rfl,fun x hx=>ss_alloc (h x hx) _,by rw [List.length_map];exact sl_new w _ _ (Nat.le_refl _) hn⟩
structure OrX where
 l:List Bnd
 v:Value
def OrsAt (w:World) (v:Value) (l:List (List Bnd)):Prop:=∃ xs:List OrX,xs.map OrX.l=l/\(∀ x ∈ xs,BndsAt w x.v x.l)/\Sl w No 126 v l.length (xs.map OrX.v)
theorem OrsAt.keep {S:Nat->Prop} {w w':World} {v:Value} {l:List (List Bnd)} (h:OrsAt w v l) (hm:Mod S w w') (ha:Apart [9,153,126] S w):OrsAt w' v l:=by
 obtain ⟨xs,h1,h2,h3⟩:=h
 exact ⟨xs,h1,fun x hx=>(h2 x hx).keep hm (ha.less (by simp)),h3.apart hm (ha.less (by simp))⟩
structure NdX where
 n:Nd
 ov:Value
def NdX.cells (x:NdX):List Value:=[strV x.n.name,.bool x.n.span.any,x.ov,strV x.n.text]
theorem NdX.cells_length (x:NdX):x.cells.length=4:=rfl
def NdsAt (w:World) (v:Value) (l:List Nd):Prop:=∃ xs:List NdX,xs.map NdX.n=l/\(∀ x ∈ xs,OrsAt w x.ov x.n.span.ors)/\Sl w No 81 v l.length (xs.flatMap NdX.cells)
theorem NdsAt.keep {S:Nat->Prop} {w w':World} {v:Value} {l:List Nd} (h:NdsAt w v l) (hm:Mod S w w') (ha:Apart [9,153,126,81] S w):NdsAt w' v l:=by
 obtain ⟨xs,h1,h2,h3⟩:=h
 exact ⟨xs,h1,fun x hx=>(h2 x hx).keep hm (ha.less (by simp)),h3.apart hm (ha.less (by simp))⟩
structure RwX where
 r:Rw
 pv:Value
 nv:Value
def RwX.cells (x:RwX):List Value:=strV x.r.name :: (verCs x.r.v x.pv++(bv x.r.sum++[.int .i64 x.r.size,x.nv]))
theorem RwX.cells_length (x:RwX) (h:x.r.sum.length=32):x.cells.length=39:=by simp [RwX.cells,h]
theorem flat_getM {α:Type} {f:α->List Value} {wd:Nat}:∀ (xs:List α) (_:∀ x ∈ xs,(f x).length=wd) {i:Nat} (hi:i < xs.length) {j:Nat} {u:Value},(f xs[i])[j]? = some u->(xs.flatMap f)[i*wd+j]? = some u
 | x :: xs,hf,0,_,j,u,hj=>by
  have hj2:(f x)[j]? = some u:=hj
  have hlt:j < (f x).length:=(List.getElem?_eq_some_iff.1 hj2).1
  rw [List.flatMap_cons,Nat.zero_mul,Nat.zero_add,List.getElem?_append_left hlt,hj2]
 | x :: xs,hf,i+1,hi,j,u,hj=>by
  have hj2:(f (xs[i]'(by simpa using hi)))[j]? = some u:=hj
  have h1:=hf x (by simp)
  rw [List.flatMap_cons,List.getElem?_append_right (by rw [h1,Nat.succ_mul];omega),h1,show (i+1)*wd+j - wd=i*wd+j by rw [Nat.succ_mul];omega]
  exact flat_getM xs (fun y hy=>hf y (by simp [hy])) (by simpa using hi) hj2
theorem Sl.atM {α:Type} {f:α->List Value} {wd:Nat} {X:Nat->Prop} {w:World} {e:TypeId} {b o n c:Nat} {xs:List α} (hf:∀ x ∈ xs,(f x).length=wd) (h:Sl w X e (.slice (some ⟨b,o,none⟩) n c) n (xs.flatMap f)) {i:Nat} (hi:i < xs.length):w.rangeAt b (o+i*wd) (f xs[i]):=fun j u hj=>by
 have h1:=flat_getM xs hf hi hj
 have h2:=Sl.cell h (List.getElem?_eq_some_iff.1 h1).1
 rw [Nat.add_assoc]
 rw [<- h1]
 exact h2
theorem flat_takeM {α:Type} {f:α->List Value} {wd:Nat} {L:List α} (hf:∀ x ∈ L,(f x).length=wd) (k:Nat):(L.take k).flatMap f=(L.flatMap f).take (k*wd):=by
 induction L generalizing k with
 | nil=>simp
 | cons x L ih =>
  cases k with
  | zero=>simp
  | succ k =>
   have h1:=hf x (by simp)
   rw [List.take_succ_cons,List.flatMap_cons,List.flatMap_cons,ih (fun y hy=>hf y (by simp [hy])),Nat.succ_mul,List.take_append,h1,Nat.add_sub_cancel,List.take_of_length_le (l:=f x) (by rw [h1];omega)]
theorem flat_dropM {α:Type} {f:α->List Value} {wd:Nat} {L:List α} (hf:∀ x ∈ L,(f x).length=wd) (k:Nat):(L.drop k).flatMap f=(L.flatMap f).drop (k*wd):=by
 induction L generalizing k with
 | nil=>simp
 | cons x L ih =>
  cases k with
  | zero=>simp
  | succ k =>
   have h1:=hf x (by simp)
   rw [List.drop_succ_cons,List.flatMap_cons,ih (fun y hy=>hf y (by simp [hy])),Nat.succ_mul,List.drop_append,h1,Nat.add_sub_cancel,List.drop_of_length_le (l:=f x) (by rw [h1];omega),List.nil_append]
structure VerOk (v:Ver):Prop where
 ma:0<=v.ma/\v.ma<=999999999
 mi:0<=v.mi/\v.mi<=999999999
 pa:0<=v.pa/\v.pa<=999999999
theorem wrap_small {x:Int} (h:0<=x/\x<=1000000000):wrap64 x=x:=by
 unfold wrap64
 omega
theorem refmore_any (x:Int) (hx:0<=x/\x<=999999999) (w:World):Calls prog 134 #[.int .i64 x] w fun e w'=>e=.returned (.int .i64 (if x < 999999999 then x+1 else x))/\w'=w:=by
 refine calls_hide fun R hR=>?_
 have hw:=wrap_small (x:=x+1) (by omega)
 go_enter func134,ntmps134
 by_cases h:x < 999999999
 ·have h2:¬ (999999999:Int)<=x:=by omega
  go_wp2_with fail
  exact fin hR ⟨(by rw [if_pos (by omega)];try rfl),rfl⟩
 ·have h2:(999999999:Int)<=x:=by omega
  go_wp2_with fail
  exact fin hR ⟨(by rw [if_neg (by omega)];try rfl),rfl⟩
set_option maxRecDepth 100000 in
set_option maxHeartbeats 4000000 in
theorem refnext_any (v:Ver) (pv:Value) (p:Nat) (hp:p < 3) (hv:VerOk v) (w:World) :
  Calls prog 102 #[verV v pv,.int .i64 (p:Int)] w fun e w'=>e=.returned (verV (nextV v p) (.slice none 0 0))/\Mod No w w':=by
 refine calls_hide fun R hR=>?_
 obtain ⟨a,b,c,pre⟩:=v
 obtain ⟨⟨ha0,ha1⟩,⟨hb0,hb1⟩,⟨hc0,hc1⟩⟩:=hv
 dsimp only at ha0 ha1 hb0 hb1 hc0 hc1
 have hwa:=wrap_small (x:=a+1) (by omega)
 have hwb:=wrap_small (x:=b+1) (by omega)
 have HMORE:=zh (refmore_any c ⟨hc0,hc1⟩)
 have HNX:=zh (show nextV ⟨a,b,c,pre⟩ p=if p=0 then (if a < 999999999 then ⟨a+1,0,0,[]⟩ else ⟨a,b,c,[]⟩) else if p=1 then (if b < 999999999 then ⟨a,b+1,0,[]⟩ else ⟨a,b,c,[]⟩) else (if c < 999999999 then ⟨a,b,c+1,[]⟩ else ⟨a,b,c,[]⟩) from rfl)
 unfold verV at *
 dsimp only at *
 go_enter func102,ntmps102
 go_upto_region 1 with fail
 obtain ⟨gx,hgx⟩:∃ g,g=w.heap.size:=⟨_,rfl⟩
 obtain ⟨gy,hgy⟩:∃ g,g=gx+1:=⟨_,rfl⟩
 rw [<- hgx,<- hgy]
 obtain ⟨wA,hwA⟩:∃ z,z=(w.alloc (.cells #[.int .i64 a,.int .i64 b,.int .i64 c,pv] 40)).alloc (.cells #[.int .i64 0,.int .i64 0,.int .i64 0,.slice none 0 0] 40):=⟨_,rfl⟩
 have hx1:wA.heap[gx]? = some (.cells #[.int .i64 a,.int .i64 b,.int .i64 c,pv] 40 (0,0)):=by rw [hwA,hgx];exact heap_alloc_old _ (heap_alloc_new w _)
 have hy1:wA.heap[gy]? = some (.cells #[.int .i64 0,.int .i64 0,.int .i64 0,.slice none 0 0] 40 (0,0)):=by
  rw [hwA,hgy,hgx]
  have h1:=heap_alloc_new (w.alloc (.cells #[.int .i64 a,.int .i64 b,.int .i64 c,pv] 40)) (.cells #[.int .i64 0,.int .i64 0,.int .i64 0,.slice none 0 0] 40)
  rw [show (w.alloc (.cells #[.int .i64 a,.int .i64 b,.int .i64 c,pv] 40)).heap.size=w.heap.size+1 by simp] at h1
  exact h1
 have HMA:=zh (show Mod No w wA by rw [hwA];exact ((Mod.refl No w).alloc _).alloc _)
 have HGX:=zh (show w.heap.size<=gx by omega)
 have HGY:=zh (show gx < gy by omega)
 rw [<- hwA]
 have HX1:=zh hx1
 have HY1:=zh hy1
 obtain ⟨⟨a0,a1,a2,a3⟩,f0,f1,f2,f3⟩:=cells4 hx1
 clear hwA hgx hgy hx1 hy1
 go_upto_region 2 with fail
 clear a0 a1 a2 a3 f0 f1 f2 f3
 have HX2:=zh (show (wA.setCell ⟨gx,3,none⟩ (.slice none 0 0)).heap[gx]? = some (.cells #[.int .i64 a,.int .i64 b,.int .i64 c,.slice none 0 0] 40 (0,0)) by rw [heap_setCell HX1.out];rfl)
 have HY2:=zh (show (wA.setCell ⟨gx,3,none⟩ (.slice none 0 0)).heap[gy]? = some (.cells #[.int .i64 0,.int .i64 0,.int .i64 0,.slice none 0 0] 40 (0,0)) by rw [heap_setCell_ne _ (by have:=HGY.out;dsimp only;omega)];exact HY1.out)
 have HM2:=zh (show Mod No w (wA.setCell ⟨gx,3,none⟩ (.slice none 0 0)) from HMA.out.setCell (fun h=>by have:=HGX.out;dsimp only at h;omega) _)
 generalize wA.setCell ⟨gx,3,none⟩ (.slice none 0 0)=wB at *
 clear HX1 HY1 HMA
 obtain ⟨⟨c0,c1,c2,c3⟩,f0,f1,f2,f3⟩:=cells4 HX2.out
 obtain ⟨⟨d0,d1,d2,d3⟩,g0,g1,g2,g3⟩:=cells4 HY2.out
 match p,hp with
 | 0,_ =>
  have hnx:=HNX.out
  rw [if_pos rfl] at hnx
  by_cases h:a < 999999999
  ·rw [if_pos h] at hnx
   have HN:=zh hnx
   clear hnx HNX
   go_wp2_with fail
   have hl:=load_ver (set4 HY2.out (.int .i64 (a+1)) (.int .i64 0) (.int .i64 0) (.slice none 0 0))
   have HMz:=zh (HM2.out.set4 (b:=gy) (fun h=>by have:=HGX.out;have:=HGY.out;omega) (.int .i64 (a+1)) (.int .i64 0) (.int .i64 0) (.slice none 0 0))
   exact bodyPost_ret (v:=.agg #[.int .i64 (a+1),.int .i64 0,.int .i64 0,.slice none 0 0]) (by simp [results,results102,asAddr,hl]) rfl (fin hR ⟨by rw [HN.out],HMz.out⟩)
  ·rw [if_neg h] at hnx
   have HN:=zh hnx
   clear hnx HNX
   go_wp2_with fail
   have hl:=load_ver (set4 HY2.out (.int .i64 a) (.int .i64 b) (.int .i64 c) (.slice none 0 0))
   have HMz:=zh (HM2.out.set4 (b:=gy) (fun h=>by have:=HGX.out;have:=HGY.out;omega) (.int .i64 a) (.int .i64 b) (.int .i64 c) (.slice none 0 0))
   exact bodyPost_ret (v:=.agg #[.int .i64 a,.int .i64 b,.int .i64 c,.slice none 0 0]) (by simp [results,results102,asAddr,hl]) rfl (fin hR ⟨by rw [HN.out],HMz.out⟩)
 | 1,_ =>
  have hnx:=HNX.out
  rw [if_neg (by decide),if_pos rfl] at hnx
  by_cases h:b < 999999999
  ·rw [if_pos h] at hnx
   have HN:=zh hnx
   clear hnx HNX
   go_wp2_with fail
   have hl:=load_ver (set4 HY2.out (.int .i64 a) (.int .i64 (b+1)) (.int .i64 0) (.slice none 0 0))
   have HMz:=zh (HM2.out.set4 (b:=gy) (fun h=>by have:=HGX.out;have:=HGY.out;omega) (.int .i64 a) (.int .i64 (b+1)) (.int .i64 0) (.slice none 0 0))
   exact bodyPost_ret (v:=.agg #[.int .i64 a,.int .i64 (b+1),.int .i64 0,.slice none 0 0]) (by simp [results,results102,asAddr,hl]) rfl (fin hR ⟨by rw [HN.out],HMz.out⟩)
  ·rw [if_neg h] at hnx
   have HN:=zh hnx
   clear hnx HNX
   go_wp2_with fail
   have hl:=load_ver (set4 HY2.out (.int .i64 a) (.int .i64 b) (.int .i64 c) (.slice none 0 0))
   have HMz:=zh (HM2.out.set4 (b:=gy) (fun h=>by have:=HGX.out;have:=HGY.out;omega) (.int .i64 a) (.int .i64 b) (.int .i64 c) (.slice none 0 0))
   exact bodyPost_ret (v:=.agg #[.int .i64 a,.int .i64 b,.int .i64 c,.slice none 0 0]) (by simp [results,results102,asAddr,hl]) rfl (fin hR ⟨by rw [HN.out],HMz.out⟩)
 | 2,_ =>
  have HN:=zh (show nextV ⟨a,b,c,pre⟩ 2=⟨a,b,if c < 999999999 then c+1 else c,[]⟩ by
   have:=HNX.out
   rw [if_neg (by decide),if_neg (by decide)] at this
   rw [this]
   split <;> rfl)
  clear HNX
  go_wp2_with fail
  with_reducible refine (HMORE.out _).mono ?_
  rintro e wE ⟨rfl,hE⟩
  rw [hE]
  clear hE wE
  generalize (if c < 999999999 then c+1 else c)=r at *
  go_upto_region 11 with fail
  have HX3:=zh (show (wB.setCell ⟨gx,2,none⟩ (.int .i64 r)).heap[gx]? = some (.cells #[.int .i64 a,.int .i64 b,.int .i64 r,.slice none 0 0] 40 (0,0)) by rw [heap_setCell HX2.out];rfl)
  have HY3:=zh (show (wB.setCell ⟨gx,2,none⟩ (.int .i64 r)).heap[gy]? = some (.cells #[.int .i64 0,.int .i64 0,.int .i64 0,.slice none 0 0] 40 (0,0)) by rw [heap_setCell_ne _ (by have:=HGY.out;dsimp only;omega)];exact HY2.out)
  have HM3:=zh (show Mod No w (wB.setCell ⟨gx,2,none⟩ (.int .i64 r)) from HM2.out.setCell (fun h=>by have:=HGX.out;dsimp only at h;omega) _)
  generalize wB.setCell ⟨gx,2,none⟩ (.int .i64 r)=wC at *
  clear c0 c1 c2 c3 d0 d1 d2 d3 f0 f1 f2 f3 g0 g1 g2 g3 HX2 HY2 HM2
  obtain ⟨⟨c0,c1,c2,c3⟩,-⟩:=cells4 HX3.out
  obtain ⟨⟨d0,d1,d2,d3⟩,g0,g1,g2,g3⟩:=cells4 HY3.out
  go_wp2_with fail
  have hl:=load_ver (set4 HY3.out (.int .i64 a) (.int .i64 b) (.int .i64 r) (.slice none 0 0))
  have HMz:=zh (HM3.out.set4 (b:=gy) (fun h=>by have:=HGX.out;have:=HGY.out;omega) (.int .i64 a) (.int .i64 b) (.int .i64 r) (.slice none 0 0))
  exact bodyPost_ret (v:=.agg #[.int .i64 a,.int .i64 b,.int .i64 r,.slice none 0 0]) (by simp [results,results102,asAddr,hl]) rfl (fin hR ⟨by rw [HN.out],HMz.out⟩)
end Go.Proofs.YtgiigemfbebcgaaGreatDoor
