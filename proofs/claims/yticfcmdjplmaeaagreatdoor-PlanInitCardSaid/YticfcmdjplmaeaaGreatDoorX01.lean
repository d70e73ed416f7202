/-
  Layers 0 to 14: helps of the laws of indexes. No statement is proved here; no condition.
-/
import Derived.Test.YticfcmdjplmaeaaGreatDoorX00
import Derived.Lib.Atoi
import Derived.Deep.MidRow
import Derived.Lib.FieldsP
import Derived.Lib.TrimByte
import Derived.Lib.Index
set_option maxRecDepth 100000
set_option maxHeartbeats 64000000
namespace Go.Proofs.YticfcmdjplmaeaaGreatDoor
open _root_.Go.Proofs.Tryz
open Go.RowKit
theorem decV_snoc (l:List UInt8) (c:UInt8):decV (l++[c])=10*decV l+(c.toNat - 48):=by simp [decV,List.foldl_append]
theorem decV_take {l:List UInt8} {k:Nat} (hk:k < l.length):decV (l.take (k+1))=10*decV (l.take k)+(l[k].toNat - 48):=by
 rw [List.take_succ_eq_append_getElem hk,decV_snoc]
theorem dig_bounds {c:UInt8} (h:dig c=true):48<=c.toNat/\c.toNat<=57:=by
 unfold dig at h;simpa using h
theorem decV_lt:∀ (n:Nat) (l:List UInt8),l.length=n->l.all dig=true->decV l < 10 ^ l.length:=by
 intro n;induction n with
 | zero=>intro l hl _;rw [List.length_eq_zero_iff.1 hl];decide
 | succ n ih =>
  intro l hl ha;obtain ⟨m,c,rfl⟩:∃ m c,l=m++[c]:=⟨l.dropLast,l.getLast (fun e=>by rw [e] at hl;cases hl),(List.dropLast_concat_getLast _).symm⟩
  rw [List.all_append,Bool.and_eq_true] at ha;have hc:=dig_bounds (c:=c) (by simpa using ha.2);have h1:=ih m (by simpa using hl) ha.1;rw [decV_snoc,List.length_append,List.length_singleton,Nat.pow_succ];omega
theorem decV_ge {c:UInt8} (hc:49<=c.toNat):∀ (n:Nat) (l:List UInt8),l.length=n->10 ^ n<=decV (c :: l):=by
 intro n;induction n with
 | zero=>intro l hl;rw [List.length_eq_zero_iff.1 hl];simp [decV];omega
 | succ n ih =>
  intro l hl;obtain ⟨m,d,rfl⟩:∃ m d,l=m++[d]:=⟨l.dropLast,l.getLast (fun e=>by rw [e] at hl;cases hl),(List.dropLast_concat_getLast _).symm⟩
  have h1:=ih m (by simpa using hl);have e:c :: (m++[d])=(c :: m)++[d]:=rfl;rw [e,decV_snoc,Nat.pow_succ];omega
theorem decFrom_dig:∀ (l:List UInt8) (acc:Nat),l.all dig=true->Lib.decFrom acc l=some (l.foldl (fun n c=>10*n+(c.toNat - 48)) acc)
 | [],_,_=>rfl
 | c :: l,acc,h=>by
  rw [List.all_cons,Bool.and_eq_true] at h;have hb:=dig_bounds h.1;have hd:Lib.digitVal c=some (c.toNat - 48):=by
   unfold Lib.digitVal;rw [if_pos hb]
  unfold Lib.decFrom;rw [hd];have:=decFrom_dig l (10*acc+(c.toNat - 48)) h.2;rw [List.foldl_cons,<- this,Nat.mul_comm 10 acc]
theorem atoi_dig {l:List UInt8} (h:digitsB l=true):Lib.atoi l=some (decV l:Int):=by
 unfold digitsB at h;rw [Bool.and_eq_true] at h;match l,h with
 | c :: l,h =>
  have hb:=dig_bounds (c:=c) (by have:=h.1;rw [List.all_cons,Bool.and_eq_true] at this;exact this.1);have e1:(c == 45)=false:=by
   rw [beq_eq_false_iff_ne];rintro rfl;exact absurd hb.1 (by decide)
  have e2:(c == 43)=false:=by
   rw [beq_eq_false_iff_ne];rintro rfl;exact absurd hb.1 (by decide)
  have hn:Lib.decNat (c :: l)=some (decV (c :: l)):=by
   unfold Lib.decNat;exact decFrom_dig (c :: l) 0 h.1
  show (if c == 45 then _ else if c == 43 then _ else _)=_
  rw [e1,e2];simp [hn]
structure Ver where
 ma:Int
 mi:Int
 pa:Int
 pre:List (List UInt8)
deriving DecidableEq
abbrev verV (v:Ver) (pv:Value):Value:=.agg #[.int .i64 v.ma,.int .i64 v.mi,.int .i64 v.pa,pv]
def preOf (l:List UInt8):List (List UInt8):=if 45 ∈ l then splitC 46 (tailC 45 l) else []
def preOk (l:List UInt8):Bool:=decide (45 ∉ l) || (decide ((preOf l).length<=5) && (preOf l).all markB)
def verOf (l:List UInt8):Option Ver :=
 match splitC 46 (headC 45 l) with
 | [a,b,c]=>if numB a && numB b && numB c && preOk l then some ⟨decV a,decV b,decV c,preOf l⟩ else none
 | _=>none
theorem verOf_len {l:List UInt8} (h:(splitC 46 (headC 45 l)).length ≠ 3):verOf l=none:=by
 unfold verOf;match hs:splitC 46 (headC 45 l),h with
 | [],_=>rfl
 | [_],_=>rfl
 | [_,_],_=>rfl
 | [_,_,_],h=>exact absurd rfl h
 | _ :: _ :: _ :: _ :: _,_=>rfl
theorem verOf_three {l a b c:List UInt8} (h:splitC 46 (headC 45 l)=[a,b,c]):verOf l=if numB a && numB b && numB c && preOk l then some ⟨decV a,decV b,decV c,preOf l⟩ else none:=by
 unfold verOf;rw [h]
theorem headC_le (c:UInt8) (l:List UInt8):(headC c l).length<=l.length:=List.takeWhile_sublist _ |>.length_le
theorem tailC_le (c:UInt8) (l:List UInt8):(tailC c l).length<=l.length:=by unfold tailC;rw [List.length_drop];omega
theorem Sl.block {X:Nat->Prop} {w:World} {e:TypeId} {b o n c:Nat} {xs:List Value} (h:Sl w X e (.slice (some ⟨b,o,none⟩) n c) n xs):∃ cur fz,w.heap[b]? = some (.cells cur e fz):=by
 rcases h with ⟨h,_⟩ | ⟨blk,o',c0,cur,fz,hv,hn,hc,hX,hh,hl,hr⟩
 ·cases h
 ·cases hv;exact ⟨cur,fz,hh⟩
theorem Mod.cell1 (w:World) (b i:Nat) (v:Value):Mod (fun p=>p=b) w (w.setCell ⟨b,i,none⟩ v):=Mod.setCell (S:=fun p=>p=b) (p:=⟨b,i,none⟩) (Mod.refl _ w) (fun _=>rfl) v
theorem Mod.no {S:Nat->Prop} {w w':World} (h:Mod No w w'):Mod S w w':=h.weaken (fun _ _ f=>f.elim)
theorem cells4 {w:World} {b:Nat} {v0 v1 v2 v3:Value} {e:TypeId} (h:w.heap[b]? = some (.cells #[v0,v1,v2,v3] e (0,0))) :
  (w.cell? ⟨b,0,none⟩=some v0/\w.cell? ⟨b,1,none⟩=some v1/\w.cell? ⟨b,2,none⟩=some v2/\w.cell? ⟨b,3,none⟩=some v3)/\w.frozen? ⟨b,0,none⟩=false/\w.frozen? ⟨b,1,none⟩=false/\w.frozen? ⟨b,2,none⟩=false/\w.frozen? ⟨b,3,none⟩=false :=
 ⟨⟨cell_ofA h rfl,cell_ofA h rfl,cell_ofA h rfl,cell_ofA h rfl⟩,frozen_of _ h,frozen_of _ h,frozen_of _ h,frozen_of _ h⟩
theorem set4 {w:World} {b:Nat} {u0 u1 u2 u3:Value} {e:TypeId} (h:w.heap[b]? = some (.cells #[u0,u1,u2,u3] e (0,0))) (v0 v1 v2 v3:Value) :
  ((((w.setCell ⟨b,0,none⟩ v0).setCell ⟨b,1,none⟩ v1).setCell ⟨b,2,none⟩ v2).setCell ⟨b,3,none⟩ v3).heap[b]? = some (.cells #[v0,v1,v2,v3] e (0,0)):=by
 rw [heap_setCell (heap_setCell (heap_setCell (heap_setCell h v0) v1) v2) v3];rfl
theorem Mod.set4 {S:Nat->Prop} {a w:World} {b:Nat} (h:Mod S a w) (hb:b < a.heap.size->S b) (v0 v1 v2 v3:Value) :
  Mod S a ((((w.setCell ⟨b,0,none⟩ v0).setCell ⟨b,1,none⟩ v1).setCell ⟨b,2,none⟩ v2).setCell ⟨b,3,none⟩ v3) :=
 (((h.setCell hb v0).setCell hb v1).setCell hb v2).setCell hb v3
theorem load_ver {w:World} {b:Nat} {v0 v1 v2 v3:Value} (h:w.heap[b]? = some (.cells #[v0,v1,v2,v3] 40 (0,0))) :
  (loadVar 40 ⟨b,0,none⟩).run prog w=.ok (.agg #[v0,v1,v2,v3]) w :=
 run_loadVar_row (P:=prog) w b 40 40 #[v0,v1,v2,v3] (0,0) _ h underlying40 rfl (by kernel_rfl)
def allO {α β:Type} (f:α->Option β):List α->Option (List β)
 | []=>some []
 | x :: l=>match f x,allO f l with
  | some y,some ys=>some (y :: ys)
  | _,_=>none
theorem allO_append {α β:Type} (f:α->Option β):∀ (a b:List α),allO f (a++b)=match allO f a,allO f b with | some x,some y=>some (x++y) | _,_=>none
 | [],b=>by
  show allO f b=_
  cases allO f b <;> rfl
 | x :: a,b=>by
  show allO f (x :: (a++b))=_
  rw [allO,allO_append f a b,allO];cases f x <;> cases allO f a <;> cases allO f b <;> rfl
theorem allO_take {α β:Type} {f:α->Option β} {l:List α} {k:Nat} (hk:k < l.length) {ys:List β} {y:β} (h:allO f (l.take k)=some ys) (hy:f l[k]=some y):allO f (l.take (k+1))=some (ys++[y]):=by
 rw [List.take_succ_eq_append_getElem hk,allO_append,h];simp [allO,hy]
theorem allO_fail {α β:Type} {f:α->Option β} {l:List α} {k:Nat} (hk:k < l.length) (hy:f l[k]=none):allO f l=none:=by
 rw [<- List.take_append_drop k l,List.drop_eq_getElem_cons hk,allO_append];have h2:allO f (l[k] :: l.drop (k+1))=none:=by rw [allO,hy]
 rw [h2];cases allO f (l.take k) <;> rfl
theorem allO_length {α β:Type} {f:α->Option β}:∀ {l:List α} {ys:List β},allO f l=some ys->ys.length=l.length
 | [],ys,h=>by simp [allO] at h;simp [h]
 | x :: l,ys,h=>by
  rw [allO] at h;cases hx:f x with
  | none=>rw [hx] at h;simp at h
  | some y =>
   cases hl:allO f l with
   | none=>rw [hx,hl] at h;simp at h
   | some zs =>
    rw [hx,hl] at h;simp at h
    subst h;simp [allO_length hl]
structure Bnd where
 sign:List UInt8
 v:Ver
deriving DecidableEq
structure Spn where
 any:Bool
 ors:List (List Bnd)
deriving DecidableEq
structure Nd where
 name:List UInt8
 span:Spn
 text:List UInt8
deriving DecidableEq
structure Rw where
 name:List UInt8
 v:Ver
 sum:List UInt8
 size:Int
 needs:List Nd
deriving DecidableEq
def nextV (v:Ver) (p:Nat):Ver :=
 if p=0 then (if v.ma < 999999999 then ⟨v.ma+1,0,0,[]⟩ else ⟨v.ma,v.mi,v.pa,[]⟩)
 else if p=1 then (if v.mi < 999999999 then ⟨v.ma,v.mi+1,0,[]⟩ else ⟨v.ma,v.mi,v.pa,[]⟩)
 else (if v.pa < 999999999 then ⟨v.ma,v.mi,v.pa+1,[]⟩ else ⟨v.ma,v.mi,v.pa,[]⟩)
def signL (w:List UInt8):List UInt8 :=
 if w.take 2=[60,61]\/w.take 2=[62,61] then w.take 2
 else if w.take 1=[60]\/w.take 1=[62]\/w.take 1=[61]\/w.take 1=[94]\/w.take 1=[126] then w.take 1
 else []
def boundsV (sg:List UInt8) (v:Ver):List Bnd :=
 if sg=[] then [⟨[61],v⟩]
 else if sg=[94] then [⟨[62,61],v⟩,⟨[60],nextV v (if 0 < v.ma then 0 else if 0 < v.mi then 1 else 2)⟩]
 else if sg=[126] then [⟨[62,61],v⟩,⟨[60],nextV v 1⟩]
 else [⟨sg,v⟩]
def boundsL (w:List UInt8):Option (List Bnd):=(verOf (w.drop (signL w).length)).map (boundsV (signL w))
def wordsL (l:List UInt8):List (List UInt8):=(splitC 32 l).filter (fun x=>!x.isEmpty)
def splitO:List UInt8->List (List UInt8)
 | []=>[[]]
 | [c]=>[[c]]
 | c :: d :: l=>if c=124/\d=124 then [] :: splitO l else match splitO (d :: l) with
  | []=>[[c]]
  | p :: r=>(c :: p) :: r
def listL (x:List UInt8):Option (List Bnd):=if wordsL x=[]\/8 < (wordsL x).length then none else (allO boundsL (wordsL x)).map List.flatten
def spanL (l:List UInt8):Option Spn:=if wordsL l=[[42]] then some ⟨true,[]⟩ else if 8 < (splitO l).length then none else (allO listL (splitO l)).map (fun o=>⟨false,o⟩)
def smallB (c:UInt8):Bool:=decide (97<=c.toNat) && decide (c.toNat<=122)
def nameC (c:UInt8):Bool:=smallB c || dig c || decide (c.toNat=45)
def nameB (l:List UInt8):Bool:=!l.isEmpty && decide (l.length<=32) && (l.head?.any smallB) && l.all nameC
def linesL (l:List UInt8):List (List UInt8):=if (splitC 10 l).getLast? = some [] then (splitC 10 l).dropLast else splitC 10 l
def silentB (l:List UInt8):Bool:=l.isEmpty || decide (l.head? = some 35)
def needL (l:List UInt8):Option Nd:=if 32 ∈ l/\nameB (headC 32 l)=true then (spanL (tailC 32 l)).map (fun s=>⟨headC 32 l,s,tailC 32 l⟩) else none
theorem flat_length {α:Type} {f:α->List Value} {wd:Nat} (hf:∀ x,(f x).length=wd):∀ xs:List α,(xs.flatMap f).length=xs.length*wd
 | []=>by simp
 | x :: xs=>by
  rw [List.flatMap_cons,List.length_append,hf,flat_length hf xs,List.length_cons,Nat.succ_mul,Nat.add_comm]
theorem flat_get {α:Type} {f:α->List Value} {wd:Nat} (hf:∀ x,(f x).length=wd):∀ (xs:List α) {i:Nat} (hi:i < xs.length) {j:Nat} {u:Value},(f xs[i])[j]? = some u->(xs.flatMap f)[i*wd+j]? = some u
 | x :: xs,0,_,j,u,hj=>by
  have hj2:(f x)[j]? = some u:=hj;have hlt:j < (f x).length:=(List.getElem?_eq_some_iff.1 hj2).1;rw [List.flatMap_cons,Nat.zero_mul,Nat.zero_add,List.getElem?_append_left hlt,hj2]
 | x :: xs,i+1,hi,j,u,hj=>by
  have hj2:(f (xs[i]'(by simpa using hi)))[j]? = some u:=hj;rw [List.flatMap_cons,List.getElem?_append_right (by rw [hf,Nat.succ_mul];omega),hf,show (i+1)*wd+j - wd=i*wd+j by rw [Nat.succ_mul];omega];exact flat_get hf xs (by simpa using hi) hj2
theorem Sl.at {α:Type} {f:α->List Value} {wd:Nat} {X:Nat->Prop} {w:World} {e:TypeId} {b o n c:Nat} {xs:List α} (hf:∀ x,(f x).length=wd) (h:Sl w X e (.slice (some ⟨b,o,none⟩) n c) n (xs.flatMap f)) {i:Nat} (hi:i < xs.length):w.rangeAt b (o+i*wd) (f xs[i]):=fun j u hj=>by
 have h1:=flat_get hf xs hi hj;have h2:=Sl.cell h (List.getElem?_eq_some_iff.1 h1).1;rw [Nat.add_assoc];rw [<- h1];exact h2
theorem rangeAt_part {w:World} {b o:Nat} {p q r:List Value} (h:w.rangeAt b o (p++q++r)):w.rangeAt b (o+p.length) q:=fun j u hj=>by
 have:=h (p.length+j) u (by
  rw [List.append_assoc,List.getElem?_append_right (by omega),show p.length+j - p.length=j by omega,List.getElem?_append_left (List.getElem?_eq_some_iff.1 hj).1,hj])
 rw [Nat.add_assoc];exact this
theorem Mod.rangeAt {S:Nat->Prop} {w w':World} (hm:Mod S w w') {b o:Nat} {cs:List Value} (h:w.rangeAt b o cs) (hs:¬ S b):w'.rangeAt b o cs:=fun j u hj=>hm.cell (h j u hj) hs
def Apart (ts:List TypeId) (S:Nat->Prop) (w:World):Prop:=∀ k cur fz e,S k->w.heap[k]? = some (.cells cur e fz)->e ∉ ts
theorem Apart.no (ts:List TypeId) (w:World):Apart ts No w:=fun _ _ _ _ f=>f.elim
theorem Apart.less {ts us:List TypeId} {S:Nat->Prop} {w:World} (h:Apart ts S w) (hs:∀ e ∈ us,e ∈ ts):Apart us S w:=fun k cur fz e hk hc he=>h k cur fz e hk hc (hs e he)
theorem Sl.apart {S:Nat->Prop} {w w':World} {e:TypeId} {v:Value} {n:Nat} {xs:List Value} (h:Sl w No e v n xs) (hm:Mod S w w') (ha:Apart [e] S w):Sl w' No e v n xs :=
 h.keep hm fun k cur fz hk _ hc=>ha k cur fz e hk hc (by simp)
abbrev verCs (v:Ver) (pv:Value):List Value:=[.int .i64 v.ma,.int .i64 v.mi,.int .i64 v.pa,pv]
structure BndX where
 b:Bnd
 pv:Value
def BndX.cells (x:BndX):List Value:=strV x.b.sign :: verCs x.b.v x.pv
theorem BndX.cells_length (x:BndX):x.cells.length=5:=rfl
def BndsX (X:Nat->Prop) (w:World) (v:Value) (l:List Bnd):Prop:=∃ xs:List BndX,xs.map BndX.b=l/\(∀ x ∈ xs,Sl w X 9 x.pv x.b.v.pre.length (strs x.b.v.pre))/\Sl w X 237 v l.length (xs.flatMap BndX.cells)
abbrev BndsAt (w:World) (v:Value) (l:List Bnd):Prop:=BndsX No w v l
theorem BndsX.shrink {X Y:Nat->Prop} {w:World} {v:Value} {l:List Bnd} (h:BndsX X w v l) (hy:∀ k,k < w.heap.size->Y k->X k):BndsX Y w v l:=by
 obtain ⟨xs,h1,h2,h3⟩:=h;exact ⟨xs,h1,fun x hx=>(h2 x hx).shrink hy,h3.shrink hy⟩
theorem BndsX.no {X:Nat->Prop} {w:World} {v:Value} {l:List Bnd} (h:BndsX X w v l):BndsAt w v l:=h.shrink (fun _ _ f=>f.elim)
theorem BndsX.keepX {X S:Nat->Prop} {w w':World} {v:Value} {l:List Bnd} (h:BndsX X w v l) (hm:Mod S w w') (hs:∀ k cur fz e,S k->¬ X k->w.heap[k]? ≠ some (.cells cur e fz)):BndsX X w' v l:=by
 obtain ⟨xs,h1,h2,h3⟩:=h;exact ⟨xs,h1,fun x hx=>(h2 x hx).keep hm (fun k cur fz a b=>hs k cur fz _ a b),h3.keep hm (fun k cur fz a b=>hs k cur fz _ a b)⟩
theorem BndsAt.keep {S:Nat->Prop} {w w':World} {v:Value} {l:List Bnd} (h:BndsAt w v l) (hm:Mod S w w') (ha:Apart [9,237] S w):BndsAt w' v l:=by
 obtain ⟨xs,h1,h2,h3⟩:=h;exact ⟨xs,h1,fun x hx=>(h2 x hx).apart hm (ha.less (by simp)),h3.apart hm (ha.less (by simp))⟩
theorem sl_new (w:World) (e:TypeId) (xs:List Value) {n c:Nat} (hn:n<=c) (hc:c<=maxLen):Sl (w.alloc (.cells xs.toArray e)) No e (.slice (some ⟨w.heap.size,0,none⟩) n c) n xs :=
 .inr ⟨w.heap.size,0,c,_,(0,0),rfl,hn,hc,fun f=>f,heap_alloc_new w _,by simp,fun i hi=>by simp⟩
theorem bndsX_new {X:Nat->Prop} (w:World) (xs:List BndX) (h:∀ x ∈ xs,Sl w X 9 x.pv x.b.v.pre.length (strs x.b.v.pre)) (hn:xs.length<=maxLen) (hx:¬ X w.heap.size) :
  BndsX X (w.alloc (.cells (xs.flatMap BndX.cells).toArray 237)) (.slice (some ⟨w.heap.size,0,none⟩) xs.length xs.length) (xs.map BndX.b) :=
 ⟨xs,rfl,fun x hx=>Sl.keep (S:=No) (h x hx) ((Mod.refl No w).alloc _) (fun _ _ _ f=>f.elim),by
  rw [List.length_map];exact .inr ⟨w.heap.size,0,_,_,(0,0),rfl,Nat.le_refl _,hn,hx,heap_alloc_new w _,by simp,fun i hi=>by simp⟩⟩
structure OrX where
 l:List Bnd
 v:Value
def OrsAt (w:World) (v:Value) (l:List (List Bnd)):Prop:=∃ xs:List OrX,xs.map OrX.l=l/\(∀ x ∈ xs,BndsAt w x.v x.l)/\Sl w No 175 v l.length (xs.map OrX.v)
theorem OrsAt.keep {S:Nat->Prop} {w w':World} {v:Value} {l:List (List Bnd)} (h:OrsAt w v l) (hm:Mod S w w') (ha:Apart [9,237,175] S w):OrsAt w' v l:=by
 obtain ⟨xs,h1,h2,h3⟩:=h;exact ⟨xs,h1,fun x hx=>(h2 x hx).keep hm (ha.less (by simp)),h3.apart hm (ha.less (by simp))⟩
structure NdX where
 n:Nd
 ov:Value
def NdX.cells (x:NdX):List Value:=[strV x.n.name,.bool x.n.span.any,x.ov,strV x.n.text]
theorem NdX.cells_length (x:NdX):x.cells.length=4:=rfl
def NdsAt (w:World) (v:Value) (l:List Nd):Prop:=∃ xs:List NdX,xs.map NdX.n=l/\(∀ x ∈ xs,OrsAt w x.ov x.n.span.ors)/\Sl w No 98 v l.length (xs.flatMap NdX.cells)
theorem NdsAt.keep {S:Nat->Prop} {w w':World} {v:Value} {l:List Nd} (h:NdsAt w v l) (hm:Mod S w w') (ha:Apart [9,237,175,98] S w):NdsAt w' v l:=by
 obtain ⟨xs,h1,h2,h3⟩:=h;exact ⟨xs,h1,fun x hx=>(h2 x hx).keep hm (ha.less (by simp)),h3.apart hm (ha.less (by simp))⟩
structure RwX where
 r:Rw
 pv:Value
 nv:Value
def RwX.cells (x:RwX):List Value:=strV x.r.name :: (verCs x.r.v x.pv++(bv x.r.sum++[.int .i64 x.r.size,x.nv]))
theorem RwX.cells_length (x:RwX) (h:x.r.sum.length=32):x.cells.length=39:=by simp [RwX.cells,h]
theorem flat_getM {α:Type} {f:α->List Value} {wd:Nat}:∀ (xs:List α) (_:∀ x ∈ xs,(f x).length=wd) {i:Nat} (hi:i < xs.length) {j:Nat} {u:Value},(f xs[i])[j]? = some u->(xs.flatMap f)[i*wd+j]? = some u
 | x :: xs,hf,0,_,j,u,hj=>by
  have hj2:(f x)[j]? = some u:=hj;have hlt:j < (f x).length:=(List.getElem?_eq_some_iff.1 hj2).1;rw [List.flatMap_cons,Nat.zero_mul,Nat.zero_add,List.getElem?_append_left hlt,hj2]
 | x :: xs,hf,i+1,hi,j,u,hj=>by
  have hj2:(f (xs[i]'(by simpa using hi)))[j]? = some u:=hj;have h1:=hf x (by simp);rw [List.flatMap_cons,List.getElem?_append_right (by rw [h1,Nat.succ_mul];omega),h1,show (i+1)*wd+j - wd=i*wd+j by rw [Nat.succ_mul];omega];exact flat_getM xs (fun y hy=>hf y (by simp [hy])) (by simpa using hi) hj2
theorem Sl.atM {α:Type} {f:α->List Value} {wd:Nat} {X:Nat->Prop} {w:World} {e:TypeId} {b o n c:Nat} {xs:List α} (hf:∀ x ∈ xs,(f x).length=wd) (h:Sl w X e (.slice (some ⟨b,o,none⟩) n c) n (xs.flatMap f)) {i:Nat} (hi:i < xs.length):w.rangeAt b (o+i*wd) (f xs[i]):=fun j u hj=>by
 have h1:=flat_getM xs hf hi hj;have h2:=Sl.cell h (List.getElem?_eq_some_iff.1 h1).1;rw [Nat.add_assoc];rw [<- h1];exact h2
theorem flat_takeM {α:Type} {f:α->List Value} {wd:Nat} {L:List α} (hf:∀ x ∈ L,(f x).length=wd) (k:Nat):(L.take k).flatMap f=(L.flatMap f).take (k*wd):=by
 induction L generalizing k with
 | nil=>simp
 | cons x L ih =>
  cases k with
  | zero=>simp
  | succ k =>
   have h1:=hf x (by simp);rw [List.take_succ_cons,List.flatMap_cons,List.flatMap_cons,ih (fun y hy=>hf y (by simp [hy])),Nat.succ_mul,List.take_append,h1,Nat.add_sub_cancel,List.take_of_length_le (l:=f x) (by rw [h1];omega)]
theorem indexfunc_bnds (g:Nat) (lb:Array Value) (eg:∀ args w,(callFunc g args).run prog w=.ok (.enter g args) w) (p:BndX->Bool) (xs:List BndX) (hx:xs.length<=1000000) (hc:∀ x ∈ xs,(BndX.cells x).length=5) (v:Value) (w:World) (hv:Sl w No 237 v xs.length (xs.flatMap BndX.cells))
  (hp:∀ i (hi:i < xs.length),∀ W,Mod No w W->Calls prog g (#[.agg (BndX.cells xs[i]).toArray]++lb) W fun e w'=>e=.returned (.bool (p xs[i]))/\Mod No W w') :
  Calls prog 241 #[v,.func (.func g) #[] lb] w fun e w'=>e=.returned (.int .i64 (findI p xs))/\Mod No w w':=by
 refine calls_hide fun R hR=>?_
 obtain ⟨va,vc,rfl⟩:=hv.len;have HV:=zh hv;have HP:=zh hp;have HCL:=zh hc;clear hv hp hc;go_enter func241,ntmps241
 go_wp2_with fail
 go_loopw [8] (fun q wr=>∃ k:Nat,k<=xs.length/\q=.int .i64 k/\Mod No w wr/\∀ i (hi:i < xs.length),i < k->p xs[i]=false) (fun q _=>xs.length - (intOf q).toNat)
 case atStart=>exact ⟨0,by omega,rfl,Mod.refl _ _,fun i _ hi=>absurd hi (by omega)⟩
 case round =>
  obtain ⟨k,hk,rfl,hmod,hno⟩:=hrel;have HM:=zh hmod;have HNO:=zh hno;have hk0:(0:Int)<=(k:Int):=Int.natCast_nonneg _;clear hmod hno;by_cases hlt:k < xs.length
  ·have hk1:(k:Int) < (xs.length:Int):=by omega
   obtain ⟨b,o,c,hvs,_⟩:=HV.out.shape (by omega);cases hvs
   have hrg:=HM.out.rangeAt (Sl.atM HCL.out HV.out hlt) (fun f=>f);have HRG:=zh hrg;have HCK:=zh (HCL.out _ (List.getElem_mem hlt));have HC:=zh (HP.out k hlt _ HM.out);have HN:=zh (show p xs[k]=false->∀ i (hi:i < xs.length),i < k+1->p xs[i]=false from fun h i hi hik=>by
    rcases Nat.lt_or_ge i k with h3 | h3
    ·exact HNO.out i hi h3
    ·obtain rfl:i=k:=by omega
     exact h)
   have HH:=zh (show p xs[k]=true->findI p xs=(k:Int) from fun h=>findI_hit hlt HNO.out h);clear HNO hrg;generalize BndX.cells xs[k]=cs at *;go_wp2_with (refine wpList_load_mid rfl 237 _ rfl b (o+k*5) rfl cs _ HRG.out (underlying237) rfl (by rw [HCK.out];kernel_rfl) ?_)
   with_reducible refine HC.out.mono ?_
   rintro e w2 ⟨rfl,hm2⟩;have HM2:=zh (HM.out.trans hm2);clear hm2 HC HRG HCK;generalize p xs[k]=pk at *;rcases pk with _ | _
   ·go_wp2_with fail
    exact ⟨⟨k+1,by omega,rfl,HM2.out,HN.out (by trivial)⟩,by show xs.length - ((k:Int)+1).toNat < xs.length - (k:Int).toNat;omega⟩
   ·have hf:=HH.out (by trivial);go_wp2_with fail
    refine fin hR ⟨?_,HM2.out⟩
    rw [hf];rfl
  ·go_wp2_with fail
   refine fin hR ⟨?_,HM.out⟩
   rw [findI_none (p:=p) (l:=xs) (fun i hi=>HNO.out i hi (by omega))];rfl
theorem containsfunc_bnds (g:Nat) (lb:Array Value) (eg:∀ args w,(callFunc g args).run prog w=.ok (.enter g args) w) (p:BndX->Bool) (xs:List BndX) (hx:xs.length<=1000000) (hc:∀ x ∈ xs,(BndX.cells x).length=5) (v:Value) (w:World) (hv:Sl w No 237 v xs.length (xs.flatMap BndX.cells))
  (hp:∀ i (hi:i < xs.length),∀ W,Mod No w W->Calls prog g (#[.agg (BndX.cells xs[i]).toArray]++lb) W fun e w'=>e=.returned (.bool (p xs[i]))/\Mod No W w') :
  Calls prog 187 #[v,.func (.func g) #[] lb] w fun e w'=>e=.returned (.bool (xs.any p))/\Mod No w w':=by
 refine calls_hide fun R hR=>?_
 have HC:=zh (indexfunc_bnds g lb eg p xs hx hc v w hv hp);obtain ⟨va,vc,rfl⟩:=hv.len;have HA:=zh (findI_any p xs);clear hv hp;go_enter func187,ntmps187
 go_wp2_with fail
 with_reducible refine HC.out.mono ?_
 rintro e w2 ⟨rfl,hm2⟩;have HM2:=zh hm2;clear hm2 HC;generalize findI p xs=r at *;go_wp2_with fail
 refine fin hR ⟨bool_ret ?_,HM2.out⟩
 exact HA.out
theorem indexfunc_ors (g:Nat) (lb:Array Value) (eg:∀ args w,(callFunc g args).run prog w=.ok (.enter g args) w) (p:OrX->Bool) (xs:List OrX) (hx:xs.length<=1000000) (v:Value) (w:World) (hv:Sl w No 175 v xs.length (xs.map OrX.v))
  (hp:∀ i (hi:i < xs.length),∀ W,Mod No w W->Calls prog g (#[OrX.v xs[i]]++lb) W fun e w'=>e=.returned (.bool (p xs[i]))/\Mod No W w') :
  Calls prog 240 #[v,.func (.func g) #[] lb] w fun e w'=>e=.returned (.int .i64 (findI p xs))/\Mod No w w':=by
 refine calls_hide fun R hR=>?_
 obtain ⟨va,vc,rfl⟩:=hv.len;have HV:=zh hv;have HP:=zh hp;clear hv hp;go_enter func240,ntmps240
 go_wp2_with fail
 go_loopw [8] (fun q wr=>∃ k:Nat,k<=xs.length/\q=.int .i64 k/\Mod No w wr/\∀ i (hi:i < xs.length),i < k->p xs[i]=false) (fun q _=>xs.length - (intOf q).toNat)
 case atStart=>exact ⟨0,by omega,rfl,Mod.refl _ _,fun i _ hi=>absurd hi (by omega)⟩
 case round =>
  obtain ⟨k,hk,rfl,hmod,hno⟩:=hrel;have HM:=zh hmod;have HNO:=zh hno;have hk0:(0:Int)<=(k:Int):=Int.natCast_nonneg _;clear hmod hno;by_cases hlt:k < xs.length
  ·have hk1:(k:Int) < (xs.length:Int):=by omega
   obtain ⟨b,o,c,hvs,_⟩:=HV.out.shape (by omega);cases hvs
   have hcell:=HM.out.cell (HV.out.cellN (i:=k) (by rw [List.length_map];exact hlt)) (fun f=>f);rw [show (xs.map OrX.v)[k]'(by rw [List.length_map];exact hlt)=OrX.v xs[k] from by simp] at hcell;have HC:=zh (HP.out k hlt _ HM.out);have HN:=zh (show p xs[k]=false->∀ i (hi:i < xs.length),i < k+1->p xs[i]=false from fun h i hi hik=>by
    rcases Nat.lt_or_ge i k with h3 | h3
    ·exact HNO.out i hi h3
    ·obtain rfl:i=k:=by omega
     exact h)
   have HH:=zh (show p xs[k]=true->findI p xs=(k:Int) from fun h=>findI_hit hlt HNO.out h);clear HNO;generalize OrX.v xs[k]=cv at *;go_wp2_with fail
   with_reducible refine HC.out.mono ?_
   rintro e w2 ⟨rfl,hm2⟩;have HM2:=zh (HM.out.trans hm2);clear hm2 HC hcell;generalize p xs[k]=pk at *;rcases pk with _ | _
   ·go_wp2_with fail
    exact ⟨⟨k+1,by omega,rfl,HM2.out,HN.out (by trivial)⟩,by show xs.length - ((k:Int)+1).toNat < xs.length - (k:Int).toNat;omega⟩
   ·have hf:=HH.out (by trivial);go_wp2_with fail
    refine fin hR ⟨?_,HM2.out⟩
    rw [hf];rfl
  ·go_wp2_with fail
   refine fin hR ⟨?_,HM.out⟩
   rw [findI_none (p:=p) (l:=xs) (fun i hi=>HNO.out i hi (by omega))];rfl
theorem containsfunc_ors (g:Nat) (lb:Array Value) (eg:∀ args w,(callFunc g args).run prog w=.ok (.enter g args) w) (p:OrX->Bool) (xs:List OrX) (hx:xs.length<=1000000) (v:Value) (w:World) (hv:Sl w No 175 v xs.length (xs.map OrX.v))
  (hp:∀ i (hi:i < xs.length),∀ W,Mod No w W->Calls prog g (#[OrX.v xs[i]]++lb) W fun e w'=>e=.returned (.bool (p xs[i]))/\Mod No W w') :
  Calls prog 185 #[v,.func (.func g) #[] lb] w fun e w'=>e=.returned (.bool (xs.any p))/\Mod No w w':=by
 refine calls_hide fun R hR=>?_
 have HC:=zh (indexfunc_ors g lb eg p xs hx v w hv hp);obtain ⟨va,vc,rfl⟩:=hv.len;have HA:=zh (findI_any p xs);clear hv hp;go_enter func185,ntmps185
 go_wp2_with fail
 with_reducible refine HC.out.mono ?_
 rintro e w2 ⟨rfl,hm2⟩;have HM2:=zh hm2;clear hm2 HC;generalize findI p xs=r at *;go_wp2_with fail
 refine fin hR ⟨bool_ret ?_,HM2.out⟩
 exact HA.out
def needLine (s:List UInt8):Option Nd:=if s.take 5=[110,101,101,100,32] then needL (s.drop 5) else none
theorem prefix_iff (s p:List UInt8):Lib.hasPrefix s p=decide (s.take p.length=p):=by
 unfold Lib.hasPrefix;by_cases h:p <+: s
 ·rw [List.isPrefixOf_iff_prefix.2 h,decide_eq_true (List.prefix_iff_eq_take.1 h).symm]
 ·have h2:p.isPrefixOf s=false:=by
   cases hb:p.isPrefixOf s with
   | false=>rfl
   | true=>exact absurd (List.isPrefixOf_iff_prefix.1 hb) h
  rw [h2,decide_eq_false (fun e=>h (List.prefix_iff_eq_take.2 e.symm))]
def cmpN (a b:Int):Int:=if a < b then -1 else if b < a then 1 else 0
def cmpL (a b:List UInt8):Int:=if a < b then -1 else if b < a then 1 else 0
def orI:List Int->Int
 | []=>0
 | x :: l=>if x=0 then orI l else x
def markC (a b:List UInt8):Int :=
 if digitsB a && digitsB b then orI [cmpN a.length b.length,cmpL a b] else if digitsB a then -1 else if digitsB b then 1 else cmpL a b
def preC:List (List UInt8)->List (List UInt8)->Int
 | [],[]=>0
 | [],_ :: _=>-1
 | _ :: _,[]=>1
 | x :: a,y :: b=>if markC x y=0 then preC a b else markC x y
def verC (a b:Ver):Int :=
 if orI [cmpN a.ma b.ma,cmpN a.mi b.mi,cmpN a.pa b.pa]=0 then
  if a.pre=[]\/b.pre=[] then cmpN b.pre.length a.pre.length else preC a.pre b.pre
 else orI [cmpN a.ma b.ma,cmpN a.mi b.mi,cmpN a.pa b.pa]
theorem preC_drop {a b:List (List UInt8)} (k:Nat) (ha:k<=a.length) (hb:k<=b.length) (h:∀ i (h1:i < a.length) (h2:i < b.length),i < k->markC a[i] b[i]=0):preC a b=preC (a.drop k) (b.drop k):=by
 induction k with
 | zero=>simp
 | succ k ih =>
  rw [ih (by omega) (by omega) (fun i h1 h2 h3=>h i h1 h2 (by omega)),List.drop_eq_getElem_cons (i:=k) (by omega),List.drop_eq_getElem_cons (l:=b) (i:=k) (by omega)];show (if markC a[k] b[k]=0 then _ else _)=_
  rw [if_pos (h k (by omega) (by omega) (by omega))]
theorem preC_hit {a b:List (List UInt8)} {k:Nat} (ha:k < a.length) (hb:k < b.length) (h:∀ i (h1:i < a.length) (h2:i < b.length),i < k->markC a[i] b[i]=0) (hk:markC a[k] b[k] ≠ 0):preC a b=markC a[k] b[k]:=by
 rw [preC_drop k (by omega) (by omega) h,List.drop_eq_getElem_cons ha,List.drop_eq_getElem_cons hb];show (if markC a[k] b[k]=0 then _ else _)=_
 rw [if_neg hk]
theorem preC_nil (a b:List (List UInt8)) (h:a=[]\/b=[]):preC a b=cmpN a.length b.length:=by
 rcases a with _ | ⟨x,a⟩ <;> rcases b with _ | ⟨y,b⟩
 ·rfl
 ·show (-1:Int)=_
  unfold cmpN;rw [if_pos (by simp only [List.length_nil,List.length_cons];omega)]
 ·show (1:Int)=_
  unfold cmpN;rw [if_neg (by simp only [List.length_nil,List.length_cons];omega),if_pos (by simp only [List.length_nil,List.length_cons];omega)]
 ·rcases h with h | h <;> cases h
theorem preC_end {a b:List (List UInt8)} {k:Nat} (ha:k<=a.length) (hb:k<=b.length) (he:k=a.length\/k=b.length) (h:∀ i (h1:i < a.length) (h2:i < b.length),i < k->markC a[i] b[i]=0):preC a b=cmpN a.length b.length:=by
 rw [preC_drop k ha hb h,preC_nil _ _ (he.imp (fun h=>List.drop_eq_nil_of_le (by omega)) (fun h=>List.drop_eq_nil_of_le (by omega)))];unfold cmpN;simp only [List.length_drop];by_cases h1:a.length < b.length
 ·rw [if_pos (by omega),if_pos (by omega)]
 ·by_cases h2:b.length < a.length
  ·rw [if_neg (by omega),if_pos (by omega),if_neg (by omega),if_pos (by omega)]
  ·rw [if_neg (by omega),if_neg (by omega),if_neg (by omega),if_neg (by omega)]
structure Pn where
 name:List UInt8
 v:Ver
 sum:List UInt8
structure PnX where
 p:Pn
 pv:Value
def PnX.cells (x:PnX):List Value:=strV x.p.name :: (verCs x.p.v x.pv++bv x.p.sum)
theorem PnX.cells_length (x:PnX) (h:x.p.sum.length=32):x.cells.length=37:=by simp [PnX.cells,verCs,h]
structure PnOk (x:PnX):Prop where
 sum:x.p.sum.length=32
 pv:∃ a m c,x.pv=.slice a m c
theorem PnOk.one {x:PnX} (h:PnOk x):∀ u ∈ x.cells,u.oneCell'=true:=by
 intro u hu;obtain ⟨a,m,c,e⟩:=h.pv;unfold PnX.cells verCs at hu;rw [e] at hu;simp only [List.mem_cons,List.mem_append,List.not_mem_nil,or_false] at hu;rcases hu with rfl | (rfl | rfl | rfl | rfl) | hu
 ·rfl
 ·rfl
 ·rfl
 ·rfl
 ·rfl
 ·exact bv_one _ u hu
def pinZero:Value:=.agg (#[.string ⟨#[]⟩,.int .i64 0,.int .i64 0,.int .i64 0,.slice none 0 0]++Array.replicate 32 (.int .u8 0))
theorem info_pn:(prog.info? 120).map (fun i=>(i.zero,i.size,i.bytes))=some (some pinZero,37,96):=by kernel_rfl
theorem cont_great {x:Nat} (h:(x / 64 == 2)=true):128<=x:=by
 have:x / 64=2:=by simpa using h
 omega
theorem decode_any (s:ByteArray) (i:Nat):((s.get! i).toNat < 128/\Utf8.decode s i=((s.get! i).toNat,1)) ∨
  (128<=(s.get! i).toNat/\128<=(Utf8.decode s i).1/\1<=(Utf8.decode s i).2/\∀ k,1<=k->k < (Utf8.decode s i).2->i+k < s.size/\128<=(s.get! (i+k)).toNat):=by
 by_cases h0:(s.get! i).toNat < 128
 ·left;refine ⟨h0,?_⟩
  unfold Utf8.decode;exact if_pos h0
 ·right;refine ⟨by omega,?_⟩
  have hr:128<=Utf8.runeError:=by decide
  have one:∀ k,1<=k->k < 1->i+k < s.size/\128<=(s.get! (i+k)).toNat:=fun k h1 h2=>absurd h1 (by omega)
  unfold Utf8.decode;dsimp only;rw [if_neg (show ¬ (s.get! (i+0)).toNat < 128 from h0)];split
  ·rename_i h;rw [Bool.and_eq_true,Bool.and_eq_true] at h;split
   ·rename_i hc;refine ⟨hc,Nat.le_of_ble_eq_true rfl,fun k h1 h2=>?_⟩
    obtain rfl:k=1:=by dsimp only at h2;omega
    exact ⟨by simpa using h.2.1,cont_great h.2.2⟩
   ·exact ⟨hr,by decide,one⟩
  ·split
   ·rename_i h;rw [Bool.and_eq_true,Bool.and_eq_true,Bool.and_eq_true,Bool.and_eq_true] at h;split
    ·rename_i hc;rw [Bool.and_eq_true] at hc;have hc1:2048<=_:=of_decide_eq_true hc.1;refine ⟨Nat.le_trans (by decide) hc1,Nat.le_of_ble_eq_true rfl,fun k h1 h2=>?_⟩
     have h3:k=1\/k=2:=by dsimp only at h2;omega
     rcases h3 with rfl | rfl
     ·exact ⟨by simpa using h.1.2.1,cont_great h.1.2.2⟩
     ·exact ⟨by simpa using h.2.1,cont_great h.2.2⟩
    ·exact ⟨hr,by decide,one⟩
   ·split
    ·rename_i h;rw [Bool.and_eq_true,Bool.and_eq_true,Bool.and_eq_true,Bool.and_eq_true,Bool.and_eq_true,Bool.and_eq_true] at h;split
     ·rename_i hc;rw [Bool.and_eq_true] at hc;have hc1:65536<=_:=of_decide_eq_true hc.1;refine ⟨Nat.le_trans (by decide) hc1,Nat.le_of_ble_eq_true rfl,fun k h1 h2=>?_⟩
      have h3:k=1\/k=2\/k=3:=by dsimp only at h2;omega
      rcases h3 with rfl | rfl | rfl
      ·exact ⟨by simpa using h.1.1.2.1,cont_great h.1.1.2.2⟩
      ·exact ⟨by simpa using h.1.2.1,cont_great h.1.2.2⟩
      ·exact ⟨by simpa using h.2.1,cont_great h.2.2⟩
     ·exact ⟨hr,by decide,one⟩
    ·exact ⟨hr,by decide,one⟩
def spB:List UInt8->Nat->Option Nat->List (Nat × Nat)->List (Nat × Nat) × Option Nat
 | [],_,st,acc=>(acc,st)
 | c :: l,pos,st,acc=>if c=32 then (match st with
   | some a=>spB l (pos+1) none (acc++[(a,pos)])
   | none=>spB l (pos+1) none acc) else spB l (pos+1) (some (st.getD pos)) acc
theorem spB_cons (c:UInt8) (l:List UInt8) (pos:Nat) (st:Option Nat) (acc:List (Nat × Nat)):spB (c :: l) pos st acc=if c=32 then (match st with
   | some a=>spB l (pos+1) none (acc++[(a,pos)])
   | none=>spB l (pos+1) none acc) else spB l (pos+1) (some (st.getD pos)) acc:=by cases st <;> rfl
theorem spans_step (p:Nat->Bool) (s:ByteArray) (f pos:Nat) (st:Option Nat) (acc:List (Nat × Nat)) (h:pos < s.size):Lib.spansFromP p s (f+1) pos st acc =
  if p (Utf8.decode s pos).1 then (match st with
   | some a=>Lib.spansFromP p s f (pos+(Utf8.decode s pos).2) none (acc++[(a,pos)])
   | none=>Lib.spansFromP p s f (pos+(Utf8.decode s pos).2) none acc)
  else (match st with
   | some a=>Lib.spansFromP p s f (pos+(Utf8.decode s pos).2) (some a) acc
   | none=>Lib.spansFromP p s f (pos+(Utf8.decode s pos).2) (some pos) acc):=by
 cases st <;> exact if_pos h
theorem get_drop {l:List UInt8} {i:Nat} (h:i < l.length):l.drop i=(⟨l.toArray⟩:ByteArray).get! i :: l.drop (i+1):=by
 rw [List.drop_eq_getElem_cons h];congr 1
 show l[i]=l.toArray[i]!
 rw [getElem!_pos l.toArray i (by simpa using h)];simp
theorem spB_great (l:List UInt8) (a:Nat) (acc:List (Nat × Nat)):∀ (k pos:Nat),pos+k<=l.length->(∀ j,j < k->(⟨l.toArray⟩:ByteArray).get! (pos+j) ≠ 32)->spB (l.drop pos) pos (some a) acc=spB (l.drop (pos+k)) (pos+k) (some a) acc
 | 0,_,_,_=>rfl
 | k+1,pos,hk,h=>by
  have h0:=h 0 (by omega);rw [Nat.add_zero] at h0;rw [get_drop (by omega),spB,if_neg h0];rw [show (some a).getD pos=a from rfl,spB_great l a acc k (pos+1) (by omega) (fun j hj=>by
   have:=h (j+1) (by omega);rwa [show pos+(j+1)=pos+1+j by omega] at this),show pos+1+k=pos+(k+1) by omega]
theorem spans_bytes (l:List UInt8):∀ (f pos:Nat) (st:Option Nat) (acc:List (Nat × Nat)),l.length<=pos+f->Lib.spansFromP (fun r=>r == 32) ⟨l.toArray⟩ f pos st acc=spB (l.drop pos) pos st acc:=by
 intro f;have hsz:(⟨l.toArray⟩:ByteArray).size=l.length:=by simp [ByteArray.size]
 induction f with
 | zero =>
  intro pos st acc h;rw [List.drop_of_length_le (by omega)];rfl
 | succ f ih =>
  intro pos st acc h;by_cases hp:pos < l.length
  ·have hd:=decode_any ⟨l.toArray⟩ pos;rw [spans_step _ _ _ _ _ _ (by rw [hsz];exact hp),get_drop hp,spB_cons];generalize hx:(⟨l.toArray⟩:ByteArray).get! pos=x at *;rcases hd with ⟨h1,h2⟩ | ⟨h1,h2,h3,h4⟩
   ·rw [h2];by_cases he:x=32
    ·subst he;rw [if_pos rfl,if_pos (by decide)];cases st with
     | none=>exact ih (pos+1) none acc (by omega)
     | some a=>exact ih (pos+1) none _ (by omega)
    ·have hne:¬ ((x.toNat == 32)=true):=by
      intro e;exact he (UInt8.toNat_inj.1 (by simpa using e))
     rw [if_neg he,if_neg hne];cases st with
     | none=>exact ih (pos+1) _ acc (by omega)
     | some a=>exact ih (pos+1) _ acc (by omega)
   ·have he:x ≠ 32:=by rintro rfl;exact absurd h1 (by decide)
    have hne:¬ (((Utf8.decode ⟨l.toArray⟩ pos).1 == 32)=true):=by
     intro e;have:(Utf8.decode ⟨l.toArray⟩ pos).1=32:=by simpa using e
     omega
    generalize hw:(Utf8.decode ⟨l.toArray⟩ pos).2=wd at *;obtain ⟨wk,rfl⟩:∃ wk,wd=wk+1:=⟨wd - 1,by omega⟩
    rw [if_neg he,if_neg hne];have hle:pos+1+wk<=l.length:=by
     rcases Nat.eq_zero_or_pos wk with h0 | h0
     ·omega
     ·have:=(h4 wk h0 (by omega)).1;rw [hsz] at this;omega
    have hg:∀ a,spB (l.drop (pos+1)) (pos+1) (some a) acc=spB (l.drop (pos+(wk+1))) (pos+(wk+1)) (some a) acc:=fun a=>by
     rw [spB_great l a acc wk (pos+1) hle (fun j hj=>by
      have:=(h4 (j+1) (by omega) (by omega)).2;rw [show pos+(j+1)=pos+1+j by omega] at this;intro e;rw [e] at this;exact absurd this (by decide)),show pos+1+wk=pos+(wk+1) by omega]
    rw [hg];cases st with
    | none=>exact ih _ _ acc (by omega)
    | some a=>exact ih _ _ acc (by omega)
  ·rw [Lib.spansFromP_end _ _ _ _ _ _ (by rw [hsz];exact hp),List.drop_of_length_le (by omega)];rfl
theorem words_hit {x:List UInt8} (hx:∀ d ∈ x,d ≠ 32) (hn:x ≠ []) (l:List UInt8):wordsL (x++32 :: l)=x :: wordsL l:=by
 unfold wordsL;rw [splitC_hit _ hx,List.filter_cons,if_pos (by cases x with | nil=>exact absurd rfl hn | cons a b=>rfl)]
theorem words_space (l:List UInt8):wordsL (32 :: l)=wordsL l:=by
 unfold wordsL;have:=splitC_hit (c:=32) l (a:=[]) (fun _ h=>by cases h);rw [List.nil_append] at this;rw [this];rfl
theorem words_end {x:List UInt8} (hx:∀ d ∈ x,d ≠ 32) (hn:x ≠ []):wordsL x=[x]:=by
 unfold wordsL;rw [splitC_none hx,List.filter_cons,if_pos (by cases x with | nil=>exact absurd rfl hn | cons a b=>rfl)];rfl
theorem spB_words (l:List UInt8):∀ (n pos:Nat) (st:Option Nat) (acc:List (Nat × Nat)),l.length=pos+n->(∀ a,st=some a->a < pos/\∀ d ∈ (l.drop a).take (pos - a),d ≠ 32) →
  (Lib.closeSpans ⟨l.toArray⟩ (spB (l.drop pos) pos st acc)).map (fun x=>(⟨l.toArray⟩:ByteArray).extract x.1 x.2) =
   acc.map (fun x=>(⟨l.toArray⟩:ByteArray).extract x.1 x.2)++(wordsL ((match st with | some a=>(l.drop a).take (pos - a) | none=>[])++l.drop pos)).map (fun x=>(⟨x.toArray⟩:ByteArray)):=by
 have hex:∀ a b,(⟨l.toArray⟩:ByteArray).extract a b=⟨((l.drop a).take (b - a)).toArray⟩:=fun a b=>Lib.extract_mk l a b
 have hsz:(⟨l.toArray⟩:ByteArray).size=l.length:=by simp [ByteArray.size]
 intro n;induction n with
 | zero =>
  intro pos st acc hl hst;rw [List.drop_of_length_le (by omega),List.append_nil];unfold spB Lib.closeSpans;cases st with
  | none=>simp [wordsL,splitC]
  | some a =>
   obtain ⟨h1,h2⟩:=hst a rfl;have hne:(l.drop a).take (pos - a) ≠ []:=by
    intro e;have:=congrArg List.length e;simp at this
    omega
   dsimp only;rw [words_end h2 hne,List.map_append];simp only [List.map_cons,List.map_nil,hex,hsz];rw [show l.length=pos by omega]
 | succ n ih =>
  intro pos st acc hl hst;rw [List.drop_eq_getElem_cons (show pos < l.length by omega),spB_cons];by_cases hc:l[pos]'(by omega)=32
  ·rw [if_pos hc,hc];cases st with
   | none =>
    dsimp only;rw [ih (pos+1) none acc (by omega) (fun _ h=>by cases h)];dsimp only;rw [List.nil_append,List.nil_append,words_space]
   | some a =>
    obtain ⟨h1,h2⟩:=hst a rfl;have hne:(l.drop a).take (pos - a) ≠ []:=by
     intro e;have:=congrArg List.length e;simp at this
     omega
    dsimp only;rw [ih (pos+1) none _ (by omega) (fun _ h=>by cases h),words_hit h2 hne];simp [hex]
  ·rw [if_neg hc];have hpart:∀ a,a<=pos->(l.drop a).take (pos+1 - a)=(l.drop a).take (pos - a)++[l[pos]'(by omega)]:=fun a ha=>by
    rw [show pos+1 - a=(pos - a)+1 by omega,List.take_succ_eq_append_getElem (by rw [List.length_drop];omega),List.getElem_drop];congr 3
    omega
   cases st with
   | none =>
    have hp2:=hpart pos (Nat.le_refl _);rw [Nat.sub_self,List.take_zero,List.nil_append] at hp2;rw [show (none:Option Nat).getD pos=pos from rfl,ih (pos+1) (some pos) acc (by omega) (fun a ha=>by
     cases ha
     refine ⟨by omega,fun d hd=>?_⟩
     rw [hp2] at hd;obtain rfl:d=_:=by simpa using hd
     exact hc)]
    dsimp only;rw [hp2];simp
   | some a =>
    obtain ⟨h1,h2⟩:=hst a rfl;have hp2:=hpart a (by omega);rw [show (some a).getD pos=a from rfl,ih (pos+1) (some a) acc (by omega) (fun b hb=>by
     cases hb
     refine ⟨by omega,fun d hd=>?_⟩
     rw [hp2] at hd;rcases List.mem_append.1 hd with hd | hd
     ·exact h2 d hd
     ·obtain rfl:d=_:=by simpa using hd
      exact hc)]
    dsimp only;rw [hp2];simp
theorem fields_words (l:List UInt8):Lib.goFieldsP (fun r=>r == 32) ⟨l.toArray⟩=(wordsL l).map (fun x=>(⟨x.toArray⟩:ByteArray)):=by
 have hsz:(⟨l.toArray⟩:ByteArray).size=l.length:=by simp [ByteArray.size]
 unfold Lib.goFieldsP Lib.spansOfP;rw [hsz,spans_bytes l l.length 0 none [] (by omega)];have:=spB_words l l.length 0 none [] (by omega) (fun _ h=>by cases h);rw [this];simp
theorem index_two (c d:UInt8) (l:List UInt8):Lib.index (c :: d :: l) [124,124]=if c=124/\d=124 then 0 else if Lib.index (d :: l) [124,124] == -1 then -1 else Lib.index (d :: l) [124,124]+1:=by
 rw [Lib.index];have:List.isPrefixOf [124,124] (c :: d :: l)=(decide (c=124/\d=124)):=by
  rw [List.isPrefixOf,List.isPrefixOf,List.isPrefixOf];by_cases h1:c=124
  ·by_cases h2:d=124
   ·subst h1;subst h2;rfl
   ·have e:((124:UInt8) == d)=false:=by simpa using fun h=>h2 h.symm
    simp [h2,e]
  ·have e:((124:UInt8) == c)=false:=by simpa using fun h=>h1 h.symm
   simp [h1,e]
 rw [this];by_cases h:c=124/\d=124
 ·rw [if_pos h,if_pos (by simpa using h)]
 ·rw [if_neg h,if_neg (by simpa using h)]
theorem splitO_none:∀ l:List UInt8,Lib.index l [124,124] = -1->splitO l=[l]
 | [],_=>rfl
 | [c],_=>rfl
 | c :: d :: l,h=>by
  rw [index_two] at h;by_cases hc:c=124/\d=124
  ·rw [if_pos hc] at h;cases h
  ·rw [if_neg hc] at h;have h2:Lib.index (d :: l) [124,124] = -1:=by
    by_cases e:Lib.index (d :: l) [124,124] = -1
    ·exact e
    ·rw [if_neg (by simpa using e)] at h;have:=Lib.index_ge (d :: l) [124,124];omega
   rw [splitO,if_neg hc,splitO_none (d :: l) h2]
theorem splitO_hit:∀ (l:List UInt8) (i:Nat),Lib.index l [124,124]=(i:Int)->splitO l=l.take i :: splitO (l.drop (i+2))/\i+2<=l.length
 | [],i,h=>by
  have:Lib.index [] [124,124] = -1:=rfl;omega
 | [c],i,h=>by
  have:Lib.index [c] [124,124] = -1:=by
   rw [Lib.index];have e:List.isPrefixOf [124,124] [c]=false:=by
    rw [List.isPrefixOf];simp
   rw [e];rfl
  omega
 | c :: d :: l,i,h=>by
  rw [index_two] at h;by_cases hc:c=124/\d=124
  ·rw [if_pos hc] at h;have:i=0:=by omega
   subst this;rw [splitO,if_pos hc];exact ⟨rfl,by simp⟩
  ·rw [if_neg hc] at h;by_cases e:Lib.index (d :: l) [124,124] = -1
   ·rw [if_pos (by simpa using e)] at h;omega
   ·rw [if_neg (by simpa using e)] at h;have:=Lib.index_ge (d :: l) [124,124];obtain ⟨k,rfl⟩:∃ k,i=k+1:=⟨i - 1,by omega⟩
    obtain ⟨h1,h2⟩:=splitO_hit (d :: l) k (by omega);rw [splitO,if_neg hc,h1];exact ⟨rfl,by simp at h2 ⊢;omega⟩
theorem splitO_mem_le:∀ (l:List UInt8),∀ p ∈ splitO l,p.length<=l.length
 | [],p,hp=>by simp [splitO] at hp;simp [hp]
 | [c],p,hp=>by simp [splitO] at hp;simp [hp]
 | c :: d :: l,p,hp=>by
  have h1:=splitO_mem_le l;have h2:=splitO_mem_le (d :: l);rw [splitO] at hp;split at hp
  ·rcases List.mem_cons.1 hp with rfl | hp
   ·simp
   ·have:=h1 p hp;simp;omega
  ·split at hp
   ·simp at hp;simp [hp]
   ·rename_i q r h;rw [h] at h2;rcases List.mem_cons.1 hp with rfl | hp
    ·have:=h2 q (by simp);simp at this ⊢;omega
    ·have:=h2 p (by simp [hp]);simp at this ⊢;omega
/-! ### Spaces about -/
theorem splitC_snoc (c:UInt8):∀ l:List UInt8,splitC c (l++[c])=splitC c l++[[]]
 | []=>by
  show splitC c [c]=_
  simp [splitC]
 | d :: l=>by
  have ih:=splitC_snoc c l;show splitC c (d :: (l++[c]))=_
  rw [splitC,splitC,ih];by_cases h:d=c
  ·rw [if_pos h,if_pos h];rfl
  ·rw [if_neg h,if_neg h];match hs:splitC c l with
   | []=>exact absurd hs (splitC_ne c l)
   | p :: r=>rfl
theorem words_snoc (l:List UInt8):wordsL (l++[32])=wordsL l:=by
 unfold wordsL;rw [splitC_snoc,List.filter_append];simp
theorem words_lead:∀ l:List UInt8,wordsL (l.dropWhile (· == 32))=wordsL l
 | []=>rfl
 | d :: l=>by
  by_cases h:d=32
  ·subst h;rw [List.dropWhile_cons,if_pos (by simp),words_lead l,words_space]
  ·rw [List.dropWhile_cons,if_neg (by simpa using h)]
theorem words_trail:∀ (n:Nat) (l:List UInt8),l.length=n->wordsL (l.reverse.dropWhile (· == 32)).reverse=wordsL l:=by
 intro n;induction n with
 | zero=>intro l hl;rw [List.length_eq_zero_iff.1 hl];rfl
 | succ n ih =>
  intro l hl;have hne:l ≠ []:=by intro e;rw [e] at hl;cases hl
  have e:=List.dropLast_concat_getLast hne;generalize l.getLast hne=z at *;generalize hd:l.dropLast=d at *;subst e;rw [List.reverse_append];show wordsL ((z :: d.reverse).dropWhile (· == 32)).reverse=_
  by_cases h:z=32
  ·subst h;rw [List.dropWhile_cons,if_pos (by simp),ih d (by simpa using hl),words_snoc]
  ·rw [List.dropWhile_cons,if_neg (by simpa using h)];simp
theorem words_trim (l:List UInt8):wordsL (Lib.trimB l 32)=wordsL l:=by
 unfold Lib.trimB Lib.trimLeftB Lib.trimRightB;rw [words_lead,words_trail _ l rfl]
theorem words_nil:∀ {l:List UInt8},wordsL l=[]->∀ d ∈ l,d=32:=by
 intro l h d hd;apply Classical.byContradiction
 intro hne;have hall:∀ x ∈ splitC 32 l,x=[]:=fun x hx=>by
  cases x with
  | nil=>rfl
  | cons a b =>
   have:(a :: b) ∈ wordsL l:=List.mem_filter.2 ⟨hx,rfl⟩;rw [h] at this;cases this
 have key:∀ m:List UInt8,d ∈ m->∃ x ∈ splitC 32 m,d ∈ x:=by
  intro m;induction m with
  | nil=>intro h;cases h
  | cons a m ih =>
   intro hm;rw [splitC];by_cases ha:a=32
   ·rw [if_pos ha];rcases List.mem_cons.1 hm with e | hm
    ·exact absurd (e.trans ha) hne
    ·obtain ⟨x,hx,hx2⟩:=ih hm;exact ⟨x,by simp [hx],hx2⟩
   ·rw [if_neg ha];match hs:splitC 32 m with
    | []=>exact absurd hs (splitC_ne 32 m)
    | p :: r =>
     rcases List.mem_cons.1 hm with e | hm
     ·exact ⟨a :: p,by simp,by simp [e]⟩
     ·obtain ⟨x,hx,hx2⟩:=ih hm;rw [hs] at hx;rcases List.mem_cons.1 hx with rfl | hx
      ·exact ⟨a :: x,by simp,by simp [hx2]⟩
      ·exact ⟨x,by simp [hx],hx2⟩
 obtain ⟨x,hx,hdx⟩:=key l hd;rw [hall x hx] at hdx;cases hdx
theorem trim_ends (l:List UInt8):(∀ d,(Lib.trimB l 32).head? = some d->d ≠ 32)/\(∀ d,(Lib.trimB l 32).getLast? = some d->d ≠ 32):=by
 have hh:∀ m:List UInt8,∀ d,(m.dropWhile (· == 32)).head? = some d->d ≠ 32:=by
  intro m;induction m with
  | nil=>intro d h;cases h
  | cons a m ih =>
   intro d h;rw [List.dropWhile_cons] at h;by_cases ha:a=32
   ·rw [if_pos (by simpa using ha)] at h;exact ih d h
   ·rw [if_neg (by simpa using ha)] at h;have:a=d:=by simpa using h
    rw [<- this];exact ha
 unfold Lib.trimB Lib.trimLeftB Lib.trimRightB;refine ⟨hh _,fun d h=>?_⟩
 have hs:∀ m:List UInt8,∀ d,(m.dropWhile (· == 32)).getLast? = some d->m.getLast? = some d:=by
  intro m;induction m with
  | nil=>intro d h;cases h
  | cons a m ih =>
   intro d h;rw [List.dropWhile_cons] at h;by_cases ha:a=32
   ·rw [if_pos (by simpa using ha)] at h;have:=ih d h;rw [List.getLast?_cons,this];rfl
   ·rw [if_neg (by simpa using ha)] at h;exact h
 have h2:=hs _ d h;rw [List.getLast?_reverse] at h2;exact hh _ d h2
theorem trim_star (l:List UInt8):Lib.trimB l 32=[42] ↔ wordsL l=[[42]]:=by
 constructor
 ·intro h;rw [<- words_trim,h];decide
 ·intro h;rw [<- words_trim] at h;obtain ⟨h1,h2⟩:=trim_ends l;generalize Lib.trimB l 32=t at *;by_cases hs:(32:UInt8) ∈ t
  ·obtain ⟨a,b,rfl,ha⟩:=first_place hs;cases a with
   | nil=>exact absurd rfl (h1 32 rfl)
   | cons x a =>
    rw [words_hit ha (by simp)] at h;have hb:wordsL b=[]:=by
     have:=List.tail_eq_of_cons_eq h;exact this
    have hb2:=words_nil hb;have hl:((x :: a)++32 :: b).getLast? = some 32:=by
     rw [List.getLast?_append];have:(32 :: b).getLast? = some 32:=by
      have hz:∀ z ∈ 32 :: b,z=32:=fun z hz=>by
       rcases List.mem_cons.1 hz with rfl | hz
       ·rfl
       ·exact hb2 z hz
      rw [List.getLast?_eq_some_getLast (by simp)];rw [hz _ (List.getLast_mem (by simp))]
     rw [this];rfl
    exact absurd rfl (h2 32 hl)
  ·by_cases hn:t=[]
   ·subst hn;cases h
   ·rw [words_end (fun d hd e=>hs (e ▸ hd)) hn] at h;exact List.head_eq_of_cons_eq h
structure VerOk (v:Ver):Prop where
 ma:0<=v.ma/\v.ma<=999999999
 mi:0<=v.mi/\v.mi<=999999999
 pa:0<=v.pa/\v.pa<=999999999
theorem wrap_small {x:Int} (h:0<=x/\x<=1000000000):wrap64 x=x:=by
 unfold wrap64;omega
theorem indexfunc_nds (g:Nat) (lb:Array Value) (eg:∀ args w,(callFunc g args).run prog w=.ok (.enter g args) w) (p:NdX->Bool) (xs:List NdX) (hx:xs.length<=1000000) (hc:∀ x ∈ xs,(NdX.cells x).length=4) (v:Value) (w:World) (hv:Sl w No 98 v xs.length (xs.flatMap NdX.cells))
  (hp:∀ i (hi:i < xs.length),∀ W,Mod No w W->Calls prog g (#[.agg (NdX.cells xs[i]).toArray]++lb) W fun e w'=>e=.returned (.bool (p xs[i]))/\Mod No W w') :
  Calls prog 122 #[v,.func (.func g) #[] lb] w fun e w'=>e=.returned (.int .i64 (findI p xs))/\Mod No w w':=by
 refine calls_hide fun R hR=>?_
 obtain ⟨va,vc,rfl⟩:=hv.len;have HV:=zh hv;have HP:=zh hp;have HCL:=zh hc;clear hv hp hc;go_enter func122,ntmps122
 go_wp2_with fail
 go_loopw [8] (fun q wr=>∃ k:Nat,k<=xs.length/\q=.int .i64 k/\Mod No w wr/\∀ i (hi:i < xs.length),i < k->p xs[i]=false) (fun q _=>xs.length - (intOf q).toNat)
 case atStart=>exact ⟨0,by omega,rfl,Mod.refl _ _,fun i _ hi=>absurd hi (by omega)⟩
 case round =>
  obtain ⟨k,hk,rfl,hmod,hno⟩:=hrel;have HM:=zh hmod;have HNO:=zh hno;have hk0:(0:Int)<=(k:Int):=Int.natCast_nonneg _;clear hmod hno;by_cases hlt:k < xs.length
  ·have hk1:(k:Int) < (xs.length:Int):=by omega
   obtain ⟨b,o,c,hvs,_⟩:=HV.out.shape (by omega);cases hvs
   have hrg:=HM.out.rangeAt (Sl.atM HCL.out HV.out hlt) (fun f=>f);have HRG:=zh hrg;have HCK:=zh (HCL.out _ (List.getElem_mem hlt));have HC:=zh (HP.out k hlt _ HM.out);have HN:=zh (show p xs[k]=false->∀ i (hi:i < xs.length),i < k+1->p xs[i]=false from fun h i hi hik=>by
    rcases Nat.lt_or_ge i k with h3 | h3
    ·exact HNO.out i hi h3
    ·obtain rfl:i=k:=by omega
     exact h)
   have HH:=zh (show p xs[k]=true->findI p xs=(k:Int) from fun h=>findI_hit hlt HNO.out h);clear HNO hrg;generalize NdX.cells xs[k]=cs at *;go_wp2_with (refine wpList_load_mid rfl 98 _ rfl b (o+k*4) rfl cs _ HRG.out (underlying98) rfl (by rw [HCK.out];kernel_rfl) ?_)
   with_reducible refine HC.out.mono ?_
   rintro e w2 ⟨rfl,hm2⟩;have HM2:=zh (HM.out.trans hm2);clear hm2 HC HRG HCK;generalize p xs[k]=pk at *;rcases pk with _ | _
   ·go_wp2_with fail
    exact ⟨⟨k+1,by omega,rfl,HM2.out,HN.out (by trivial)⟩,by show xs.length - ((k:Int)+1).toNat < xs.length - (k:Int).toNat;omega⟩
   ·have hf:=HH.out (by trivial);go_wp2_with fail
    refine fin hR ⟨?_,HM2.out⟩
    rw [hf];rfl
  ·go_wp2_with fail
   refine fin hR ⟨?_,HM.out⟩
   rw [findI_none (p:=p) (l:=xs) (fun i hi=>HNO.out i hi (by omega))];rfl
theorem hasfn_any (x:NdX) (oa:Option Addr) (om oc:Nat) (hov:x.ov=.slice oa om oc) (name:List UInt8) (nb:Nat) (w:World) (hn:w.heap[nb]? = some (.cells #[strV name] 9 (0,0))) :
  Calls prog 184 #[.agg (NdX.cells x).toArray,.pointer (some ⟨nb,0,none⟩)] w fun e w'=>e=.returned (.bool (decide (x.n.name=name)))/\Mod No w w':=by
 refine calls_hide fun R hR=>?_
 unfold NdX.cells;rw [hov];obtain ⟨⟨nm,⟨an,os⟩,tx⟩,ov⟩:=x;dsimp only at *;have h1:=str_list nm;have h2:=str_list name;unfold strV at *;generalize (⟨nm.toArray⟩:ByteArray)=A1 at *;generalize (⟨name.toArray⟩:ByteArray)=A2 at *;generalize (⟨tx.toArray⟩:ByteArray)=A3 at *;have HN:=zh hn;clear hn;go_enter func184,ntmps184
 go_upto_region 1 with fail
 obtain ⟨gx,hgx⟩:∃ g,g=w.heap.size:=⟨_,rfl⟩
 rw [<- hgx];generalize hw1:World.alloc w _=w1;have hx1:w1.heap[gx]? = some (.cells #[.string A1,.bool an,.slice oa om oc,.string A3] 98 (0,0)):=by rw [<- hw1,hgx];exact heap_alloc_new w _
 have c0:w1.cell? ⟨nb,0,none⟩=some (.string A2):=cell_ofA (show w1.heap[nb]? = _ by rw [<- hw1];exact heap_alloc_old _ HN.out) rfl;have c1:w1.cell? ⟨gx,0,none⟩=some (.string A1):=cell_ofA hx1 rfl;have HM:=zh (show Mod No w w1 by rw [<- hw1];exact (Mod.refl No w).alloc _);clear hw1 hgx hx1;go_wp2_with fail
 refine fin hR ⟨bool_ret ?_,HM.out⟩
 by_cases hh:nm=name
 ·rw [decide_eq_true hh,hh];simp
 ·rw [decide_eq_false hh];simpa using hh
theorem containsfunc_nds (g:Nat) (lb:Array Value) (eg:∀ args w,(callFunc g args).run prog w=.ok (.enter g args) w) (p:NdX->Bool) (xs:List NdX) (hx:xs.length<=1000000) (v:Value) (w:World) (hv:Sl w No 98 v xs.length (xs.flatMap NdX.cells))
  (hp:∀ i (hi:i < xs.length),∀ W,Mod No w W->Calls prog g (#[.agg (NdX.cells xs[i]).toArray]++lb) W fun e w'=>e=.returned (.bool (p xs[i]))/\Mod No W w') :
  Calls prog 71 #[v,.func (.func g) #[] lb] w fun e w'=>e=.returned (.bool (xs.any p))/\Mod No w w':=by
 refine calls_hide fun R hR=>?_
 have HC:=zh (indexfunc_nds g lb eg p xs hx (fun x _=>NdX.cells_length x) v w hv hp);obtain ⟨va,vc,rfl⟩:=hv.len;have HA:=zh (findI_any p xs);clear hv hp;go_enter func71,ntmps71
 go_wp2_with fail
 with_reducible refine HC.out.mono ?_
 rintro e w2 ⟨rfl,hm2⟩;have HM2:=zh hm2;clear hm2 HC;generalize findI p xs=r at *;go_wp2_with fail
 refine fin hR ⟨bool_ret ?_,HM2.out⟩
 exact HA.out
theorem has_any (xs:List NdX) (hx:xs.length<=1000000) (hov:∀ x ∈ xs,∃ oa om oc,x.ov=.slice oa om oc) (name:List UInt8) (v:Value) (w:World) (hv:Sl w No 98 v xs.length (xs.flatMap NdX.cells)) :
  Calls prog 118 #[v,strV name] w fun e w'=>e=.returned (.bool (xs.any fun x=>decide (x.n.name=name)))/\Mod No w w':=by
 refine calls_hide fun R hR=>?_
 have HC:=zh (fun W hvW (hn:W.heap[w.heap.size]? = some (.cells #[strV name] 9 (0,0)))=>containsfunc_nds 184 #[.pointer (some ⟨w.heap.size,0,none⟩)] (fun _ _=>rfl) (fun x=>decide (x.n.name=name)) xs hx v W hvW (fun i hi W' hm=>by
  obtain ⟨oa,om,oc,h⟩:=hov _ (List.getElem_mem hi);exact hasfn_any xs[i] oa om oc h name w.heap.size W' (hm.keep hn (fun f=>f))))
 have HV:=zh (Sl.keep (S:=No) hv ((Mod.refl No w).alloc (.cells #[strV name] 9)) (fun _ _ _ f=>f.elim));have HN:=zh (heap_alloc_new w (.cells #[strV name] 9));obtain ⟨va,vc,rfl⟩:=hv.len;clear hv hov;unfold strV at *;generalize (⟨name.toArray⟩:ByteArray)=A2 at *;generalize (xs.any fun x=>decide (x.n.name=name))=r at *;go_enter func118,ntmps118
 go_wp2_with fail
 with_reducible refine (HC.out _ HV.out HN.out).mono ?_
 rintro e w2 ⟨rfl,hm2⟩;have HM2:=zh (((Mod.refl No w).alloc (.cells #[.string A2] 9)).trans hm2);clear hm2 HC HV HN;go_wp2_with fail
 exact fin hR ⟨rfl,HM2.out⟩
structure N3 (w0 w:World) (gx gy gz:Nat) (x0 x1 x2:Value):Prop where
 hx:w.heap[gx]? = some (.cells #[x0,x1,x2,.slice none 0 0] 40 (0,0))
 hy:w.heap[gy]? = some (.cells #[.int .i64 0,.int .i64 0,.int .i64 0,.slice none 0 0] 40 (0,0))
 hz:w.heap[gz]? = some (.cells #[.pointer (some ⟨gx,0,none⟩),.pointer (some ⟨gx,1,none⟩),.pointer (some ⟨gx,2,none⟩)] 302 (0,0))
 hm:Mod No w0 w
 lt:w0.heap.size<=gx/\gx < gy/\gy < gz
theorem N3.set {w0 w:World} {gx gy gz:Nat} {x0 x1 x2:Value} (h:N3 w0 w gx gy gz x0 x1 x2) (i:Nat) (v:Value) {y0 y1 y2:Value} (hs:(#[x0,x1,x2,.slice none 0 0]:Array Value).setIfInBounds i v=#[y0,y1,y2,.slice none 0 0]):N3 w0 (w.setCell ⟨gx,i,none⟩ v) gx gy gz y0 y1 y2:=by
 obtain ⟨h1,h2,h3⟩:=h.lt;refine ⟨?_,?_,?_,h.hm.setCell (fun h=>by dsimp only at h;omega) _,h.lt⟩
 ·rw [heap_setCell h.hx,hs]
 ·rw [heap_setCell_ne _ (by dsimp only;omega)];exact h.hy
 ·rw [heap_setCell_ne _ (by dsimp only;omega)];exact h.hz
theorem N3.cells {w0 w:World} {gx gy gz:Nat} {x0 x1 x2:Value} (h:N3 w0 w gx gy gz x0 x1 x2) :
  (w.cell? ⟨gx,0,none⟩=some x0/\w.cell? ⟨gx,1,none⟩=some x1/\w.cell? ⟨gx,2,none⟩=some x2/\w.cell? ⟨gx,3,none⟩=some (.slice none 0 0)) ∧
  (w.frozen? ⟨gx,0,none⟩=false/\w.frozen? ⟨gx,1,none⟩=false/\w.frozen? ⟨gx,2,none⟩=false) ∧
  (w.cell? ⟨gz,0,none⟩=some (.pointer (some ⟨gx,0,none⟩))/\w.cell? ⟨gz,1,none⟩=some (.pointer (some ⟨gx,1,none⟩))/\w.cell? ⟨gz,2,none⟩=some (.pointer (some ⟨gx,2,none⟩))) :=
 ⟨⟨cell_ofA h.hx rfl,cell_ofA h.hx rfl,cell_ofA h.hx rfl,cell_ofA h.hx rfl⟩,⟨frozen_of _ h.hx,frozen_of _ h.hx,frozen_of _ h.hx⟩,cell_ofA h.hz rfl,cell_ofA h.hz rfl,cell_ofA h.hz rfl⟩
theorem next_any (v:Ver) (pv:Value) (p:Nat) (hp:p < 3) (hv:VerOk v) (w:World) :
  Calls prog 228 #[verV v pv,.int .i64 (p:Int)] w fun e w'=>e=.returned (verV (nextV v p) (.slice none 0 0))/\Mod No w w':=by
 refine calls_hide fun R hR=>?_
 obtain ⟨a,b,c,pre⟩:=v;obtain ⟨⟨ha0,ha1⟩,⟨hb0,hb1⟩,⟨hc0,hc1⟩⟩:=hv;dsimp only at ha0 ha1 hb0 hb1 hc0 hc1;have hwa:=wrap_small (x:=a+1) (by omega);have hwb:=wrap_small (x:=b+1) (by omega);have hwc:=wrap_small (x:=c+1) (by omega);have HNX:=zh (show nextV ⟨a,b,c,pre⟩ p=if p=0 then (if a < 999999999 then ⟨a+1,0,0,[]⟩ else ⟨a,b,c,[]⟩) else if p=1 then (if b < 999999999 then ⟨a,b+1,0,[]⟩ else ⟨a,b,c,[]⟩) else (if c < 999999999 then ⟨a,b,c+1,[]⟩ else ⟨a,b,c,[]⟩) from rfl);unfold verV at *;dsimp only at *;go_enter func228,ntmps228
 go_upto_region 1 with fail
 obtain ⟨gx,hgx⟩:∃ g,g=w.heap.size:=⟨_,rfl⟩
 obtain ⟨gy,hgy⟩:∃ g,g=gx+1:=⟨_,rfl⟩
 rw [<- hgx,<- hgy];obtain ⟨wA,hwA⟩:∃ z,z=(w.alloc (.cells #[.int .i64 a,.int .i64 b,.int .i64 c,pv] 40)).alloc (.cells #[.int .i64 0,.int .i64 0,.int .i64 0,.slice none 0 0] 40):=⟨_,rfl⟩
 have hx1:wA.heap[gx]? = some (.cells #[.int .i64 a,.int .i64 b,.int .i64 c,pv] 40 (0,0)):=by rw [hwA,hgx];exact heap_alloc_old _ (heap_alloc_new w _)
 have hy1:wA.heap[gy]? = some (.cells #[.int .i64 0,.int .i64 0,.int .i64 0,.slice none 0 0] 40 (0,0)):=by
  rw [hwA,hgy,hgx];have h1:=heap_alloc_new (w.alloc (.cells #[.int .i64 a,.int .i64 b,.int .i64 c,pv] 40)) (.cells #[.int .i64 0,.int .i64 0,.int .i64 0,.slice none 0 0] 40);rw [show (w.alloc (.cells #[.int .i64 a,.int .i64 b,.int .i64 c,pv] 40)).heap.size=w.heap.size+1 by simp] at h1;exact h1
 have HMA:=zh (show Mod No w wA by rw [hwA];exact ((Mod.refl No w).alloc _).alloc _);have HGX:=zh (show w.heap.size<=gx by omega);have HGY:=zh (show gx < gy by omega);rw [<- hwA];have HX1:=zh hx1;have HY1:=zh hy1;obtain ⟨⟨a0,a1,a2,a3⟩,f0,f1,f2,f3⟩:=cells4 hx1;clear hwA hgx hgy hx1 hy1;go_upto_region 2 with fail
 clear a0 a1 a2 a3 f0 f1 f2 f3;have HX2:=zh (show (wA.setCell ⟨gx,3,none⟩ (.slice none 0 0)).heap[gx]? = some (.cells #[.int .i64 a,.int .i64 b,.int .i64 c,.slice none 0 0] 40 (0,0)) by rw [heap_setCell HX1.out];rfl);have HY2:=zh (show (wA.setCell ⟨gx,3,none⟩ (.slice none 0 0)).heap[gy]? = some (.cells #[.int .i64 0,.int .i64 0,.int .i64 0,.slice none 0 0] 40 (0,0)) by rw [heap_setCell_ne _ (by have:=HGY.out;dsimp only;omega)];exact HY1.out);have HM2:=zh (show Mod No w (wA.setCell ⟨gx,3,none⟩ (.slice none 0 0)) from HMA.out.setCell (fun h=>by have:=HGX.out;dsimp only at h;omega) _);generalize wA.setCell ⟨gx,3,none⟩ (.slice none 0 0)=wB at *;clear HX1 HY1 HMA;go_upto_region 3 with fail
 obtain ⟨gz,hgz⟩:∃ g,g=wB.heap.size:=⟨_,rfl⟩
 rw [<- hgz];have HN3:=zh (show N3 w (wB.alloc (.cells #[.pointer (some ⟨gx,0,none⟩),.pointer (some ⟨gx,1,none⟩),.pointer (some ⟨gx,2,none⟩)] 302)) gx gy gz (.int .i64 a) (.int .i64 b) (.int .i64 c) from
  ⟨heap_alloc_old _ HX2.out,heap_alloc_old _ HY2.out,by rw [hgz];exact heap_alloc_new wB _,HM2.out.alloc _,HGX.out,HGY.out,by rw [hgz];exact lt_of_heap HY2.out⟩)
 generalize wB.alloc _=wC at *;clear HX2 HY2 HM2 hgz;match p,hp with
 | 0,_ =>
  have hnx:=HNX.out;rw [if_pos rfl] at hnx;clear HNX;obtain ⟨⟨c0,c1,c2,c3⟩,⟨f0,f1,f2⟩,z0,z1,z2⟩:=HN3.out.cells;by_cases h:a < 999999999
  ·rw [if_pos h] at hnx;have h':¬ (999999999:Int)<=a:=by omega
   have HN:=zh hnx;clear hnx;go_upto_region 8 with fail
   have HD3:=zh (HN3.out.set 0 (.int .i64 (a+1)) (y0:=.int .i64 (a+1)) (y1:=.int .i64 b) (y2:=.int .i64 c) rfl);generalize wC.setCell ⟨gx,0,none⟩ (.int .i64 (a+1))=wD at *;clear HN3 c0 c1 c2 c3 f0 f1 f2 z0 z1 z2 h h';go_wp2_with fail
   go_loopw [40] (fun q wr=>(q=.int .i64 0/\N3 w wr gx gy gz (.int .i64 (a+1)) (.int .i64 b) (.int .i64 c))\/(q=.int .i64 1/\N3 w wr gx gy gz (.int .i64 (a+1)) (.int .i64 0) (.int .i64 c))\/(q=.int .i64 2/\N3 w wr gx gy gz (.int .i64 (a+1)) (.int .i64 0) (.int .i64 0))) (fun q _=>2 - (intOf q).toNat)
   case atStart=>exact .inl ⟨rfl,HD3.out⟩
   case round =>
    rcases hrel with ⟨rfl,hj⟩ | ⟨rfl,hj⟩ | ⟨rfl,hj⟩
    ·obtain ⟨⟨c0,c1,c2,c3⟩,⟨f0,f1,f2⟩,z0,z1,z2⟩:=hj.cells;have HJ:=zh (hj.set 1 (.int .i64 0) (y0:=.int .i64 (a+1)) (y1:=.int .i64 0) (y2:=.int .i64 c) rfl);clear hj;go_wp2_with fail
     exact ⟨.inr (.inl ⟨rfl,HJ.out⟩),by show 2 - ((0:Int)+1).toNat < 2 - (0:Int).toNat;decide⟩
    ·obtain ⟨⟨c0,c1,c2,c3⟩,⟨f0,f1,f2⟩,z0,z1,z2⟩:=hj.cells;have HJ:=zh (hj.set 2 (.int .i64 0) (y0:=.int .i64 (a+1)) (y1:=.int .i64 0) (y2:=.int .i64 0) rfl);clear hj;go_wp2_with fail
     exact ⟨.inr (.inr (⟨rfl,HJ.out⟩)),by show 2 - ((1:Int)+1).toNat < 2 - (1:Int).toNat;decide⟩
    ·have HE3:=zh hj;clear hj;obtain ⟨⟨c0,c1,c2,c3⟩,-,-⟩:=HE3.out.cells;obtain ⟨⟨d0,d1,d2,d3⟩,g0,g1,g2,g3⟩:=cells4 HE3.out.hy;go_wp2_with fail
     have hl:=load_ver (set4 HE3.out.hy (.int .i64 (a+1)) (.int .i64 0) (.int .i64 0) (.slice none 0 0));have HMz:=zh (HE3.out.hm.set4 (b:=gy) (fun h=>by have:=HE3.out.lt;omega) (.int .i64 (a+1)) (.int .i64 0) (.int .i64 0) (.slice none 0 0));exact bodyPost_ret (v:=.agg #[.int .i64 (a+1),.int .i64 0,.int .i64 0,.slice none 0 0]) (by simp [results,results228,asAddr,hl]) rfl (fin hR ⟨by rw [HN.out],HMz.out⟩)
  ·rw [if_neg h] at hnx;have h':(999999999:Int)<=a:=by omega
   have HN:=zh hnx;have HE3:=HN3;clear hnx HN3 c0 c1 c2 c3 f0 f1 f2;obtain ⟨⟨c0,c1,c2,c3⟩,-,-⟩:=HE3.out.cells;obtain ⟨⟨d0,d1,d2,d3⟩,g0,g1,g2,g3⟩:=cells4 HE3.out.hy;go_wp2_with fail
   have hl:=load_ver (set4 HE3.out.hy (.int .i64 a) (.int .i64 b) (.int .i64 c) (.slice none 0 0));have HMz:=zh (HE3.out.hm.set4 (b:=gy) (fun h=>by have:=HE3.out.lt;omega) (.int .i64 a) (.int .i64 b) (.int .i64 c) (.slice none 0 0));exact bodyPost_ret (v:=.agg #[.int .i64 a,.int .i64 b,.int .i64 c,.slice none 0 0]) (by simp [results,results228,asAddr,hl]) rfl (fin hR ⟨by rw [HN.out],HMz.out⟩)
 | 1,_ =>
  have hnx:=HNX.out;rw [if_neg (by decide),if_pos rfl] at hnx;clear HNX;obtain ⟨⟨c0,c1,c2,c3⟩,⟨f0,f1,f2⟩,z0,z1,z2⟩:=HN3.out.cells;by_cases h:b < 999999999
  ·rw [if_pos h] at hnx;have h':¬ (999999999:Int)<=b:=by omega
   have HN:=zh hnx;clear hnx;go_upto_region 8 with fail
   have HD3:=zh (HN3.out.set 1 (.int .i64 (b+1)) (y0:=.int .i64 a) (y1:=.int .i64 (b+1)) (y2:=.int .i64 c) rfl);generalize wC.setCell ⟨gx,1,none⟩ (.int .i64 (b+1))=wD at *;clear HN3 c0 c1 c2 c3 f0 f1 f2 z0 z1 z2 h h';go_wp2_with fail
   go_loopw [40] (fun q wr=>(q=.int .i64 0/\N3 w wr gx gy gz (.int .i64 a) (.int .i64 (b+1)) (.int .i64 c))\/(q=.int .i64 1/\N3 w wr gx gy gz (.int .i64 a) (.int .i64 (b+1)) (.int .i64 0))) (fun q _=>1 - (intOf q).toNat)
   case atStart=>exact .inl ⟨rfl,HD3.out⟩
   case round =>
    rcases hrel with ⟨rfl,hj⟩ | ⟨rfl,hj⟩
    ·obtain ⟨⟨c0,c1,c2,c3⟩,⟨f0,f1,f2⟩,z0,z1,z2⟩:=hj.cells;have HJ:=zh (hj.set 2 (.int .i64 0) (y0:=.int .i64 a) (y1:=.int .i64 (b+1)) (y2:=.int .i64 0) rfl);clear hj;go_wp2_with fail
     exact ⟨.inr (⟨rfl,HJ.out⟩),by show 1 - ((0:Int)+1).toNat < 1 - (0:Int).toNat;decide⟩
    ·have HE3:=zh hj;clear hj;obtain ⟨⟨c0,c1,c2,c3⟩,-,-⟩:=HE3.out.cells;obtain ⟨⟨d0,d1,d2,d3⟩,g0,g1,g2,g3⟩:=cells4 HE3.out.hy;go_wp2_with fail
     have hl:=load_ver (set4 HE3.out.hy (.int .i64 a) (.int .i64 (b+1)) (.int .i64 0) (.slice none 0 0));have HMz:=zh (HE3.out.hm.set4 (b:=gy) (fun h=>by have:=HE3.out.lt;omega) (.int .i64 a) (.int .i64 (b+1)) (.int .i64 0) (.slice none 0 0));exact bodyPost_ret (v:=.agg #[.int .i64 a,.int .i64 (b+1),.int .i64 0,.slice none 0 0]) (by simp [results,results228,asAddr,hl]) rfl (fin hR ⟨by rw [HN.out],HMz.out⟩)
  ·rw [if_neg h] at hnx;have h':(999999999:Int)<=b:=by omega
   have HN:=zh hnx;have HE3:=HN3;clear hnx HN3 c0 c1 c2 c3 f0 f1 f2;obtain ⟨⟨c0,c1,c2,c3⟩,-,-⟩:=HE3.out.cells;obtain ⟨⟨d0,d1,d2,d3⟩,g0,g1,g2,g3⟩:=cells4 HE3.out.hy;go_wp2_with fail
   have hl:=load_ver (set4 HE3.out.hy (.int .i64 a) (.int .i64 b) (.int .i64 c) (.slice none 0 0));have HMz:=zh (HE3.out.hm.set4 (b:=gy) (fun h=>by have:=HE3.out.lt;omega) (.int .i64 a) (.int .i64 b) (.int .i64 c) (.slice none 0 0));exact bodyPost_ret (v:=.agg #[.int .i64 a,.int .i64 b,.int .i64 c,.slice none 0 0]) (by simp [results,results228,asAddr,hl]) rfl (fin hR ⟨by rw [HN.out],HMz.out⟩)
 | 2,_ =>
  have hnx:=HNX.out;rw [if_neg (by decide),if_neg (by decide)] at hnx;clear HNX;obtain ⟨⟨c0,c1,c2,c3⟩,⟨f0,f1,f2⟩,z0,z1,z2⟩:=HN3.out.cells;by_cases h:c < 999999999
  ·rw [if_pos h] at hnx;have h':¬ (999999999:Int)<=c:=by omega
   have HN:=zh hnx;clear hnx;go_upto_region 8 with fail
   have HD3:=zh (HN3.out.set 2 (.int .i64 (c+1)) (y0:=.int .i64 a) (y1:=.int .i64 b) (y2:=.int .i64 (c+1)) rfl);generalize wC.setCell ⟨gx,2,none⟩ (.int .i64 (c+1))=wD at *;clear HN3 c0 c1 c2 c3 f0 f1 f2 z0 z1 z2 h h';go_wp2_with fail
   go_loopw [40] (fun q wr=>(q=.int .i64 0/\N3 w wr gx gy gz (.int .i64 a) (.int .i64 b) (.int .i64 (c+1)))) (fun q _=>0 - (intOf q).toNat)
   case atStart=>exact ⟨rfl,HD3.out⟩
   case round =>
    obtain ⟨rfl,hj⟩:=hrel;have HE3:=zh hj;clear hj;obtain ⟨⟨c0,c1,c2,c3⟩,-,-⟩:=HE3.out.cells;obtain ⟨⟨d0,d1,d2,d3⟩,g0,g1,g2,g3⟩:=cells4 HE3.out.hy;go_wp2_with fail
    have hl:=load_ver (set4 HE3.out.hy (.int .i64 a) (.int .i64 b) (.int .i64 (c+1)) (.slice none 0 0));have HMz:=zh (HE3.out.hm.set4 (b:=gy) (fun h=>by have:=HE3.out.lt;omega) (.int .i64 a) (.int .i64 b) (.int .i64 (c+1)) (.slice none 0 0));exact bodyPost_ret (v:=.agg #[.int .i64 a,.int .i64 b,.int .i64 (c+1),.slice none 0 0]) (by simp [results,results228,asAddr,hl]) rfl (fin hR ⟨by rw [HN.out],HMz.out⟩)
  ·rw [if_neg h] at hnx;have h':(999999999:Int)<=c:=by omega
   have HN:=zh hnx;have HE3:=HN3;clear hnx HN3 c0 c1 c2 c3 f0 f1 f2;obtain ⟨⟨c0,c1,c2,c3⟩,-,-⟩:=HE3.out.cells;obtain ⟨⟨d0,d1,d2,d3⟩,g0,g1,g2,g3⟩:=cells4 HE3.out.hy;go_wp2_with fail
   have hl:=load_ver (set4 HE3.out.hy (.int .i64 a) (.int .i64 b) (.int .i64 c) (.slice none 0 0));have HMz:=zh (HE3.out.hm.set4 (b:=gy) (fun h=>by have:=HE3.out.lt;omega) (.int .i64 a) (.int .i64 b) (.int .i64 c) (.slice none 0 0));exact bodyPost_ret (v:=.agg #[.int .i64 a,.int .i64 b,.int .i64 c,.slice none 0 0]) (by simp [results,results228,asAddr,hl]) rfl (fin hR ⟨by rw [HN.out],HMz.out⟩)
end Go.Proofs.YticfcmdjplmaeaaGreatDoor
