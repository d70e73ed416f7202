/-
  Layers 0 to 14: helps of the laws of indexes. No statement is proved here; no condition.
-/
import Derived.Test.YtgiigemfbebcgaaGreatDoorT02
import Derived.Lib.FieldsP
import Derived.Lib.TrimByte
import Derived.Lib.Index
namespace Go.Proofs.YtgiigemfbebcgaaGreatDoor
open _root_.Go.Proofs.Tryz
open Go.RowKit
def allO {α β:Type} (f:α->Option β):List α->Option (List β)
 | []=>some []
 | x :: l=>match f x,allO f l with
  | some y,some ys=>some (y :: ys)
  | _,_=>none
theorem allO_append {α β:Type} (f:α->Option β):∀ (a b:List α),allO f (a++b)=match allO f a,allO f b with | some x,some y=>some (x++y) | _,_=>none
 | [],b=>by
  show allO f b=_
  cases allO f b <;> rfl
 | x :: a,b=>by
  show allO f (x :: (a++b))=_
  rw [allO,allO_append f a b,allO]
  cases f x <;> cases allO f a <;> cases allO f b <;> rfl
theorem allO_take {α β:Type} {f:α->Option β} {l:List α} {k:Nat} (hk:k < l.length) {ys:List β} {y:β} (h:allO f (l.take k)=some ys) (hy:f l[k]=some y):allO f (l.take (k+1))=some (ys++[y]):=by
 rw [List.take_succ_eq_append_getElem hk,allO_append,h]
 simp [allO,hy]
theorem allO_fail {α β:Type} {f:α->Option β} {l:List α} {k:Nat} (hk:k < l.length) (hy:f l[k]=none):allO f l=none:=by
 rw [<- List.take_append_drop k l,List.drop_eq_getElem_cons hk,allO_append]
 have h2:allO f (l[k] :: l.drop (k+1))=none:=by rw [allO,hy]
 rw [h2]
 cases allO f (l.take k) <;> rfl
theorem allO_length {α β:Type} {f:α->Option β}:∀ {l:List α} {ys:List β},allO f l=some ys->ys.length=l.length
 | [],ys,h=>by simp [allO] at h;simp [h]
 | x :: l,ys,h=>by
  rw [allO] at h
  cases hx:f x with
  | none=>rw [hx] at h;simp at h
  | some y =>
   cases hl:allO f l with
   | none=>rw [hx,hl] at h;simp at h
   | some zs =>
    rw [hx,hl] at h
    simp at h
    subst h
    simp [allO_length hl]
structure Bnd where
 sign:List UInt8
 v:Ver
deriving DecidableEq
structure Spn where
 any:Bool
 ors:List (List Bnd)
deriving DecidableEq
structure Nd where
 name:List UInt8
 span:Spn
 text:List UInt8
deriving DecidableEq
structure Rw where
 name:List UInt8
 v:Ver
 sum:List UInt8
 size:Int
 needs:List Nd
deriving DecidableEq
def nextV (v:Ver) (p:Nat):Ver :=
 if p=0 then (if v.ma < 999999999 then ⟨v.ma+1,0,0,[]⟩ else ⟨v.ma,v.mi,v.pa,[]⟩)
 else if p=1 then (if v.mi < 999999999 then ⟨v.ma,v.mi+1,0,[]⟩ else ⟨v.ma,v.mi,v.pa,[]⟩)
 else (if v.pa < 999999999 then ⟨v.ma,v.mi,v.pa+1,[]⟩ else ⟨v.ma,v.mi,v.pa,[]⟩)
def signL (w:List UInt8):List UInt8 :=
 if w.take 2=[60,61]\/w.take 2=[62,61] then w.take 2
 else if w.take 1=[60]\/w.take 1=[62]\/w.take 1=[61]\/w.take 1=[94]\/w.take 1=[126] then w.take 1
 else []
def boundsV (sg:List UInt8) (v:Ver):List Bnd :=
 if sg=[] then [⟨[61],v⟩]
 else if sg=[94] then [⟨[62,61],v⟩,⟨[60],nextV v (if 0 < v.ma then 0 else if 0 < v.mi then 1 else 2)⟩]
 else if sg=[126] then [⟨[62,61],v⟩,⟨[60],nextV v 1⟩]
 else [⟨sg,v⟩]
def boundsL (w:List UInt8):Option (List Bnd):=(verOf (w.drop (signL w).length)).map (boundsV (signL w))
def wordsL (l:List UInt8):List (List UInt8):=(splitC 32 l).filter (fun x=>!x.isEmpty)
def splitO:List UInt8->List (List UInt8)
 | []=>[[]]
 | [c]=>[[c]]
 | c :: d :: l=>if c=124/\d=124 then [] :: splitO l else match splitO (d :: l) with
  | []=>[[c]]
  | p :: r=>(c :: p) :: r
def listL (x:List UInt8):Option (List Bnd):=if wordsL x=[]\/8 < (wordsL x).length then none else (allO boundsL (wordsL x)).map List.flatten
def spanL (l:List UInt8):Option Spn:=if wordsL l=[[42]] then some ⟨true,[]⟩ else if 8 < (splitO l).length then none else (allO listL (splitO l)).map (fun o=>⟨false,o⟩)
def smallB (c:UInt8):Bool:=decide (97<=c.toNat) && decide (c.toNat<=122)
def nameC (c:UInt8):Bool:=smallB c || dig c || decide (c.toNat=45)
def nameB (l:List UInt8):Bool:=!l.isEmpty && decide (l.length<=32) && (l.head?.any smallB) && l.all nameC
def linesL (l:List UInt8):List (List UInt8):=if (splitC 10 l).getLast? = some [] then (splitC 10 l).dropLast else splitC 10 l
def silentB (l:List UInt8):Bool:=l.isEmpty || decide (l.head? = some 35)
def needL (l:List UInt8):Option Nd:=if 32 ∈ l/\nameB (headC 32 l)=true then (spanL (tailC 32 l)).map (fun s=>⟨headC 32 l,s,tailC 32 l⟩) else none
def sizeL (l:List UInt8):Option Int:=if digitsB l=true/\l.length<=9/\decV l<=262144 then some (decV l:Int) else none
theorem cont_great {x:Nat} (h:(x / 64 == 2)=true):128<=x:=by
 have:x / 64=2:=by simpa using h
 omega
theorem decode_any (s:ByteArray) (i:Nat):((s.get! i).toNat < 128/\Utf8.decode s i=((s.get! i).toNat,1)) ∨
  (128<=(s.get! i).toNat/\128<=(Utf8.decode s i).1/\1<=(Utf8.decode s i).2/\∀ k,1<=k->k < (Utf8.decode s i).2->i+k < s.size/\128<=(s.get! (i+k)).toNat):=by
 by_cases h0:(s.get! i).toNat < 128
 ·left
  refine ⟨h0,?_⟩
  unfold Utf8.decode
  exact if_pos h0
 ·right
  refine ⟨by omega,?_⟩
  have hr:128<=Utf8.runeError:=by decide
  have one:∀ k,1<=k->k < 1->i+k < s.size/\128<=(s.get! (i+k)).toNat:=fun k h1 h2=>absurd h1 (by omega)
  unfold Utf8.decode
  dsimp only
  rw [if_neg (show ¬ (s.get! (i+0)).toNat < 128 from h0)]
  split
  ·rename_i h
   rw [Bool.and_eq_true,Bool.and_eq_true] at h
   split
   ·rename_i hc
    refine ⟨hc,Nat.le_of_ble_eq_true rfl,fun k h1 h2=>?_⟩
    obtain rfl:k=1:=by dsimp only at h2;omega
    exact ⟨by simpa using h.2.1,cont_great h.2.2⟩
   ·exact ⟨hr,by decide,one⟩
  ·split
   ·rename_i h
    rw [Bool.and_eq_true,Bool.and_eq_true,Bool.and_eq_true,Bool.and_eq_true] at h
    split
    ·rename_i hc
     rw [Bool.and_eq_true] at hc
     have hc1:2048<=_:=of_decide_eq_true hc.1
     refine ⟨Nat.le_trans (by decide) hc1,Nat.le_of_ble_eq_true rfl,fun k h1 h2=>?_⟩
     have h3:k=1\/k=2:=by dsimp only at h2;omega
     rcases h3 with rfl | rfl
     ·exact ⟨by simpa using h.1.2.1,cont_great h.1.2.2⟩
     ·exact ⟨by simpa using h.2.1,cont_great h.2.2⟩
    ·exact ⟨hr,by decide,one⟩
   ·split
    ·rename_i h
     rw [Bool.and_eq_true,Bool.and_eq_true,Bool.and_eq_true,Bool.and_eq_true,Bool.and_eq_true,Bool.and_eq_true] at h
     split
     ·rename_i hc
      rw [Bool.and_eq_true] at hc
      have hc1:65536<=_:=of_decide_eq_true hc.1
      refine ⟨Nat.le_trans (by decide) hc1,Nat.le_of_ble_eq_true rfl,fun k h1 h2=>?_⟩
      have h3:k=1\/k=2\/k=3:=by dsimp only at h2;omega
      rcases h3 with rfl | rfl | rfl
      ·exact ⟨by simpa using h.1.1.2.1,cont_great h.1.1.2.2⟩
      ·exact ⟨by simpa using h.1.2.1,cont_great h.1.2.2⟩
      ·exact ⟨by simpa using h.2.1,cont_great h.2.2⟩
     ·exact ⟨hr,by decide,one⟩
    ·exact ⟨hr,by decide,one⟩
def spB:List UInt8->Nat->Option Nat->List (Nat × Nat)->List (Nat × Nat) × Option Nat
 | [],_,st,acc=>(acc,st)
 | c :: l,pos,st,acc=>if c=32 then (match st with
   | some a=>spB l (pos+1) none (acc++[(a,pos)])
   | none=>spB l (pos+1) none acc) else spB l (pos+1) (some (st.getD pos)) acc
theorem spB_cons (c:UInt8) (l:List UInt8) (pos:Nat) (st:Option Nat) (acc:List (Nat × Nat)):spB (c :: l) pos st acc=if c=32 then (match st with
   | some a=>spB l (pos+1) none (acc++[(a,pos)])
   | none=>spB l (pos+1) none acc) else spB l (pos+1) (some (st.getD pos)) acc:=by cases st <;> rfl
theorem spans_step (p:Nat->Bool) (s:ByteArray) (f pos:Nat) (st:Option Nat) (acc:List (Nat × Nat)) (h:pos < s.size):Lib.spansFromP p s (f+1) pos st acc =
  if p (Utf8.decode s pos).1 then (match st with
   | some a=>Lib.spansFromP p s f (pos+(Utf8.decode s pos).2) none (acc++[(a,pos)])
   | none=>Lib.spansFromP p s f (pos+(Utf8.decode s pos).2) none acc)
  else (match st with
   | some a=>Lib.spansFromP p s f (pos+(Utf8.decode s pos).2) (some a) acc
   | none=>Lib.spansFromP p s f (pos+(Utf8.decode s pos).2) (some pos) acc):=by
 cases st <;> exact if_pos h
theorem get_drop {l:List UInt8} {i:Nat} (h:i < l.length):l.drop i=(⟨l.toArray⟩:ByteArray).get! i :: l.drop (i+1):=by
 rw [List.drop_eq_getElem_cons h]
 congr 1
 show l[i]=l.toArray[i]!
 rw [getElem!_pos l.toArray i (by simpa using h)]
 simp
theorem spB_great (l:List UInt8) (a:Nat) (acc:List (Nat × Nat)):∀ (k pos:Nat),pos+k<=l.length->(∀ j,j < k->(⟨l.toArray⟩:ByteArray).get! (pos+j) ≠ 32)->spB (l.drop pos) pos (some a) acc=spB (l.drop (pos+k)) (pos+k) (some a) acc
 | 0,_,_,_=>rfl
 | k+1,pos,hk,h=>by
  have h0:=h 0 (by omega)
  rw [Nat.add_zero] at h0
  rw [get_drop (by omega),spB,if_neg h0]
  rw [show (some a).getD pos=a from rfl,spB_great l a acc k (pos+1) (by omega) (fun j hj=>by
   have:=h (j+1) (by omega)
   rwa [show pos+(j+1)=pos+1+j by omega] at this),show pos+1+k=pos+(k+1) by omega]
theorem spans_bytes (l:List UInt8):∀ (f pos:Nat) (st:Option Nat) (acc:List (Nat × Nat)),l.length<=pos+f->Lib.spansFromP (fun r=>r == 32) ⟨l.toArray⟩ f pos st acc=spB (l.drop pos) pos st acc:=by
 intro f
 have hsz:(⟨l.toArray⟩:ByteArray).size=l.length:=by simp [ByteArray.size]
 induction f with
 | zero =>
  intro pos st acc h
  rw [List.drop_of_length_le (by omega)]
  rfl
 | succ f ih =>
  intro pos st acc h
  by_cases hp:pos < l.length
  ·have hd:=decode_any ⟨l.toArray⟩ pos
   rw [spans_step _ _ _ _ _ _ (by rw [hsz];exact hp),get_drop hp,spB_cons]
   generalize hx:(⟨l.toArray⟩:ByteArray).get! pos=x at *
   rcases hd with ⟨h1,h2⟩ | ⟨h1,h2,h3,h4⟩
   ·rw [h2]
    by_cases he:x=32
    ·subst he
     rw [if_pos rfl,if_pos (by decide)]
     cases st with
     | none=>exact ih (pos+1) none acc (by omega)
     | some a=>exact ih (pos+1) none _ (by omega)
    ·have hne:¬ ((x.toNat == 32)=true):=by
      intro e
      exact he (UInt8.toNat_inj.1 (by simpa using e))
     rw [if_neg he,if_neg hne]
     cases st with
     | none=>exact ih (pos+1) _ acc (by omega)
     | some a=>exact ih (pos+1) _ acc (by omega)
   ·have he:x ≠ 32:=by rintro rfl;exact absurd h1 (by decide)
    have hne:¬ (((Utf8.decode ⟨l.toArray⟩ pos).1 == 32)=true):=by
     intro e
     have:(Utf8.decode ⟨l.toArray⟩ pos).1=32:=by simpa using e
     omega
    generalize hw:(Utf8.decode ⟨l.toArray⟩ pos).2=wd at *
    obtain ⟨wk,rfl⟩:∃ wk,wd=wk+1:=⟨wd - 1,by omega⟩
    rw [if_neg he,if_neg hne]
    have hle:pos+1+wk<=l.length:=by
     rcases Nat.eq_zero_or_pos wk with h0 | h0
     ·omega
     ·have:=(h4 wk h0 (by omega)).1
      rw [hsz] at this
      omega
    have hg:∀ a,spB (l.drop (pos+1)) (pos+1) (some a) acc=spB (l.drop (pos+(wk+1))) (pos+(wk+1)) (some a) acc:=fun a=>by
     rw [spB_great l a acc wk (pos+1) hle (fun j hj=>by
      have:=(h4 (j+1) (by omega) (by omega)).2
      rw [show pos+(j+1)=pos+1+j by omega] at this
      intro e
      rw [e] at this
      exact absurd this (by decide)),show pos+1+wk=pos+(wk+1) by omega]
    rw [hg]
    cases st with
    | none=>exact ih _ _ acc (by omega)
    | some a=>exact ih _ _ acc (by omega)
  ·rw [Lib.spansFromP_end _ _ _ _ _ _ (by rw [hsz];exact hp),List.drop_of_length_le (by omega)]
   rfl
theorem words_hit {x:List UInt8} (hx:∀ d ∈ x,d ≠ 32) (hn:x ≠ []) (l:List UInt8):wordsL (x++32 :: l)=x :: wordsL l:=by
 unfold wordsL
 rw [splitC_hit _ hx,List.filter_cons,if_pos (by cases x with | nil=>exact absurd rfl hn | cons a b=>rfl)]
theorem words_space (l:List UInt8):wordsL (32 :: l)=wordsL l:=by
 unfold wordsL
 have:=splitC_hit (c:=32) l (a:=[]) (fun _ h=>by cases h)
 rw [List.nil_append] at this
 rw [this]
 rfl
theorem words_end {x:List UInt8} (hx:∀ d ∈ x,d ≠ 32) (hn:x ≠ []):wordsL x=[x]:=by
 unfold wordsL
 rw [splitC_none hx,List.filter_cons,if_pos (by cases x with | nil=>exact absurd rfl hn | cons a b=>rfl)]
 rfl
theorem spB_words (l:List UInt8):∀ (n pos:Nat) (st:Option Nat) (acc:List (Nat × Nat)),l.length=pos+n->(∀ a,st=some a->a < pos/\∀ d ∈ (l.drop a).take (pos - a),d ≠ 32) →
  (Lib.closeSpans ⟨l.toArray⟩ (spB (l.drop pos) pos st acc)).map (fun x=>(⟨l.toArray⟩:ByteArray).extract x.1 x.2) =
   acc.map (fun x=>(⟨l.toArray⟩:ByteArray).extract x.1 x.2)++(wordsL ((match st with | some a=>(l.drop a).take (pos - a) | none=>[])++l.drop pos)).map (fun x=>(⟨x.toArray⟩:ByteArray)):=by
 have hex:∀ a b,(⟨l.toArray⟩:ByteArray).extract a b=⟨((l.drop a).take (b - a)).toArray⟩:=fun a b=>Lib.extract_mk l a b
 have hsz:(⟨l.toArray⟩:ByteArray).size=l.length:=by simp [ByteArray.size]
 intro n
 induction n with
 | zero =>
  intro pos st acc hl hst
  rw [List.drop_of_length_le (by omega),List.append_nil]
  unfold spB Lib.closeSpans
  cases st with
  | none=>simp [wordsL,splitC]
  | some a =>
   obtain ⟨h1,h2⟩:=hst a rfl
   have hne:(l.drop a).take (pos - a) ≠ []:=by
    intro e
    have:=congrArg List.length e
    simp at this
    omega
   dsimp only
   rw [words_end h2 hne,List.map_append]
   simp only [List.map_cons,List.map_nil,hex,hsz]
   rw [show l.length=pos by omega]
 | succ n ih =>
  intro pos st acc hl hst
  rw [List.drop_eq_getElem_cons (show pos < l.length by omega),spB_cons]
  by_cases hc:l[pos]'(by omega)=32
  ·rw [if_pos hc,hc]
   cases st with
   | none =>
    dsimp only
    rw [ih (pos+1) none acc (by omega) (fun _ h=>by cases h)]
    dsimp only
    rw [List.nil_append,List.nil_append,words_space]
   | some a =>
    obtain ⟨h1,h2⟩:=hst a rfl
    have hne:(l.drop a).take (pos - a) ≠ []:=by
     intro e
     have:=congrArg List.length e
     simp at this
     omega
    dsimp only
    rw [ih (pos+1) none _ (by omega) (fun _ h=>by cases h),words_hit h2 hne]
    simp [hex]
  ·rw [if_neg hc]
   have hpart:∀ a,a<=pos->(l.drop a).take (pos+1 - a)=(l.drop a).take (pos - a)++[l[pos]'(by omega)]:=fun a ha=>by
    rw [show pos+1 - a=(pos - a)+1 by omega,List.take_succ_eq_append_getElem (by rw [List.length_drop];omega),List.getElem_drop]
    congr 3
    omega
   cases st with
   | none =>
    have hp2:=hpart pos (Nat.le_refl _)
    rw [Nat.sub_self,List.take_zero,List.nil_append] at hp2
    rw [show (none:Option Nat).getD pos=pos from rfl,ih (pos+1) (some pos) acc (by omega) (fun a ha=>by
     cases ha
     refine ⟨by omega,fun d hd=>?_⟩
     rw [hp2] at hd
     obtain rfl:d=_:=by simpa using hd
     exact hc)]
    dsimp only
    rw [hp2]
    simp
   | some a =>
    obtain ⟨h1,h2⟩:=hst a rfl
    have hp2:=hpart a (by omega)
    rw [show (some a).getD pos=a from rfl,ih (pos+1) (some a) acc (by omega) (fun b hb=>by
     cases hb
     refine ⟨by omega,fun d hd=>?_⟩
     rw [hp2] at hd
     rcases List.mem_append.1 hd with hd | hd
     ·exact h2 d hd
     ·obtain rfl:d=_:=by simpa using hd
      exact hc)]
    dsimp only
    rw [hp2]
    simp
theorem fields_words (l:List UInt8):Lib.goFieldsP (fun r=>r == 32) ⟨l.toArray⟩=(wordsL l).map (fun x=>(⟨x.toArray⟩:ByteArray)):=by
 have hsz:(⟨l.toArray⟩:ByteArray).size=l.length:=by simp [ByteArray.size]
 unfold Lib.goFieldsP Lib.spansOfP
 rw [hsz,spans_bytes l l.length 0 none [] (by omega)]
 have:=spB_words l l.length 0 none [] (by omega) (fun _ h=>by cases h)
 rw [this]
 simp
theorem splitO_ne:∀ l:List UInt8,splitO l ≠ []
 | []=>by simp [splitO]
 | [c]=>by simp [splitO]
 | c :: d :: l=>by
  rw [splitO]
  split
  ·simp
  ·split <;> simp
theorem index_two (c d:UInt8) (l:List UInt8):Lib.index (c :: d :: l) [124,124]=if c=124/\d=124 then 0 else if Lib.index (d :: l) [124,124] == -1 then -1 else Lib.index (d :: l) [124,124]+1:=by
 rw [Lib.index]
 have:List.isPrefixOf [124,124] (c :: d :: l)=(decide (c=124/\d=124)):=by
  rw [List.isPrefixOf,List.isPrefixOf,List.isPrefixOf]
  by_cases h1:c=124
  ·by_cases h2:d=124
   ·subst h1;subst h2;rfl
   ·have e:((124:UInt8) == d)=false:=by simpa using fun h=>h2 h.symm
    simp [h2,e]
  ·have e:((124:UInt8) == c)=false:=by simpa using fun h=>h1 h.symm
   simp [h1,e]
 rw [this]
 by_cases h:c=124/\d=124
 ·rw [if_pos h,if_pos (by simpa using h)]
 ·rw [if_neg h,if_neg (by simpa using h)]
theorem splitO_none:∀ l:List UInt8,Lib.index l [124,124] = -1->splitO l=[l]
 | [],_=>rfl
 | [c],_=>rfl
 | c :: d :: l,h=>by
  rw [index_two] at h
  by_cases hc:c=124/\d=124
  ·rw [if_pos hc] at h;cases h
  ·rw [if_neg hc] at h
   have h2:Lib.index (d :: l) [124,124] = -1:=by
    by_cases e:Lib.index (d :: l) [124,124] = -1
    ·exact e
    ·rw [if_neg (by simpa using e)] at h
     have:=Lib.index_ge (d :: l) [124,124]
     omega
   rw [splitO,if_neg hc,splitO_none (d :: l) h2]
theorem splitO_hit:∀ (l:List UInt8) (i:Nat),Lib.index l [124,124]=(i:Int)->splitO l=l.take i :: splitO (l.drop (i+2))/\i+2<=l.length
 | [],i,h=>by
  have:Lib.index [] [124,124] = -1:=rfl
  omega
 | [c],i,h=>by
  have:Lib.index [c] [124,124] = -1:=by
   rw [Lib.index]
   have e:List.isPrefixOf [124,124] [c]=false:=by
    rw [List.isPrefixOf]
    simp
   rw [e];rfl
  omega
 | c :: d :: l,i,h=>by
  rw [index_two] at h
  by_cases hc:c=124/\d=124
  ·rw [if_pos hc] at h
   have:i=0:=by omega
   subst this
   rw [splitO,if_pos hc]
   exact ⟨rfl,by simp⟩
  ·rw [if_neg hc] at h
   by_cases e:Lib.index (d :: l) [124,124] = -1
   ·rw [if_pos (by simpa using e)] at h;omega
   ·rw [if_neg (by simpa using e)] at h
    have:=Lib.index_ge (d :: l) [124,124]
    obtain ⟨k,rfl⟩:∃ k,i=k+1:=⟨i - 1,by omega⟩
    obtain ⟨h1,h2⟩:=splitO_hit (d :: l) k (by omega)
    rw [splitO,if_neg hc,h1]
    exact ⟨rfl,by simp at h2 ⊢;omega⟩
theorem splitO_length_le:∀ l:List UInt8,(splitO l).length<=l.length+1
 | []=>by simp [splitO]
 | [c]=>by simp [splitO]
 | c :: d :: l=>by
  have h1:=splitO_length_le l
  have h2:=splitO_length_le (d :: l)
  rw [splitO]
  split
  ·simp;omega
  ·split
   ·simp
   ·rename_i h;rw [h] at h2;simp at h2 ⊢;omega
theorem splitO_mem_le:∀ (l:List UInt8),∀ p ∈ splitO l,p.length<=l.length
 | [],p,hp=>by simp [splitO] at hp;simp [hp]
 | [c],p,hp=>by simp [splitO] at hp;simp [hp]
 | c :: d :: l,p,hp=>by
  have h1:=splitO_mem_le l
  have h2:=splitO_mem_le (d :: l)
  rw [splitO] at hp
  split at hp
  ·rcases List.mem_cons.1 hp with rfl | hp
   ·simp
   ·have:=h1 p hp;simp;omega
  ·split at hp
   ·simp at hp;simp [hp]
   ·rename_i q r h
    rw [h] at h2
    rcases List.mem_cons.1 hp with rfl | hp
    ·have:=h2 q (by simp);simp at this ⊢;omega
    ·have:=h2 p (by simp [hp]);simp at this ⊢;omega
/-! ### Spaces about -/
theorem splitC_snoc (c:UInt8):∀ l:List UInt8,splitC c (l++[c])=splitC c l++[[]]
 | []=>by
  show splitC c [c]=_
  simp [splitC]
 | d :: l=>by
  have ih:=splitC_snoc c l
  show splitC c (d :: (l++[c]))=_
  rw [splitC,splitC,ih]
  by_cases h:d=c
  ·rw [if_pos h,if_pos h];rfl
  ·rw [if_neg h,if_neg h]
   match hs:splitC c l with
   | []=>exact absurd hs (splitC_ne c l)
   | p :: r=>rfl
theorem words_snoc (l:List UInt8):wordsL (l++[32])=wordsL l:=by
 unfold wordsL
 rw [splitC_snoc,List.filter_append]
 simp
theorem words_lead:∀ l:List UInt8,wordsL (l.dropWhile (· == 32))=wordsL l
 | []=>rfl
 | d :: l=>by
  by_cases h:d=32
  ·subst h
   rw [List.dropWhile_cons,if_pos (by simp),words_lead l,words_space]
  ·rw [List.dropWhile_cons,if_neg (by simpa using h)]
theorem words_trail:∀ (n:Nat) (l:List UInt8),l.length=n->wordsL (l.reverse.dropWhile (· == 32)).reverse=wordsL l:=by
 intro n
 induction n with
 | zero=>intro l hl;rw [List.length_eq_zero_iff.1 hl];rfl
 | succ n ih =>
  intro l hl
  have hne:l ≠ []:=by intro e;rw [e] at hl;cases hl
  have e:=List.dropLast_concat_getLast hne
  generalize l.getLast hne=z at *
  generalize hd:l.dropLast=d at *
  subst e
  rw [List.reverse_append]
  show wordsL ((z :: d.reverse).dropWhile (· == 32)).reverse=_
  by_cases h:z=32
  ·subst h
   rw [List.dropWhile_cons,if_pos (by simp),ih d (by simpa using hl),words_snoc]
  ·rw [List.dropWhile_cons,if_neg (by simpa using h)]
   simp
theorem words_trim (l:List UInt8):wordsL (Lib.trimB l 32)=wordsL l:=by
 unfold Lib.trimB Lib.trimLeftB Lib.trimRightB
 rw [words_lead,words_trail _ l rfl]
theorem words_nil:∀ {l:List UInt8},wordsL l=[]->∀ d ∈ l,d=32:=by
 intro l h d hd
 apply Classical.byContradiction
 intro hne
 have hall:∀ x ∈ splitC 32 l,x=[]:=fun x hx=>by
  cases x with
  | nil=>rfl
  | cons a b =>
   have:(a :: b) ∈ wordsL l:=List.mem_filter.2 ⟨hx,rfl⟩
   rw [h] at this;cases this
 have key:∀ m:List UInt8,d ∈ m->∃ x ∈ splitC 32 m,d ∈ x:=by
  intro m
  induction m with
  | nil=>intro h;cases h
  | cons a m ih =>
   intro hm
   rw [splitC]
   by_cases ha:a=32
   ·rw [if_pos ha]
    rcases List.mem_cons.1 hm with e | hm
    ·exact absurd (e.trans ha) hne
    ·obtain ⟨x,hx,hx2⟩:=ih hm
     exact ⟨x,by simp [hx],hx2⟩
   ·rw [if_neg ha]
    match hs:splitC 32 m with
    | []=>exact absurd hs (splitC_ne 32 m)
    | p :: r =>
     rcases List.mem_cons.1 hm with e | hm
     ·exact ⟨a :: p,by simp,by simp [e]⟩
     ·obtain ⟨x,hx,hx2⟩:=ih hm
      rw [hs] at hx
      rcases List.mem_cons.1 hx with rfl | hx
      ·exact ⟨a :: x,by simp,by simp [hx2]⟩
      ·exact ⟨x,by simp [hx],hx2⟩
 obtain ⟨x,hx,hdx⟩:=key l hd
 rw [hall x hx] at hdx
 cases hdx
theorem trim_ends (l:List UInt8):(∀ d,(Lib.trimB l 32).head? = some d->d ≠ 32)/\(∀ d,(Lib.trimB l 32).getLast? = some d->d ≠ 32):=by
 have hh:∀ m:List UInt8,∀ d,(m.dropWhile (· == 32)).head? = some d->d ≠ 32:=by
  intro m
  induction m with
  | nil=>intro d h;cases h
  | cons a m ih =>
   intro d h
   rw [List.dropWhile_cons] at h
   by_cases ha:a=32
   ·rw [if_pos (by simpa using ha)] at h;exact ih d h
   ·rw [if_neg (by simpa using ha)] at h
    have:a=d:=by simpa using h
    rw [<- this];exact ha
 unfold Lib.trimB Lib.trimLeftB Lib.trimRightB
 refine ⟨hh _,fun d h=>?_⟩
 have hs:∀ m:List UInt8,∀ d,(m.dropWhile (· == 32)).getLast? = some d->m.getLast? = some d:=by
  intro m
  induction m with
  | nil=>intro d h;cases h
  | cons a m ih =>
   intro d h
   rw [List.dropWhile_cons] at h
   by_cases ha:a=32
   ·rw [if_pos (by simpa using ha)] at h
    have:=ih d h
    rw [List.getLast?_cons,this];rfl
   ·rw [if_neg (by simpa using ha)] at h;exact h
 have h2:=hs _ d h
 rw [List.getLast?_reverse] at h2
 exact hh _ d h2
theorem trim_star (l:List UInt8):Lib.trimB l 32=[42] ↔ wordsL l=[[42]]:=by
 constructor
 ·intro h
  rw [<- words_trim,h]
  decide
 ·intro h
  rw [<- words_trim] at h
  obtain ⟨h1,h2⟩:=trim_ends l
  generalize Lib.trimB l 32=t at *
  by_cases hs:(32:UInt8) ∈ t
  ·obtain ⟨a,b,rfl,ha⟩:=first_place hs
   cases a with
   | nil=>exact absurd rfl (h1 32 rfl)
   | cons x a =>
    rw [words_hit ha (by simp)] at h
    have hb:wordsL b=[]:=by
     have:=List.tail_eq_of_cons_eq h
     exact this
    have hb2:=words_nil hb
    have hl:((x :: a)++32 :: b).getLast? = some 32:=by
     rw [List.getLast?_append]
     have:(32 :: b).getLast? = some 32:=by
      have hz:∀ z ∈ 32 :: b,z=32:=fun z hz=>by
       rcases List.mem_cons.1 hz with rfl | hz
       ·rfl
       ·exact hb2 z hz
      rw [List.getLast?_eq_some_getLast (by simp)]
      rw [hz _ (List.getLast_mem (by simp))]
     rw [this];rfl
    exact absurd rfl (h2 32 hl)
  ·by_cases hn:t=[]
   ·subst hn;cases h
   ·rw [words_end (fun d hd e=>hs (e ▸ hd)) hn] at h
    exact List.head_eq_of_cons_eq h
def cmpN (a b:Int):Int:=if a < b then -1 else if b < a then 1 else 0
def cmpL (a b:List UInt8):Int:=if a < b then -1 else if b < a then 1 else 0
def orI:List Int->Int
 | []=>0
 | x :: l=>if x=0 then orI l else x
def markC (a b:List UInt8):Int :=
 if digitsB a && digitsB b then orI [cmpN a.length b.length,cmpL a b] else if digitsB a then -1 else if digitsB b then 1 else cmpL a b
def preC:List (List UInt8)->List (List UInt8)->Int
 | [],[]=>0
 | [],_ :: _=>-1
 | _ :: _,[]=>1
 | x :: a,y :: b=>if markC x y=0 then preC a b else markC x y
def verC (a b:Ver):Int :=
 if orI [cmpN a.ma b.ma,cmpN a.mi b.mi,cmpN a.pa b.pa]=0 then
  if a.pre=[]\/b.pre=[] then cmpN b.pre.length a.pre.length else preC a.pre b.pre
 else orI [cmpN a.ma b.ma,cmpN a.mi b.mi,cmpN a.pa b.pa]
theorem preC_drop {a b:List (List UInt8)} (k:Nat) (ha:k<=a.length) (hb:k<=b.length) (h:∀ i (h1:i < a.length) (h2:i < b.length),i < k->markC a[i] b[i]=0):preC a b=preC (a.drop k) (b.drop k):=by
 induction k with
 | zero=>simp
 | succ k ih =>
  rw [ih (by omega) (by omega) (fun i h1 h2 h3=>h i h1 h2 (by omega)),List.drop_eq_getElem_cons (i:=k) (by omega),List.drop_eq_getElem_cons (l:=b) (i:=k) (by omega)]
  show (if markC a[k] b[k]=0 then _ else _)=_
  rw [if_pos (h k (by omega) (by omega) (by omega))]
theorem preC_hit {a b:List (List UInt8)} {k:Nat} (ha:k < a.length) (hb:k < b.length) (h:∀ i (h1:i < a.length) (h2:i < b.length),i < k->markC a[i] b[i]=0) (hk:markC a[k] b[k] ≠ 0):preC a b=markC a[k] b[k]:=by
 rw [preC_drop k (by omega) (by omega) h,List.drop_eq_getElem_cons ha,List.drop_eq_getElem_cons hb]
 show (if markC a[k] b[k]=0 then _ else _)=_
 rw [if_neg hk]
theorem preC_nil (a b:List (List UInt8)) (h:a=[]\/b=[]):preC a b=cmpN a.length b.length:=by
 rcases a with _ | ⟨x,a⟩ <;> rcases b with _ | ⟨y,b⟩
 ·rfl
 ·show (-1:Int)=_
  unfold cmpN
  rw [if_pos (by simp only [List.length_nil,List.length_cons];omega)]
 ·show (1:Int)=_
  unfold cmpN
  rw [if_neg (by simp only [List.length_nil,List.length_cons];omega),if_pos (by simp only [List.length_nil,List.length_cons];omega)]
 ·rcases h with h | h <;> cases h
theorem preC_end {a b:List (List UInt8)} {k:Nat} (ha:k<=a.length) (hb:k<=b.length) (he:k=a.length\/k=b.length) (h:∀ i (h1:i < a.length) (h2:i < b.length),i < k->markC a[i] b[i]=0):preC a b=cmpN a.length b.length:=by
 rw [preC_drop k ha hb h,preC_nil _ _ (he.imp (fun h=>List.drop_eq_nil_of_le (by omega)) (fun h=>List.drop_eq_nil_of_le (by omega)))]
 unfold cmpN
 simp only [List.length_drop]
 by_cases h1:a.length < b.length
 ·rw [if_pos (by omega),if_pos (by omega)]
 ·by_cases h2:b.length < a.length
  ·rw [if_neg (by omega),if_pos (by omega),if_neg (by omega),if_pos (by omega)]
  ·rw [if_neg (by omega),if_neg (by omega),if_neg (by omega),if_neg (by omega)]
theorem orI_three (x y z:Int):orI [x,y,z]=if x=0 then (if y=0 then z else y) else x:=by
 unfold orI orI orI orI
 by_cases h:z=0 <;> simp [h]
theorem orI_two (x y:Int):orI [x,y]=if x=0 then y else x:=by
 unfold orI orI orI
 by_cases h:y=0 <;> simp [h]
theorem cmpN_zero {a b:Int}:cmpN a b=0 ↔ a=b:=by
 unfold cmpN
 split
 ·constructor <;> intro h <;> omega
 ·split
  ·constructor <;> intro h <;> omega
  ·constructor <;> intro h <;> omega
def insR {α:Type} (p:α->Bool) (x:α) (l:List α):List α:=(l.reverse.dropWhile p).reverse++x :: (l.reverse.takeWhile p).reverse
def sortR {α:Type} (lt:α->α->Bool) (l:List α):List α:=l.foldl (fun a x=>insR (lt x) x a) []
theorem takeWhile_hit {α:Type} {p:α->Bool} {b:List α}:∀ {a:List α},(∀ y ∈ a,p y=true)->(b=[]\/∃ z r,b=z :: r/\p z=false)->(a++b).takeWhile p=a/\(a++b).dropWhile p=b
 | [],_,hb=>by
  rcases hb with rfl | ⟨z,r,rfl,hz⟩
  ·simp
  ·simp [hz]
 | y :: a,ha,hb=>by
  obtain ⟨h1,h2⟩:=takeWhile_hit (a:=a) (fun z hz=>ha z (by simp [hz])) hb
  have hy:=ha y (by simp)
  simp [hy,h1,h2]
theorem insR_scan {α:Type} {p:α->Bool} {x:α} {A B:List α} (hB:∀ y ∈ B,p y=true) (hA:A=[]\/∃ C z,A=C++[z]/\p z=false):insR p x (A++B)=A++x :: B:=by
 unfold insR
 rw [List.reverse_append]
 obtain ⟨h1,h2⟩:=takeWhile_hit (p:=p) (a:=B.reverse) (b:=A.reverse) (fun y hy=>hB y (by simpa using hy)) (by
  rcases hA with rfl | ⟨C,z,rfl,hz⟩
  ·exact .inl rfl
  ·exact .inr ⟨z,C.reverse,by simp,hz⟩)
 rw [h1,h2]
 simp
theorem insR_length {α:Type} (p:α->Bool) (x:α) (l:List α):(insR p x l).length=l.length+1:=by
 unfold insR
 have h:=congrArg List.length (List.takeWhile_append_dropWhile (p:=p) (l:=l.reverse))
 rw [List.length_append,List.length_reverse] at h
 simp only [List.length_append,List.length_reverse,List.length_cons]
 omega
theorem sortR_length {α:Type} (lt:α->α->Bool) (l:List α):(sortR lt l).length=l.length:=by
 have:∀ (l a:List α),(l.foldl (fun a x=>insR (lt x) x a) a).length=a.length+l.length:=by
  intro l
  induction l with
  | nil=>simp
  | cons x l ih=>intro a;rw [List.foldl_cons,ih,insR_length,List.length_cons];omega
 have h:=this l []
 unfold sortR
 simpa using h
theorem sortR_take {α:Type} (lt:α->α->Bool) (l:List α) {k:Nat} (hk:k < l.length):sortR lt (l.take (k+1))=insR (lt l[k]) l[k] (sortR lt (l.take k)):=by
 unfold sortR
 rw [List.take_succ_eq_append_getElem hk,List.foldl_append]
 rfl
theorem insR_map {α β:Type} (f:α->β) (p:β->Bool) (x:α) (l:List α):(insR (fun y=>p (f y)) x l).map f=insR p (f x) (l.map f):=by
 unfold insR
 rw [<- List.map_reverse,List.dropWhile_map,List.takeWhile_map]
 simp
 constructor <;> rfl
theorem sortR_map {α β:Type} (f:α->β) (lt:β->β->Bool) (l:List α):(sortR (fun x y=>lt (f x) (f y)) l).map f=sortR lt (l.map f):=by
 unfold sortR
 have:∀ (l a:List α),(l.foldl (fun a x=>insR (fun y=>lt (f x) (f y)) x a) a).map f=(l.map f).foldl (fun a x=>insR (lt x) x a) (a.map f):=by
  intro l
  induction l with
  | nil=>simp
  | cons x l ih=>intro a;rw [List.foldl_cons,ih,insR_map f (lt (f x))];rfl
 exact this l []
theorem insR_mem {α:Type} (p:α->Bool) (x:α) (l:List α) (y:α):y ∈ insR p x l ↔ y=x\/y ∈ l:=by
 unfold insR
 have h:=List.takeWhile_append_dropWhile (p:=p) (l:=l.reverse)
 have h2:y ∈ l ↔ y ∈ l.reverse.takeWhile p\/y ∈ l.reverse.dropWhile p:=by
  rw [<- List.mem_append,h,List.mem_reverse]
 rw [h2]
 simp
 constructor
 ·rintro (h | h | h)
  ·exact .inr (.inr h)
  ·exact .inl h
  ·exact .inr (.inl h)
 ·rintro (h | h | h)
  ·exact .inr (.inl h)
  ·exact .inr (.inr h)
  ·exact .inl h
theorem sortR_mem {α:Type} (lt:α->α->Bool) (l:List α) (y:α):y ∈ sortR lt l ↔ y ∈ l:=by
 have:∀ (l a:List α),y ∈ l.foldl (fun a x=>insR (lt x) x a) a ↔ y ∈ a\/y ∈ l:=by
  intro l
  induction l with
  | nil=>simp
  | cons x l ih =>
   intro a
   rw [List.foldl_cons,ih,insR_mem,List.mem_cons]
   constructor
   ·rintro ((h | h) | h)
    ·exact .inr (.inl h)
    ·exact .inl h
    ·exact .inr (.inr h)
   ·rintro (h | h | h)
    ·exact .inl (.inr h)
    ·exact .inl (.inl h)
    ·exact .inr h
 have h:=this l []
 unfold sortR
 simpa using h
end Go.Proofs.YtgiigemfbebcgaaGreatDoor
