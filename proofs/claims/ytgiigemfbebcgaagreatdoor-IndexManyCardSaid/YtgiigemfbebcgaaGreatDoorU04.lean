/-
  Layers 0 to 14: helps of the laws of indexes. No statement is proved here; no condition.
-/
import Derived.Test.YtgiigemfbebcgaaGreatDoorU02
import Derived.Test.YtgiigemfbebcgaaGreatDoorU03
import Derived.Lib.SlicesCompact
namespace Go.Proofs.YtgiigemfbebcgaaGreatDoor
open _root_.Go.Proofs.Tryz
open Go.RowKit
def insR {α:Type} (p:α->Bool) (x:α) (l:List α):List α:=(l.reverse.dropWhile p).reverse++x :: (l.reverse.takeWhile p).reverse
def sortR {α:Type} (lt:α->α->Bool) (l:List α):List α:=l.foldl (fun a x=>insR (lt x) x a) []
theorem takeWhile_hit {α:Type} {p:α->Bool} {b:List α}:∀ {a:List α},(∀ y ∈ a,p y=true)->(b=[]\/∃ z r,b=z :: r/\p z=false)->(a++b).takeWhile p=a/\(a++b).dropWhile p=b
 | [],_,hb=>by
  rcases hb with rfl | ⟨z,r,rfl,hz⟩
  ·simp
  ·simp [hz]
 | y :: a,ha,hb=>by
  obtain ⟨h1,h2⟩:=takeWhile_hit (a:=a) (fun z hz=>ha z (by simp [hz])) hb
  have hy:=ha y (by simp)
  simp [hy,h1,h2]
theorem insR_scan {α:Type} {p:α->Bool} {x:α} {A B:List α} (hB:∀ y ∈ B,p y=true) (hA:A=[]\/∃ C z,A=C++[z]/\p z=false):insR p x (A++B)=A++x :: B:=by
 unfold insR
 rw [List.reverse_append]
 obtain ⟨h1,h2⟩:=takeWhile_hit (p:=p) (a:=B.reverse) (b:=A.reverse) (fun y hy=>hB y (by simpa using hy)) (by
  rcases hA with rfl | ⟨C,z,rfl,hz⟩
  ·exact .inl rfl
  ·exact .inr ⟨z,C.reverse,by simp,hz⟩)
 rw [h1,h2]
 simp
theorem insR_length {α:Type} (p:α->Bool) (x:α) (l:List α):(insR p x l).length=l.length+1:=by
 unfold insR
 have h:=congrArg List.length (List.takeWhile_append_dropWhile (p:=p) (l:=l.reverse))
 rw [List.length_append,List.length_reverse] at h
 simp only [List.length_append,List.length_reverse,List.length_cons]
 omega
theorem sortR_length {α:Type} (lt:α->α->Bool) (l:List α):(sortR lt l).length=l.length:=by
 have:∀ (l a:List α),(l.foldl (fun a x=>insR (lt x) x a) a).length=a.length+l.length:=by
  intro l
  induction l with
  | nil=>simp
  | cons x l ih=>intro a;rw [List.foldl_cons,ih,insR_length,List.length_cons];omega
 have h:=this l []
 unfold sortR
 simpa using h
theorem sortR_take {α:Type} (lt:α->α->Bool) (l:List α) {k:Nat} (hk:k < l.length):sortR lt (l.take (k+1))=insR (lt l[k]) l[k] (sortR lt (l.take k)):=by
 unfold sortR
 rw [List.take_succ_eq_append_getElem hk,List.foldl_append]
 rfl
theorem insR_map {α β:Type} (f:α->β) (p:β->Bool) (x:α) (l:List α):(insR (fun y=>p (f y)) x l).map f=insR p (f x) (l.map f):=by
 unfold insR
 rw [<- List.map_reverse,List.dropWhile_map,List.takeWhile_map]
 simp
 constructor <;> rfl
theorem sortR_map {α β:Type} (f:α->β) (lt:β->β->Bool) (l:List α):(sortR (fun x y=>lt (f x) (f y)) l).map f=sortR lt (l.map f):=by
 unfold sortR
 have:∀ (l a:List α),(l.foldl (fun a x=>insR (fun y=>lt (f x) (f y)) x a) a).map f=(l.map f).foldl (fun a x=>insR (lt x) x a) (a.map f):=by
  intro l
  induction l with
  | nil=>simp
  | cons x l ih=>intro a;rw [List.foldl_cons,ih,insR_map f (lt (f x))];rfl
 exact this l []
theorem insR_mem {α:Type} (p:α->Bool) (x:α) (l:List α) (y:α):y ∈ insR p x l ↔ y=x\/y ∈ l:=by
 unfold insR
 have h:=List.takeWhile_append_dropWhile (p:=p) (l:=l.reverse)
 have h2:y ∈ l ↔ y ∈ l.reverse.takeWhile p\/y ∈ l.reverse.dropWhile p:=by
  rw [<- List.mem_append,h,List.mem_reverse]
 rw [h2]
 simp
 constructor
 ·rintro (h | h | h)
  ·exact .inr (.inr h)
  ·exact .inl h
  ·exact .inr (.inl h)
 ·rintro (h | h | h)
  ·exact .inr (.inl h)
  ·exact .inr (.inr h)
  ·exact .inl h
theorem sortR_mem {α:Type} (lt:α->α->Bool) (l:List α) (y:α):y ∈ sortR lt l ↔ y ∈ l:=by
 have:∀ (l a:List α),y ∈ l.foldl (fun a x=>insR (lt x) x a) a ↔ y ∈ a\/y ∈ l:=by
  intro l
  induction l with
  | nil=>simp
  | cons x l ih =>
   intro a
   rw [List.foldl_cons,ih,insR_mem,List.mem_cons]
   constructor
   ·rintro ((h | h) | h)
    ·exact .inr (.inl h)
    ·exact .inl h
    ·exact .inr (.inr h)
   ·rintro (h | h | h)
    ·exact .inl (.inr h)
    ·exact .inl (.inl h)
    ·exact .inr h
 have h:=this l []
 unfold sortR
 simpa using h
def hexD (c:UInt8):Option Nat:=if dig c then some (c.toNat - 48) else if 97<=c.toNat/\c.toNat<=102 then some (c.toNat - 87) else none
def unhexL:List UInt8->Option (List UInt8)
 | []=>some []
 | [_]=>none
 | a :: b :: l=>match hexD a,hexD b,unhexL l with
  | some x,some y,some r=>some (UInt8.ofNat (16*x+y) :: r)
  | _,_,_=>none
def sumL (l:List UInt8):Option (List UInt8):=if l.length=64 then unhexL l else none
def atL (l:List Rw) (name:List UInt8) (v:Ver):Option Nat:=l.findIdx? fun r=>decide (r.name=name) && decide (verC r.v v=0)
def rowL (a b c d:List UInt8):Option Rw:=if nameB a=true then (verOf b).bind fun v=>(sumL c).bind fun k=>(sizeL d).map fun n=>⟨a,v,k,n,[]⟩ else none
def packL (st:List Rw) (s:List UInt8):Option (List Rw):=match splitC 32 s with
 | [a,b,c,d]=>(rowL a b c d).bind fun r=>if (atL st r.name r.v).isSome\/200<=st.length then none else some (st++[r])
 | _=>none
theorem begin_iff {c:UInt8} {t s:List UInt8} (ht:∀ d ∈ t,d ≠ c):s.take (t.length+1)=t++[c] ↔ headC c s=t/\c ∈ s:=by
 constructor
 ·intro h
  have e:s=t++c :: s.drop (t.length+1):=by
   conv=>lhs;rw [<- List.take_append_drop (t.length+1) s,h]
   simp
  rw [e]
  exact ⟨headC_hit _ ht,by simp⟩
 ·rintro ⟨h1,h2⟩
  obtain ⟨a,b,rfl,ha⟩:=first_place h2
  rw [headC_hit _ ha] at h1
  subst h1
  rw [List.take_append,List.take_of_length_le (by omega)]
  simp
theorem begin_tail {c:UInt8} {t s:List UInt8} (ht:∀ d ∈ t,d ≠ c) (h:s.take (t.length+1)=t++[c]):s=t++c :: s.drop (t.length+1)/\tailC c s=s.drop (t.length+1)/\splitC c s=t :: splitC c (s.drop (t.length+1)):=by
 have e:s=t++c :: s.drop (t.length+1):=by
  conv=>lhs;rw [<- List.take_append_drop (t.length+1) s,h]
  simp
 refine ⟨e,?_,?_⟩
 ·conv=>lhs;rw [e]
  exact tailC_hit _ ht
 ·conv=>lhs;rw [e]
  exact splitC_hit _ ht
def packT:List UInt8:=[112,97,99,107]
def needT:List UInt8:=[110,101,101,100]
theorem pack_no:∀ d ∈ packT,d ≠ 32:=by decide
theorem need_no:∀ d ∈ needT,d ≠ 32:=by decide
def ltNd (x y:Nd):Bool:=decide (x.name < y.name)
def wantL (st:List Rw) (s:List UInt8):Option (List Rw):=match st.getLast? with
 | none=>none
 | some r=>(needL s).bind fun n=>if n.name=r.name\/n.name ∈ r.needs.map Nd.name\/20<=r.needs.length then none else some (st.dropLast++[{ r with needs:=insR (ltNd n) n r.needs }])
def lineL (st:List Rw) (s:List UInt8):Option (List Rw) :=
 if s.take 5=packT++[32] then packL st (s.drop 5) else if s.take 5=needT++[32] then wantL st (s.drop 5) else none
def goL:List Rw->Nat->List (List UInt8)->List Rw ⊕ Nat
 | st,_,[]=>.inl st
 | st,i,s :: ls=>if silentB s then goL st (i+1) ls else match lineL st s with
  | none=>.inr (i+1)
  | some st'=>goL st' (i+1) ls
def indexL (l:List UInt8):List Rw ⊕ Nat:=if 65536 < l.length then .inr 0 else goL [] 0 (linesL l)
def Rises {α:Type} (f:α->List UInt8) (l:List α):Prop:=l.Pairwise fun x y=>f x < f y
theorem Rises.get {α:Type} {f:α->List UInt8} {l:List α} (h:Rises f l) {i j:Nat} (hj:j < l.length) (hij:i < j):f (l[i]'(by omega)) < f l[j]:=List.pairwise_iff_getElem.1 h i j (by omega) hj hij
theorem text_gt {a b:List UInt8} (h:¬ a < b) (h2:a ≠ b):b < a:=by
 rcases Std.lt_trichotomy a b with h3 | h3 | h3
 ·exact absurd h3 h
 ·exact absurd h3 h2
 ·exact h3
theorem text_trans {a b c:List UInt8} (h:a < b) (h2:b < c):a < c:=List.lt_trans h h2
theorem put_ins {α:Type} {f:α->List UInt8} {l:List α} (h:Rises f l) {x:α} {k:Nat} (hk:k<=l.length) (hlo:∀ i (hi:i < l.length),i < k->f l[i] < f x) (hhi:∀ hk:k < l.length,¬ f l[k] < f x) (hno:f x ∉ l.map f) :
  l.take k++x :: l.drop k=insR (fun y=>decide (f x < f y)) x l/\Rises f (insR (fun y=>decide (f x < f y)) x l):=by
 have hB:∀ y ∈ l.drop k,f x < f y:=fun y hy=>by
  obtain ⟨i,hi,rfl⟩:=List.getElem_of_mem hy
  rw [List.length_drop] at hi
  rw [List.getElem_drop]
  have hkl:k < l.length:=by omega
  have h1:f x < f l[k]:=text_gt (hhi hkl) fun e=>hno (List.mem_map.2 ⟨_,List.getElem_mem hkl,e⟩)
  rcases Nat.eq_zero_or_pos i with rfl | h0
  ·exact h1
  ·exact text_trans h1 (h.get (by omega) (by omega))
 have hA:∀ y ∈ l.take k,f y < f x:=fun y hy=>by
  obtain ⟨i,hi,rfl⟩:=List.getElem_of_mem hy
  rw [List.length_take] at hi
  rw [List.getElem_take]
  exact hlo i (by omega) (by omega)
 have e:l.take k++x :: l.drop k=insR (fun y=>decide (f x < f y)) x l:=by
  have h1:=insR_scan (p:=fun y=>decide (f x < f y)) (x:=x) (A:=l.take k) (B:=l.drop k) (fun y hy=>decide_eq_true (hB y hy)) (by
   rcases List.eq_nil_or_concat (l.take k) with h2 | ⟨C,z,h2⟩
   ·exact .inl h2
   ·refine .inr ⟨C,z,by simpa using h2,decide_eq_false fun h3=>?_⟩
    have:=hA z (by rw [h2];simp)
    exact absurd (text_trans h3 this) (by simp))
  rw [List.take_append_drop] at h1
  exact h1.symm
 refine ⟨e,?_⟩
 rw [<- e]
 unfold Rises at *
 rw [List.pairwise_append,List.pairwise_cons]
 have h2:=h
 rw [<- List.take_append_drop k l,List.pairwise_append] at h2
 refine ⟨h2.1,⟨hB,h2.2.1⟩,fun a ha b hb=>?_⟩
 rcases List.mem_cons.1 hb with rfl | hb
 ·exact hA a ha
 ·exact h2.2.2 a ha b hb
theorem insR_rises {α:Type} {f:α->List UInt8} {l:List α} (h:Rises f l) {x:α} (hno:f x ∉ l.map f):Rises f (insR (fun y=>decide (f x < f y)) x l):=by
 have:∃ k,k<=l.length/\(∀ i (hi:i < l.length),i < k->f l[i] < f x)/\∀ hk:k < l.length,¬ f l[k] < f x:=by
  have aux:∀ n,n<=l.length->(∀ i (hi:i < l.length),i < n->f l[i] < f x)\/∃ k,k<=l.length/\(∀ i (hi:i < l.length),i < k->f l[i] < f x)/\∀ hk:k < l.length,¬ f l[k] < f x:=by
   intro n
   induction n with
   | zero=>exact fun _=>.inl fun i hi h0=>absurd h0 (by omega)
   | succ n ih =>
    intro hn
    rcases ih (by omega) with h1 | h1
    ·by_cases h2:f (l[n]'(by omega)) < f x
     ·exact .inl fun i hi h3=>by
       rcases Nat.lt_or_ge i n with h4 | h4
       ·exact h1 i hi h4
       ·obtain rfl:i=n:=by omega
        exact h2
     ·exact .inr ⟨n,by omega,h1,fun _=>h2⟩
    ·exact .inr h1
  rcases aux l.length (Nat.le_refl _) with h1 | h1
  ·exact ⟨l.length,Nat.le_refl _,h1,fun hk=>absurd hk (by omega)⟩
  ·exact h1
 obtain ⟨k,h1,h2,h3⟩:=this
 exact (put_ins h h1 h2 h3 hno).2
abbrev Asc (a:List (List UInt8)):Prop:=a.Pairwise (fun x y=>x < y)
theorem asc_unique:∀ (a b:List (List UInt8)),Asc a->Asc b->(∀ y,y ∈ a ↔ y ∈ b)->a=b
 | [],[],_,_,_=>rfl
 | [],y :: b,_,_,h=>absurd ((h y).2 (by simp)) (by simp)
 | x :: a,[],_,_,h=>absurd ((h x).1 (by simp)) (by simp)
 | x :: a,y :: b,ha,hb,h=>by
  obtain ⟨h1,h2⟩:=List.pairwise_cons.1 ha
  obtain ⟨h3,h4⟩:=List.pairwise_cons.1 hb
  have hxy:x=y:=by
   rcases List.mem_cons.1 ((h x).1 (by simp)) with e | e
   ·exact e
   ·rcases List.mem_cons.1 ((h y).2 (by simp)) with e2 | e2
    ·exact e2.symm
    ·exact absurd (h1 y e2) (List.lt_asymm (h3 x e))
  subst hxy
  refine congrArg (x :: ·) (asc_unique a b h2 h4 fun z=>?_)
  constructor
  ·intro hz
   rcases List.mem_cons.1 ((h z).1 (by simp [hz])) with e | e
   ·subst e;exact absurd (h1 z hz) (List.lt_irrefl z)
   ·exact e
  ·intro hz
   rcases List.mem_cons.1 ((h z).2 (by simp [hz])) with e | e
   ·subst e;exact absurd (h3 z hz) (List.lt_irrefl z)
   ·exact e
end Go.Proofs.YtgiigemfbebcgaaGreatDoor
namespace Go.Proofs.YtgiigemfbebcgaaGreatDoor
open _root_.Go.Proofs.Tryz
open Go.RowKit Go.Lib Go.Sort
theorem text_le {a b:List UInt8}:a<=b ↔ a < b\/a=b:=by
 constructor
 ·intro h
  rcases Std.lt_trichotomy a b with h3 | h3 | h3
  ·exact .inl h3
  ·exact .inr h3
  ·exact absurd h3 h
 ·rintro (h | h)
  ·exact List.lt_asymm h
  ·rw [h];exact List.lt_irrefl _
theorem text_le_trans {a b c:List UInt8} (h:a<=b) (h2:b<=c):a<=c:=by
 rw [text_le] at h h2 ⊢
 rcases h with h | rfl
 ·rcases h2 with h2 | rfl
  ·exact .inl (List.lt_trans h h2)
  ·exact .inl h
 ·exact h2
theorem compact_asc (d:Array (List UInt8)) (hs:∀ i j,i < j->j < d.size->d[i]!<=d[j]!):∀ m,m<=d.size->Asc (compactUpTo d m)/\∀ y,y ∈ compactUpTo d m ↔ ∃ i,i < m/\d[i]! = y
 | 0,_=>⟨by simp [compactUpTo],by simp [compactUpTo]⟩
 | m+1,hm=>by
  obtain ⟨h1,h2⟩:=compact_asc d hs m (by omega)
  rw [compactUpTo_succ]
  by_cases hk:keeps d m=true
  ·rw [if_pos hk]
   refine ⟨List.pairwise_append.2 ⟨h1,by simp,fun x hx y hy=>?_⟩,fun y=>?_⟩
   ·obtain rfl:=List.mem_singleton.1 hy
    obtain ⟨i,hi,rfl⟩:=(h2 x).1 hx
    unfold keeps at hk
    have hk2:=of_decide_eq_true hk
    have hm0:m ≠ 0:=by omega
    have hne:d[m]! ≠ d[m - 1]!:=by
     rcases hk2 with h | h
     ·exact absurd h hm0
     ·exact h
    have h3:d[m - 1]! < d[m]!:=by
     rcases text_le.1 (hs (m - 1) m (by omega) (by omega)) with h | h
     ·exact h
     ·exact absurd h.symm hne
    rcases Nat.lt_or_ge i (m - 1) with h4 | h4
    ·rcases text_le.1 (hs i (m - 1) h4 (by omega)) with h5 | h5
     ·exact List.lt_trans h5 h3
     ·rw [h5];exact h3
    ·obtain rfl:i=m - 1:=by omega
     exact h3
   ·rw [List.mem_append,h2,List.mem_singleton]
    constructor
    ·rintro (⟨i,hi,rfl⟩ | rfl)
     ·exact ⟨i,by omega,rfl⟩
     ·exact ⟨m,by omega,rfl⟩
    ·rintro ⟨i,hi,rfl⟩
     by_cases e:i=m
     ·subst e;exact .inr rfl
     ·exact .inl ⟨i,by omega,rfl⟩
  ·rw [if_neg hk,List.append_nil]
   refine ⟨h1,fun y=>?_⟩
   rw [h2]
   have hk2:¬ (m=0\/d[m]! ≠ d[m - 1]!):=fun h=>hk (decide_eq_true h)
   have hm0:m ≠ 0:=fun h=>hk2 (.inl h)
   have he:d[m]! = d[m - 1]!:=Classical.byContradiction fun h=>hk2 (.inr h)
   constructor
   ·rintro ⟨i,hi,rfl⟩;exact ⟨i,by omega,rfl⟩
   ·rintro ⟨i,hi,rfl⟩
    by_cases e:i=m
    ·subst e;exact ⟨i - 1,by omega,he.symm⟩
    ·exact ⟨i,by omega,rfl⟩
theorem names_sorted (ss:List (List UInt8)):Asc (Lib.compact (ss.mergeSort fun x y=>decide (x<=y)))/\∀ y,y ∈ Lib.compact (ss.mergeSort fun x y=>decide (x<=y)) ↔ y ∈ ss:=by
 have hp:(ss.mergeSort fun x y=>decide (x<=y)).Pairwise (fun x y=>decide (x<=y)=true):=List.pairwise_mergeSort (le:=fun (x y:List UInt8)=>decide (x<=y)) (fun a b c h1 h2=>decide_eq_true (text_le_trans (of_decide_eq_true h1) (of_decide_eq_true h2))) (fun a b=>by
  rw [Bool.or_eq_true,decide_eq_true_iff,decide_eq_true_iff]
  rcases Std.lt_trichotomy a b with h | h | h
  ·exact .inl (text_le.2 (.inl h))
  ·exact .inl (text_le.2 (.inr h))
  ·exact .inr (text_le.2 (.inl h))) ss
 obtain ⟨zs,hz⟩:∃ zs,zs=ss.mergeSort fun x y=>decide (x<=y):=⟨_,rfl⟩
 have hmem:∀ y,y ∈ zs ↔ y ∈ ss:=fun y=>by rw [hz];exact List.mem_mergeSort
 rw [<- hz] at hp ⊢
 have hg:∀ i,i < zs.length->zs.toArray[i]! = zs[i]!:=fun i hi=>by simp
 obtain ⟨h1,h2⟩:=compact_asc zs.toArray (fun i j hij hj=>by
  have hj':j < zs.length:=by simpa using hj
  rw [hg i (by omega),hg j hj',getElem!_pos zs i (by omega),getElem!_pos zs j hj']
  exact of_decide_eq_true (List.pairwise_iff_getElem.1 hp i j (by omega) hj' hij)) zs.length (by simp)
 refine ⟨h1,fun y=>?_⟩
 show y ∈ compactUpTo zs.toArray zs.length ↔ _
 rw [h2,<- hmem]
 constructor
 ·rintro ⟨i,hi,rfl⟩
  rw [hg i hi,getElem!_pos zs i hi]
  exact List.getElem_mem hi
 ·intro h
  obtain ⟨i,hi,rfl⟩:=List.getElem_of_mem h
  exact ⟨i,hi,by rw [hg i hi,getElem!_pos zs i hi]⟩
end Go.Proofs.YtgiigemfbebcgaaGreatDoor
namespace Go.Proofs.YtgiigemfbebcgaaGreatDoor
open _root_.Go.Proofs.Tryz
open Go.RowKit
noncomputable def bodyP:Code:=Tryz.f100.body.getD .skip
noncomputable def blkP0:Code:=(blockAt 0 bodyP).getD .skip
set_option maxRecDepth 100000 in
theorem lit34 (t:Array Value) (h:t.size=34):∃ c:Nat->Value,t=#[c 0,c 1,c 2,c 3,c 4,c 5,c 6,c 7,c 8,c 9,c 10,c 11,c 12,c 13,c 14,c 15,c 16,c 17,c 18,c 19,c 20,c 21,c 22,c 23,c 24,c 25,c 26,c 27,c 28,c 29,c 30,c 31,c 32,c 33]/\∀ i,t.getD i undef=c i:=by
 refine ⟨fun i=>t.getD i undef,?_,fun _=>rfl⟩
 have h1:=arr_lits t
 rw [h] at h1
 exact h1.trans (by kernel_rfl)
def LpZ (w0:World) (base:Nat) (l:List UInt8) (z:Nat) (v0:Value) (k:Nat) (a:Act) (w:World):Prop :=
 ∃ j v,j+k=z/\Mod (fun p=>base<=p) w0 w/\base<=w.heap.size/\w.ownsRow base 5 1 v (l.length+1+j) (bv (l++128 :: List.replicate j 0))/\Fr 34 [(0,v0),(3,v)] a
set_option maxRecDepth 100000 in
set_option maxHeartbeats 4000000 in
theorem zeros_any (base:Nat) (l:List UInt8) (v0 v:Value) (f:Act) (w:World) (hl:l.length<=70368744177664) (hb:base<=w.heap.size) (hv:w.ownsRow base 5 1 v (l.length+1) (bv (l++[128])))
  (hF:Fr 34 [(0,v0),(3,v)] f) :
  Code.wp prog blkP0 (Exit.then (fun a' w'=>(∃ v',Fr 34 [(0,v0),(3,v')] a'/\w'.ownsRow base 5 1 v' (l.length+1+(64*lastN l - 9 - l.length % 64)) (bv (l++128 :: List.replicate (64*lastN l - 9 - l.length % 64) 0)))/\base<=w'.heap.size/\Mod (fun p=>base<=p) w w') Nope) f w:=by
 refine wp_part fun J K' hJ hK=>?_
 obtain ⟨i0,hi,hz0,hz1,hz2⟩:=info_parts info_byte
 have HI:=zh (And.intro hi (And.intro hz0 (And.intro hz1 hz2)))
 clear hi hz0 hz1 hz2
 obtain ⟨z,hz⟩:∃ z,z=64*lastN l - 9 - l.length % 64:=⟨_,rfl⟩
 rw [<- hz] at hJ
 have H0:=zh (show LpZ w base l z v0 z f w from ⟨0,v,by omega,Mod.refl _ w,hb,hv,hF⟩)
 have HJ:=zh hJ
 obtain ⟨w0,hw0⟩:∃ w0,w0=w:=⟨_,rfl⟩
 rw [<- hw0] at HJ H0
 clear hF hJ hv
 have hmod:∀ j,j<=z->((l.length+1+j) % 64=56 ↔ j=z):=fun j hj=>by
  have h1:=lastN_le l
  have h2:lastN l=if 64 < l.length % 64+9 then 2 else 1:=rfl
  split at h2 <;> omega
 have HMO:=zh hmod
 clear hmod
 have hz64:z<=128:=by have:=lastN_le2 l;omega
 clear hz
 conv=>arg 2;whnf
 go_step
 refine wp_loop_ghost_k (LpZ w0 base l z v0) z (by rw [hw0] at H0 ⊢;exact H0.out) ?_
 clear H0 hw0 hb f w v
 intro k f w hI J2 K2 hJ2 hK2
 have HJ2:=zh hJ2
 obtain ⟨j,v,hjk,hmod,hb,hown,hF⟩:=hI
 have HO:=zh hown
 have HM:=zh hmod
 have HB:=zh hb
 obtain ⟨n,hn⟩:∃ n,n=l.length+1+j:=⟨_,rfl⟩
 rw [<- hn] at HO hown
 obtain ⟨va,vc,rfl⟩:=(Sl.of_own hown (X:=No) (fun _ _ f=>f)).len
 clear hJ2 hmod hb hown
 obtain ⟨ts,ds⟩:=f
 obtain ⟨hsz,hds,hs0,hs3,-⟩:=hF
 dsimp only at hsz hds hs0 hs3
 subst hds
 obtain ⟨c,rfl,hc⟩:=lit34 ts hsz
 rw [hc] at hs0
 rw [hc] at hs3
 simp only [hs0,hs3]
 clear hc hsz hs0 hs3
 have hn0:(0:Int)<=(n:Int):=Int.natCast_nonneg _
 obtain ⟨r,hr⟩:∃ r,r=n % 64:=⟨_,rfl⟩
 have q1:(n:Int) % 64=(r:Int):=by omega
 have q2:Int.tmod (n:Int) 64=(r:Int):=by rw [Int.tmod_eq_emod_of_nonneg hn0];exact q1
 have hmj:=HMO.out j (by omega)
 rw [<- hn,<- hr] at hmj
 have HN:=zh (And.intro hn hr)
 clear hn hr
 by_cases hi:j < z
 ·have hr56:¬ ((r:Int)=56):=by omega
  obtain ⟨w1,hw1⟩:∃ w1,w1=w.alloc (.cells #[.int .u8 0] 5):=⟨_,rfl⟩
  have hm1:Mod No w w1:=by rw [hw1];exact (Mod.refl No w).alloc _
  have hg1:w1.heap[w.heap.size]? = some (.cells #[.int .u8 0] 5 (0,0)):=by rw [hw1];exact heap_alloc_new w _
  have HS:=zh (show Sl w1 No 5 (.slice (some ⟨w.heap.size,0,none⟩) 1 1) 1 [.int .u8 0] from .inr ⟨w.heap.size,0,1,_,_,rfl,Nat.le_refl _,by unfold maxLen;omega,fun f=>f,hg1,by simp,fun i hi=>by simp at hi;subst hi;rfl⟩)
  have HO1:=zh (own_keepM HO.out hm1 (fun _ _ f=>f))
  have HB1:=zh (Nat.le_trans HB.out hm1.size)
  have HM1:=zh hm1
  have HW1:=zh hw1
  obtain ⟨hi,hz0,hz1,hz2⟩:=HI.out
  have HNL:=zh (show n+1<=140737488355328 by have:=HN.out.1;omega)
  clear hm1 hg1 hw1 hmj
  go_wp2_with (rw [<- HW1.out];at_builtin;refine app_sl _ rfl _ _ 29 rfl base 5 i0 (.int .u8 0) 1 1 underlying29 hi hz0 hz1 hz2 rfl (by decide) (.slice va n vc) n _ rfl HO1.out No 5 _ 1 [.int .u8 0] rfl HS.out rfl (by simp [Value.oneCell']) (by have:=HNL.out;unfold maxLen;omega) (by have:=HNL.out;omega) HB1.out ?_;intro v3 w3 hown hg hiff;have HO3:=zh (And.intro hown hg);clear hown hg hiff)
  have hm3:Mod (fun p=>base<=p) w1 w3:=Mod.of_grown HO3.out.2 (fun k e _=>(HO1.out.lt _ e).1)
  have hmm:Mod (fun p=>base<=p) w0 w3:=HM.out.trans ((HM1.out.weaken fun _ _ f=>f.elim:Mod (fun p=>base<=p) w w1).trans hm3)
  exact Handed.intro (k - 1) (by omega) (HJ2.out _ _ _ ⟨j+1,v3,by omega,hmm,Nat.le_trans HB1.out hm3.size,by
   have h1:=HO3.out.1
   rw [show l.length+1+(j+1)=n+1 by have:=HN.out.1;omega,List.replicate_succ',<- List.cons_append,<- List.append_assoc,bv_append]
   exact h1,rfl,rfl,rfl,rfl,trivial⟩)
 ·have hjz:j=z:=by omega
  have hr56:(r:Int)=56:=by omega
  have HOZ:=zh (show w.ownsRow base 5 1 (.slice va n vc) (l.length+1+z) (bv (l++128 :: List.replicate z 0)) by rw [<- hjz,<- HN.out.1];exact HO.out)
  clear hmj
  go_wp2_with fail
  exact Met.intro (HJ.out _ _ ⟨⟨_,⟨rfl,rfl,rfl,rfl,trivial⟩,HOZ.out⟩,HB.out,HM.out⟩)
noncomputable def blkP2:Code:=(blockAt 2 bodyP).getD .skip
def LpB2 (w0:World) (base:Nat) (xs:List UInt8) (n:Nat) (v0:Value) (k:Nat) (a:Act) (w:World):Prop :=
 ∃ j v,j+k=8/\Mod (fun p=>base<=p) w0 w/\base<=w.heap.size/\w.ownsRow base 5 1 v (xs.length+j) (bv (xs++lenBytes n j))/\Fr 34 [(0,v0),(3,v),(4,.int .u64 (n:Int)),(5,.int .i64 (7 - (j:Int)))] a
set_option maxRecDepth 100000 in
set_option maxHeartbeats 4000000 in
theorem padlens_any (base:Nat) (xs:List UInt8) (n:Nat) (v0 v:Value) (f:Act) (w:World) (hl:xs.length<=70368744177800) (hb:base<=w.heap.size) (hv:w.ownsRow base 5 1 v xs.length (bv xs))
  (hF:Fr 34 [(0,v0),(3,v),(4,.int .u64 (n:Int)),(5,.int .i64 7)] f) :
  Code.wp prog blkP2 (Exit.then (fun a' w'=>(∃ v',Fr 34 [(0,v0),(3,v')] a'/\w'.ownsRow base 5 1 v' (xs.length+8) (bv (xs++lenBytes n 8)))/\base<=w'.heap.size/\Mod (fun p=>base<=p) w w') Nope) f w:=by
 refine wp_part fun J K' hJ hK=>?_
 obtain ⟨i0,hi,hz0,hz1,hz2⟩:=info_parts info_byte
 have HI:=zh (And.intro hi (And.intro hz0 (And.intro hz1 hz2)))
 clear hi hz0 hz1 hz2
 have H0:=zh (show LpB2 w base xs n v0 8 f w from ⟨0,v,rfl,Mod.refl _ w,hb,by simpa [lenBytes] using hv,hF⟩)
 have HJ:=zh hJ
 obtain ⟨w0,hw0⟩:∃ w0,w0=w:=⟨_,rfl⟩
 rw [<- hw0] at HJ H0
 clear hF hJ hv
 conv=>arg 2;whnf
 go_step
 refine wp_loop_ghost_k (LpB2 w0 base xs n v0) 8 (by rw [hw0] at H0 ⊢;exact H0.out) ?_
 clear H0 hw0 hb f w v
 intro k f w hI J2 K2 hJ2 hK2
 have HJ2:=zh hJ2
 obtain ⟨j,v,hjk,hmod,hb,hown,hF⟩:=hI
 have HO:=zh hown
 have HM:=zh hmod
 have HB:=zh hb
 obtain ⟨va,vc,rfl⟩:=(Sl.of_own hown (X:=No) (fun _ _ f=>f)).len
 clear hJ2 hmod hb hown
 by_cases hi:j < 8
 ·obtain ⟨i,hii⟩:∃ i,i=7 - j:=⟨_,rfl⟩
  obtain ⟨s,hs⟩:∃ s,s=56 - 8*j:=⟨_,rfl⟩
  rw [show (7:Int) - (j:Int)=(i:Int) by omega] at hF
  obtain ⟨ts,ds⟩:=f
  obtain ⟨hsz,hds,hs0,hs3,hs4,hs5,-⟩:=hF
  dsimp only at hsz hds hs0 hs3 hs4 hs5
  subst hds
  obtain ⟨c,rfl,hc⟩:=lit34 ts hsz
  rw [hc] at hs0
  rw [hc] at hs3
  rw [hc] at hs4
  rw [hc] at hs5
  simp only [hs0,hs3,hs4,hs5]
  clear hc hsz hs0 hs3 hs4 hs5
  have b1:(0:Int)<=(i:Int):=Int.natCast_nonneg _
  have b2:(i:Int)<=7:=by omega
  have q1:(8:Int)*(i:Int)=(s:Int):=by omega
  have b3:(0:Int)<=(s:Int):=Int.natCast_nonneg _
  have b4:(s:Int)<=56:=by omega
  obtain ⟨x,hx⟩:∃ x:Int,x=((lenByte n j).toNat:Int):=⟨_,rfl⟩
  have q2:(n:Int) / 2 ^ s % 256=x:=by rw [hx];exact lenByte_val n j s hs
  have HX:=zh (And.intro hx (And.intro hii hs))
  obtain ⟨w1,hw1⟩:∃ w1,w1=w.alloc (.cells #[.int .u8 x] 5):=⟨_,rfl⟩
  have hm1:Mod No w w1:=by rw [hw1];exact (Mod.refl No w).alloc _
  have hg1:w1.heap[w.heap.size]? = some (.cells #[.int .u8 x] 5 (0,0)):=by rw [hw1];exact heap_alloc_new w _
  have HS:=zh (show Sl w1 No 5 (.slice (some ⟨w.heap.size,0,none⟩) 1 1) 1 [.int .u8 x] from .inr ⟨w.heap.size,0,1,_,_,rfl,Nat.le_refl _,by unfold maxLen;omega,fun f=>f,hg1,by simp,fun i hi=>by simp at hi;subst hi;rfl⟩)
  have HO1:=zh (own_keepM HO.out hm1 (fun _ _ f=>f))
  have HB1:=zh (Nat.le_trans HB.out hm1.size)
  have HM1:=zh hm1
  have HW1:=zh hw1
  obtain ⟨hi0,hz0,hz1,hz2⟩:=HI.out
  have HNL:=zh (show xs.length+j+1<=140737488355328 by omega)
  clear hm1 hg1 hw1 hx hii hs
  go_wp2_with (rw [<- HW1.out];at_builtin;refine app_sl _ rfl _ _ 29 rfl base 5 i0 (.int .u8 0) 1 1 underlying29 hi0 hz0 hz1 hz2 rfl (by decide) (.slice va (xs.length+j) vc) (xs.length+j) _ rfl HO1.out No 5 _ 1 [.int .u8 x] rfl HS.out rfl (by simp [Value.oneCell']) (by have:=HNL.out;unfold maxLen;omega) (by have:=HNL.out;omega) HB1.out ?_;intro v3 w3 hown hg hiff;have HO3:=zh (And.intro hown hg);clear hown hg hiff)
  have hm3:Mod (fun p=>base<=p) w1 w3:=Mod.of_grown HO3.out.2 (fun k e _=>(HO1.out.lt _ e).1)
  have hmm:Mod (fun p=>base<=p) w0 w3:=HM.out.trans ((HM1.out.weaken fun _ _ f=>f.elim:Mod (fun p=>base<=p) w w1).trans hm3)
  exact Handed.intro (k - 1) (by omega) (HJ2.out _ _ _ ⟨j+1,v3,by omega,hmm,Nat.le_trans HB1.out hm3.size,by
   have h1:=HO3.out.1
   rw [lenBytes_succ,<- List.append_assoc,bv_append,<- Nat.add_assoc]
   rw [HX.out.1] at h1
   exact h1,rfl,rfl,rfl,rfl,rfl,by have:=HX.out.2.1;show Value.int .i64 _=Value.int .i64 _;congr 1;omega,trivial⟩)
 ·have hj8:j=8:=by omega
  subst hj8
  obtain ⟨ts,ds⟩:=f
  obtain ⟨hsz,hds,hs0,hs3,hs4,hs5,-⟩:=hF
  dsimp only at hsz hds hs0 hs3 hs4 hs5
  subst hds
  obtain ⟨c,rfl,hc⟩:=lit34 ts hsz
  rw [hc] at hs0
  rw [hc] at hs3
  rw [hc] at hs4
  rw [hc] at hs5
  simp only [hs0,hs3,hs4,hs5]
  clear hc hsz hs0 hs3 hs4 hs5
  go_wp2_with fail
  exact Met.intro (HJ.out _ _ ⟨⟨_,⟨rfl,rfl,rfl,rfl,trivial⟩,HO.out⟩,HB.out,HM.out⟩)
set_option maxRecDepth 100000 in
set_option maxHeartbeats 4000000 in
theorem pad_any (l:List UInt8) (V:Value) (w:World) (hl:l.length<=70368744177664) (hV:Sl w No 5 V l.length (bv l)) :
  Calls prog 100 #[V] w fun e w'=>∃ v,e=.returned v/\w'.ownsRow w.heap.size 5 1 v (padT l).length (bv (padT l))/\Mod No w w':=by
 refine calls_hide fun R hR=>?_
 obtain ⟨i0,hi,hz0,hz1,hz2⟩:=info_parts info_byte
 obtain ⟨va,vc,rfl⟩:=hV.len
 have HV:=zh hV
 clear hV
 obtain ⟨base,hbase⟩:∃ base,base=w.heap.size:=⟨_,rfl⟩
 rw [<- hbase] at hR
 have HBA:=zh hbase
 clear hbase
 obtain ⟨n,hn⟩:∃ n,n=l.length:=⟨_,rfl⟩
 rw [<- hn] at HV
 rw [<- hn]
 have HN:=zh hn
 have hn8:(n:Int)<=70368744177664:=by omega
 have hn0:(0:Int)<=(n:Int):=Int.natCast_nonneg _
 clear hn
 go_enter func100,ntmps100
 go_upto_region 1 with fail
 rename_i K5 hK5
 have HK5:=zh hK5
 clear hK5
 go_wp2_with (first
  |(at_builtin;refine app_sl _ rfl _ _ 29 rfl base 5 i0 (.int .u8 0) 1 1 underlying29 hi hz0 hz1 hz2 rfl (by decide) (.slice none 0 0) 0 [] rfl (World.ownsRow_nil _ _ _ _) No 5 _ n (bv l) rfl HV.out (by rw [bv_length,HN.out,Nat.mul_one]) (bv_one _) (by unfold maxLen;omega) (by omega) (by rw [HBA.out];exact Nat.le_refl _) ?_;intro v3 w3 hown hg hiff;rw [Nat.zero_add,List.nil_append] at hown;have HO3:=zh (And.intro hown hg);clear hown hg hiff;obtain ⟨va3,vc3,hv3⟩:=(Sl.of_own HO3.out.1 (X:=No) (fun _ _ f=>f)).len;subst hv3)
  |(at_builtin;refine app_sl _ rfl _ _ 29 rfl base 5 i0 (.int .u8 0) 1 1 underlying29 hi hz0 hz1 hz2 rfl (by decide) (.slice va3 n vc3) n _ rfl (own_keepM HO3.out.1 ((Mod.refl No w3).alloc _) (fun _ _ f=>f)) No 5 (.slice (some ⟨w3.heap.size,0,none⟩) 1 1) 1 [.int .u8 128] rfl (.inr ⟨w3.heap.size,0,1,_,_,rfl,Nat.le_refl _,by unfold maxLen;omega,fun f=>f,heap_alloc_new w3 _,by simp,fun i hi=>by simp at hi;subst hi;rfl⟩) rfl (by simp [Value.oneCell']) (by unfold maxLen;omega) (by omega) (Nat.le_trans (by rw [HBA.out];exact HO3.out.2.size) ((Mod.refl No w3).alloc _).size) ?_;intro v5 w5 hown hg hiff;have HO5:=zh (And.intro hown hg);clear hown hg hiff))
 have hm3:Mod No w w3:=Mod.of_grown HO3.out.2 (fun k e _=>by cases e)
 have hm35:Mod (fun p=>base<=p) w3 w5:=((Mod.refl (fun p=>base<=p) w3).alloc _).trans (Mod.of_grown HO5.out.2 (fun k e _=>(HO3.out.1.lt _ e).1))
 have HM5:=zh (show Mod (fun p=>base<=p) w w5 from (hm3.weaken fun _ _ f=>f.elim:Mod (fun p=>base<=p) w w3).trans hm35)
 have HB5:=zh (show base<=w5.heap.size by rw [HBA.out];exact HM5.out.size)
 have HOW5:=zh (show w5.ownsRow base 5 1 v5 (l.length+1) (bv (l++[128])) by
  have h1:=HO5.out.1
  rw [bv_append,<- HN.out]
  exact h1)
 refine HK5.out _ _ ?_
 clear hm3 hm35 HO3 HO5 HK5 K5
 go_upto_block 0 with fail
 rename_i K6 hK6
 refine wp_only (zeros_any base l _ v5 _ w5 hl HB5.out HOW5.out ⟨rfl,rfl,rfl,rfl,trivial⟩) ?_
 rintro a6 w6 ⟨⟨v6,hF,hown6⟩,hb6,hm6⟩
 have HM6:=zh (HM5.out.trans hm6)
 have HB6:=zh hb6
 have HO6:=zh hown6
 refine hK6 _ _ ?_
 clear hm6 hb6 hown6 hK6 K6
 obtain ⟨ts,ds⟩:=a6
 obtain ⟨hsz,hds,hs0,hs3,-⟩:=hF
 dsimp only at hsz hds hs0 hs3
 subst hds
 obtain ⟨c,rfl,hc⟩:=lit34 ts hsz
 rw [hc] at hs0
 rw [hc] at hs3
 simp only [hs0,hs3]
 clear hc hsz hs0 hs3
 go_upto_block 2 with fail
 rename_i K6 hK6
 have hxl:(l++128 :: List.replicate (64*lastN l - 9 - l.length % 64) 0).length=l.length+1+(64*lastN l - 9 - l.length % 64):=by simp;omega
 refine wp_only (padlens_any base (l++128 :: List.replicate (64*lastN l - 9 - l.length % 64) 0) (n*8) _ v6 _ w6 (by rw [hxl];have:=lastN_le2 l;omega) HB6.out (by rw [hxl];exact HO6.out) ⟨rfl,rfl,rfl,rfl,rfl,rfl,trivial⟩) ?_
 rintro a7 w7 ⟨⟨v7,hF,hown7⟩,hb7,hm7⟩
 have HM7:=zh (HM6.out.trans hm7)
 have HO7:=zh (show w7.ownsRow base 5 1 v7 (padT l).length (bv (padT l)) by
  have e1:(padT l).length=(l++128 :: List.replicate (64*lastN l - 9 - l.length % 64) 0).length+8:=by unfold padT;rw [List.length_append,lenBytes_length]
  rw [e1]
  have h1:=hown7
  rw [HN.out] at h1
  exact h1)
 refine hK6 _ _ ?_
 clear hm7 hb7 hown7 hK6 K6 hxl c
 obtain ⟨ts,ds⟩:=a7
 obtain ⟨hsz,hds,hs0,hs3,-⟩:=hF
 dsimp only at hsz hds hs0 hs3
 subst hds
 obtain ⟨c,rfl,hc⟩:=lit34 ts hsz
 rw [hc] at hs0
 rw [hc] at hs3
 simp only [hs0,hs3]
 clear hc hsz hs0 hs3
 go_wp2_with fail
 exact fin hR ⟨_,rfl,HO7.out,HM7.out.weaken (fun k hk e=>absurd hk (by have:=HBA.out;omega))⟩
end Go.Proofs.YtgiigemfbebcgaaGreatDoor
