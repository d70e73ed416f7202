/-
  Layers 0 to 14: helps of the laws of indexes. No statement is proved here; no condition.
-/
import Derived.Test.YtgiigemfbebcgaaGreatDoorT06
import Derived.Test.YtgiigemfbebcgaaGreatDoorT03
import Derived.Test.YtgiigemfbebcgaaGreatDoorT02
namespace Go.Proofs.YtgiigemfbebcgaaGreatDoor
open _root_.Go.Proofs.Tryz
open Go.RowKit
def decT (n:Nat):List UInt8:=if n < 10 then [UInt8.ofNat (48+n)] else decT (n / 10)++[UInt8.ofNat (48+n % 10)]
decreasing_by omega
theorem decT_small {n:Nat} (h:n < 10):decT n=[UInt8.ofNat (48+n)]:=by rw [decT,if_pos h]
theorem decT_great {n:Nat} (h:¬ n < 10):decT n=decT (n / 10)++[UInt8.ofNat (48+n % 10)]:=by rw [decT,if_neg h]
theorem dig_of {n:Nat} (h:n < 10):(UInt8.ofNat (48+n)).toNat=48+n/\dig (UInt8.ofNat (48+n))=true:=by
 have e:(UInt8.ofNat (48+n)).toNat=48+n:=by rw [UInt8.toNat_ofNat'];exact Nat.mod_eq_of_lt (by omega)
 refine ⟨e,?_⟩
 unfold dig
 rw [e]
 simp
 omega
theorem decT_all (n:Nat):(decT n).all dig=true/\decT n ≠ []/\decV (decT n)=n/\∀ k,n < 10 ^ (k+1)->(decT n).length<=k+1:=by
 induction n using Nat.strongRecOn with
 | ind n ih =>
  by_cases h:n < 10
  ·obtain ⟨h1,h2⟩:=dig_of h
   rw [decT_small h]
   generalize UInt8.ofNat (48+n)=c at *
   refine ⟨by simp [h2],by simp,by simp [decV,h1],fun k _=>by simp⟩
  ·obtain ⟨h1,h2⟩:=dig_of (n:=n % 10) (by omega)
   obtain ⟨a,b,c,d⟩:=ih (n / 10) (by omega)
   rw [decT_great h]
   generalize UInt8.ofNat (48+n % 10)=x at *
   refine ⟨by rw [List.all_append,a];simp [h2],by simp,?_,fun k hk=>?_⟩
   ·rw [decV_snoc,c,h1];omega
   ·match k,hk with
    | 0,hk=>exact absurd hk (by omega)
    | k+1,hk =>
     have:=d k (by rw [Nat.pow_succ] at hk;omega)
     rw [List.length_append]
     simp
     omega
theorem decT_size {n:Nat} (h:n<=262144):sizeL (decT n)=some (n:Int):=by
 obtain ⟨a,b,c,d⟩:=decT_all n
 have hd:digitsB (decT n)=true:=by
  unfold digitsB
  rw [a]
  simp [b]
 unfold sizeL
 have:=d 5 (by omega)
 rw [if_pos ⟨hd,by omega,by omega⟩,c]
def joinC (c:UInt8):List (List UInt8)->List UInt8
 | []=>[]
 | [x]=>x
 | x :: l=>x++c :: joinC c l
def verT (v:Ver):List UInt8:=decT v.ma.toNat++46 :: (decT v.mi.toNat++46 :: (decT v.pa.toNat++(if v.pre=[] then [] else 45 :: joinC 46 v.pre)))
def needT' (n:Nd):List UInt8:=needT++32 :: (n.name++32 :: (n.text++[10]))
def packT' (r:Rw):List UInt8:=packT++32 :: (r.name++32 :: (verT r.v++32 :: (hexL r.sum++32 :: (decT r.size.toNat++[10]))))
def rowT (r:Rw):List UInt8:=packT' r++(sortR ltNd r.needs).flatMap needT'
def indexT (l:List Rw):List UInt8:=l.flatMap rowT
def Rises {α:Type} (f:α->List UInt8) (l:List α):Prop:=l.Pairwise fun x y=>f x < f y
theorem Rises.get {α:Type} {f:α->List UInt8} {l:List α} (h:Rises f l) {i j:Nat} (hj:j < l.length) (hij:i < j):f (l[i]'(by omega)) < f l[j]:=List.pairwise_iff_getElem.1 h i j (by omega) hj hij
theorem text_gt {a b:List UInt8} (h:¬ a < b) (h2:a ≠ b):b < a:=by
 rcases Std.lt_trichotomy a b with h3 | h3 | h3
 ·exact absurd h3 h
 ·exact absurd h3 h2
 ·exact h3
theorem text_trans {a b c:List UInt8} (h:a < b) (h2:b < c):a < c:=List.lt_trans h h2
theorem put_ins {α:Type} {f:α->List UInt8} {l:List α} (h:Rises f l) {x:α} {k:Nat} (hk:k<=l.length) (hlo:∀ i (hi:i < l.length),i < k->f l[i] < f x) (hhi:∀ hk:k < l.length,¬ f l[k] < f x) (hno:f x ∉ l.map f) :
  l.take k++x :: l.drop k=insR (fun y=>decide (f x < f y)) x l/\Rises f (insR (fun y=>decide (f x < f y)) x l):=by
 have hB:∀ y ∈ l.drop k,f x < f y:=fun y hy=>by
  obtain ⟨i,hi,rfl⟩:=List.getElem_of_mem hy
  rw [List.length_drop] at hi
  rw [List.getElem_drop]
  have hkl:k < l.length:=by omega
  have h1:f x < f l[k]:=text_gt (hhi hkl) fun e=>hno (List.mem_map.2 ⟨_,List.getElem_mem hkl,e⟩)
  rcases Nat.eq_zero_or_pos i with rfl | h0
  ·exact h1
  ·exact text_trans h1 (h.get (by omega) (by omega))
 have hA:∀ y ∈ l.take k,f y < f x:=fun y hy=>by
  obtain ⟨i,hi,rfl⟩:=List.getElem_of_mem hy
  rw [List.length_take] at hi
  rw [List.getElem_take]
  exact hlo i (by omega) (by omega)
 have e:l.take k++x :: l.drop k=insR (fun y=>decide (f x < f y)) x l:=by
  have h1:=insR_scan (p:=fun y=>decide (f x < f y)) (x:=x) (A:=l.take k) (B:=l.drop k) (fun y hy=>decide_eq_true (hB y hy)) (by
   rcases List.eq_nil_or_concat (l.take k) with h2 | ⟨C,z,h2⟩
   ·exact .inl h2
   ·refine .inr ⟨C,z,by simpa using h2,decide_eq_false fun h3=>?_⟩
    have:=hA z (by rw [h2];simp)
    exact absurd (text_trans h3 this) (by simp))
  rw [List.take_append_drop] at h1
  exact h1.symm
 refine ⟨e,?_⟩
 rw [<- e]
 unfold Rises at *
 rw [List.pairwise_append,List.pairwise_cons]
 have h2:=h
 rw [<- List.take_append_drop k l,List.pairwise_append] at h2
 refine ⟨h2.1,⟨hB,h2.2.1⟩,fun a ha b hb=>?_⟩
 rcases List.mem_cons.1 hb with rfl | hb
 ·exact hA a ha
 ·exact h2.2.2 a ha b hb
theorem insR_rises {α:Type} {f:α->List UInt8} {l:List α} (h:Rises f l) {x:α} (hno:f x ∉ l.map f):Rises f (insR (fun y=>decide (f x < f y)) x l):=by
 have:∃ k,k<=l.length/\(∀ i (hi:i < l.length),i < k->f l[i] < f x)/\∀ hk:k < l.length,¬ f l[k] < f x:=by
  have aux:∀ n,n<=l.length->(∀ i (hi:i < l.length),i < n->f l[i] < f x)\/∃ k,k<=l.length/\(∀ i (hi:i < l.length),i < k->f l[i] < f x)/\∀ hk:k < l.length,¬ f l[k] < f x:=by
   intro n
   induction n with
   | zero=>exact fun _=>.inl fun i hi h0=>absurd h0 (by omega)
   | succ n ih =>
    intro hn
    rcases ih (by omega) with h1 | h1
    ·by_cases h2:f (l[n]'(by omega)) < f x
     ·exact .inl fun i hi h3=>by
       rcases Nat.lt_or_ge i n with h4 | h4
       ·exact h1 i hi h4
       ·obtain rfl:i=n:=by omega
        exact h2
     ·exact .inr ⟨n,by omega,h1,fun _=>h2⟩
    ·exact .inr h1
  rcases aux l.length (Nat.le_refl _) with h1 | h1
  ·exact ⟨l.length,Nat.le_refl _,h1,fun hk=>absurd hk (by omega)⟩
  ·exact h1
 obtain ⟨k,h1,h2,h3⟩:=this
 exact (put_ins h h1 h2 h3 hno).2
theorem lines_split:∀ (ls:List (List UInt8)),(∀ x ∈ ls,∀ d ∈ x,d ≠ 10)->splitC 10 (ls.flatMap (fun x=>x++[10]))=ls++[[]]
 | [],_=>rfl
 | x :: ls,h=>by
  rw [List.flatMap_cons,List.append_assoc]
  show splitC 10 (x++10 :: ls.flatMap (fun x=>x++[10]))=_
  rw [splitC_hit _ (h x (by simp)),lines_split ls (fun y hy=>h y (by simp [hy]))]
  rfl
theorem lines_of (ls:List (List UInt8)) (h:∀ x ∈ ls,∀ d ∈ x,d ≠ 10):linesL (ls.flatMap (fun x=>x++[10]))=ls:=by
 unfold linesL
 rw [lines_split ls h,if_pos (by simp),List.dropLast_concat]
def wordB (c:UInt8):Bool:=decide (33<=c.toNat)
theorem word_ne {l:List UInt8} (h:l.all wordB=true) {d:UInt8} (hd:d ∈ l):d ≠ 32/\d ≠ 10:=by
 have:=List.all_eq_true.1 h d hd
 unfold wordB at this
 have h2:33<=d.toNat:=by simpa using this
 constructor <;> (rintro rfl;exact absurd h2 (by decide))
theorem all_mono {p q:UInt8->Bool} {l:List UInt8} (h:l.all p=true) (hpq:∀ c,p c=true->q c=true):l.all q=true :=
 List.all_eq_true.2 fun x hx=>hpq x (List.all_eq_true.1 h x hx)
theorem dig_word (c:UInt8) (h:dig c=true):wordB c=true:=by
 have:=dig_bounds h
 unfold wordB
 simp
 omega
theorem nameC_word (c:UInt8) (h:nameC c=true):wordB c=true:=by
 unfold nameC smallB dig at h
 unfold wordB
 simp at h ⊢
 omega
theorem name_word {l:List UInt8} (h:nameB l=true):l.all wordB=true:=by
 unfold nameB at h
 simp only [Bool.and_eq_true] at h
 exact all_mono h.2 nameC_word
theorem digit_word:∀ n:Fin 16,wordB (digit n.1)=true:=by decide +kernel
theorem hex_word:∀ S:List UInt8,(hexL S).all wordB=true
 | []=>rfl
 | c :: S=>by
  have hc:=UInt8.toNat_lt c
  have e1:hexL (c :: S)=digit (c.toNat / 16) :: digit (c.toNat % 16) :: hexL S:=rfl
  have h1:=digit_word ⟨c.toNat / 16,by omega⟩
  have h2:=digit_word ⟨c.toNat % 16,by omega⟩
  dsimp only at h1 h2
  rw [e1,List.all_cons,List.all_cons,h1,h2,hex_word S]
  rfl
structure GoodN (n:Nd):Prop where
 name:nameB n.name=true
 span:spanL n.text=some n.span
 text:∀ d ∈ n.text,d ≠ 10
structure GoodR (r:Rw):Prop where
 name:nameB r.name=true
 ver:verOf (verT r.v)=some r.v
 word:(verT r.v).all wordB=true
 sum:r.sum.length=32
 size:0<=r.size/\r.size<=262144
 needs:∀ n ∈ r.needs,GoodN n/\n.name ≠ r.name
 rises:Rises Nd.name r.needs
 most:r.needs.length<=20
def packW (r:Rw):List UInt8:=packT++32 :: (r.name++32 :: (verT r.v++32 :: (hexL r.sum++32 :: decT r.size.toNat)))
def needW (n:Nd):List UInt8:=needT++32 :: (n.name++32 :: n.text)
def rowLs (r:Rw):List (List UInt8):=packW r :: r.needs.map needW
theorem sortR_rises {l:List Nd} (h:Rises Nd.name l):sortR ltNd l=l:=by
 have:∀ k,k<=l.length->sortR ltNd (l.take k)=l.take k:=by
  intro k
  induction k with
  | zero=>intro _;rw [List.take_zero];rfl
  | succ k ih =>
   intro hk
   rw [sortR_take ltNd l (by omega),ih (by omega),List.take_succ_eq_append_getElem (by omega)]
   have:=insR_scan (p:=ltNd l[k]) (x:=l[k]) (A:=l.take k) (B:=[]) (fun _ h=>by cases h) (by
    rcases List.eq_nil_or_concat (l.take k) with h2 | ⟨C,z,h2⟩
    ·exact .inl h2
    ·refine .inr ⟨C,z,by simpa using h2,decide_eq_false fun h3=>?_⟩
     have hz:z ∈ l.take k:=by rw [h2];simp
     obtain ⟨i,hi,rfl⟩:=List.getElem_of_mem hz
     rw [List.length_take] at hi
     rw [List.getElem_take] at h3
     exact absurd (text_trans h3 (h.get (i:=i) (j:=k) (by omega) (by omega))) (by simp))
   rw [List.append_nil] at this
   exact this
 have h2:=this l.length (Nat.le_refl _)
 rw [List.take_length] at h2
 exact h2
theorem rowT_lines (r:Rw) (h:Rises Nd.name r.needs):rowT r=(rowLs r).flatMap (fun x=>x++[10]):=by
 unfold rowT rowLs
 rw [sortR_rises h,List.flatMap_cons,List.flatMap_map]
 congr 1
 ·unfold packT' packW
  simp
 ·congr 1
  funext n
  unfold needT' needW
  simp
theorem indexT_lines:∀ (l:List Rw),(∀ r ∈ l,Rises Nd.name r.needs)->indexT l=(l.flatMap rowLs).flatMap (fun x=>x++[10])
 | [],_=>rfl
 | r :: l,h=>by
  have ih:=indexT_lines l (fun x hx=>h x (by simp [hx]))
  unfold indexT at *
  rw [List.flatMap_cons,ih,rowT_lines r (h r (by simp)),List.flatMap_cons,List.flatMap_append]
theorem packW_no {r:Rw} (h:GoodR r):∀ d ∈ packW r,d ≠ 10:=by
 have h1:=(decT_all r.size.toNat).1
 intro d hd
 unfold packW at hd
 simp only [List.mem_append,List.mem_cons] at hd
 rcases hd with hd | rfl | hd | rfl | hd | rfl | hd | rfl | hd
 ·exact (show ∀ d ∈ packT,d ≠ 10 by decide) d hd
 ·decide
 ·exact (word_ne (name_word h.name) hd).2
 ·decide
 ·exact (word_ne h.word hd).2
 ·decide
 ·exact (word_ne (hex_word _) hd).2
 ·decide
 ·exact (word_ne (all_mono h1 dig_word) hd).2
theorem needW_no {n:Nd} (h:GoodN n):∀ d ∈ needW n,d ≠ 10:=by
 intro d hd
 unfold needW at hd
 simp only [List.mem_append,List.mem_cons] at hd
 rcases hd with hd | rfl | hd | rfl | hd
 ·exact (show ∀ d ∈ needT,d ≠ 10 by decide) d hd
 ·decide
 ·exact (word_ne (name_word h.name) hd).2
 ·decide
 ·exact h.text d hd
theorem rowLs_no {r:Rw} (h:GoodR r):∀ x ∈ rowLs r,∀ d ∈ x,d ≠ 10:=by
 intro x hx
 rcases List.mem_cons.1 hx with rfl | hx
 ·exact packW_no h
 ·obtain ⟨n,hn,rfl⟩:=List.mem_map.1 hx
  exact needW_no (h.needs n hn).1
theorem pack_line {st:List Rw} {r:Rw} (h:GoodR r) (hst:st.length < 200) (hat:atL st r.name r.v=none):lineL st (packW r)=some (st++[⟨r.name,r.v,r.sum,r.size,[]⟩]):=by
 have h1:=(decT_all r.size.toNat).1
 unfold lineL
 have e1:(packW r).take 5=packT++[32]:=by simp [packW,packT]
 have e2:(packW r).drop 5=r.name++32 :: (verT r.v++32 :: (hexL r.sum++32 :: decT r.size.toNat)):=by simp [packW,packT]
 rw [if_pos e1,e2]
 unfold packL
 rw [splitC_hit _ (fun d hd=>(word_ne (name_word h.name) hd).1),splitC_hit _ (fun d hd=>(word_ne h.word hd).1),splitC_hit _ (fun d hd=>(word_ne (hex_word _) hd).1),splitC_none (fun d hd=>(word_ne (all_mono h1 dig_word) hd).1)]
 have e3:rowL r.name (verT r.v) (hexL r.sum) (decT r.size.toNat)=some ⟨r.name,r.v,r.sum,r.size,[]⟩:=by
  unfold rowL
  have:=h.size
  rw [if_pos h.name,h.ver,sum_hex h.sum,decT_size (by omega)]
  simp
  omega
 simp only [e3,Option.bind_some]
 rw [if_neg]
 rw [hat]
 rintro (h2 | h2)
 ·cases h2
 ·omega
theorem need_line {st:List Rw} {r:Rw} {n:Nd} {ns:List Nd} (h:GoodN n) (hn:n.name ≠ r.name) (hl:ns.length < 20) (hr:Rises Nd.name (ns++[n])) :
  lineL (st++[⟨r.name,r.v,r.sum,r.size,ns⟩]) (needW n)=some (st++[⟨r.name,r.v,r.sum,r.size,ns++[n]⟩]):=by
 unfold lineL
 have e0:(needW n).take 5=needT++[32]:=by simp [needW,needT]
 have e1:¬ (needW n).take 5=packT++[32]:=by rw [e0];decide
 have e2:(needW n).drop 5=n.name++32 :: n.text:=by simp [needW,needT]
 rw [if_neg e1,if_pos e0,e2]
 have hns:∀ d ∈ n.name,d ≠ 32:=fun d hd=>(word_ne (name_word h.name) hd).1
 have e3:needL (n.name++32 :: n.text)=some n:=by
  unfold needL
  rw [headC_hit _ hns,tailC_hit _ hns,if_pos ⟨by simp,h.name⟩,h.span]
  rfl
 unfold Rises at hr
 rw [List.pairwise_append] at hr
 have e4:insR (ltNd n) n ns=ns++[n]:=by
  have:=insR_scan (p:=ltNd n) (x:=n) (A:=ns) (B:=[]) (fun _ h=>by cases h) (by
   rcases List.eq_nil_or_concat ns with h2 | ⟨C,z,h2⟩
   ·exact .inl h2
   ·refine .inr ⟨C,z,by simpa using h2,decide_eq_false fun h3=>?_⟩
    have:=hr.2.2 z (by rw [h2];simp) n (by simp)
    exact absurd (text_trans h3 this) (by simp))
  rw [List.append_nil] at this
  exact this
 unfold wantL
 rw [List.getLast?_concat]
 simp only [e3,Option.bind_some]
 rw [if_neg,List.dropLast_concat,e4]
 rintro (h2 | h2 | h2)
 ·exact hn h2
 ·obtain ⟨m,hm,h3⟩:=List.mem_map.1 h2
  have:=hr.2.2 m hm n (by simp)
  rw [h3] at this
  exact absurd this (by simp)
 ·omega
theorem needs_go {st:List Rw} {r:Rw} (rest:List (List UInt8)):∀ (ns ms:List Nd) (i:Nat),(∀ n ∈ ms,GoodN n/\n.name ≠ r.name)->Rises Nd.name (ns++ms)->(ns++ms).length<=20 →
  goL (st++[⟨r.name,r.v,r.sum,r.size,ns⟩]) i (ms.map needW++rest)=goL (st++[⟨r.name,r.v,r.sum,r.size,ns++ms⟩]) (i+ms.length) rest
 | ns,[],i,_,_,_=>by simp
 | ns,m :: ms,i,h,hr,hl=>by
  have e:ns++m :: ms=(ns++[m])++ms:=by simp
  rw [e] at hr hl ⊢
  have hr2:=hr
  unfold Rises at hr2
  rw [List.pairwise_append] at hr2
  show goL _ i (needW m :: (ms.map needW++rest))=_
  rw [goL,if_neg (by show ¬ (silentB (needW m)=true);rw [show silentB (needW m)=false from rfl];simp)]
  rw [need_line (h m (by simp)).1 (h m (by simp)).2 (by simp at hl;omega) hr2.1]
  show goL _ (i+1) _=_
  rw [needs_go rest (ns++[m]) ms (i+1) (fun n hn=>h n (by simp [hn])) hr hl]
  rw [show i+1+ms.length=i+(m :: ms).length by simp;omega]
theorem row_go {st:List Rw} {r:Rw} (h:GoodR r) (hst:st.length < 200) (hat:atL st r.name r.v=none) (i:Nat) (rest:List (List UInt8)) :
  goL st i (rowLs r++rest)=goL (st++[r]) (i+(rowLs r).length) rest:=by
 show goL st i (packW r :: (r.needs.map needW++rest))=_
 rw [goL,if_neg (by show ¬ (silentB (packW r)=true);rw [show silentB (packW r)=false from rfl];simp),pack_line h hst hat]
 show goL _ (i+1) _=_
 have:=needs_go (st:=st) (r:=r) rest [] r.needs (i+1) h.needs (by simpa using h.rises) (by simpa using h.most)
 rw [this]
 rw [show i+1+r.needs.length=i+(rowLs r).length by simp [rowLs];omega]
 rfl
def Fresh:List Rw->List Rw->Prop
 | _,[]=>True
 | st,r :: l=>atL st r.name r.v=none/\Fresh (st++[r]) l
theorem rows_go (rest:List (List UInt8)):∀ (l st:List Rw) (i:Nat),(∀ r ∈ l,GoodR r)->Fresh st l->(st++l).length<=200 →
  goL st i (l.flatMap rowLs++rest)=goL (st++l) (i+(l.flatMap rowLs).length) rest
 | [],st,i,_,_,_=>by simp
 | r :: l,st,i,h,hf,hl=>by
  rw [List.flatMap_cons,List.append_assoc,row_go (h r (by simp)) (by simp at hl;omega) hf.1,rows_go rest l (st++[r]) _ (fun x hx=>h x (by simp [hx])) hf.2 (by simpa using hl)]
  rw [List.append_assoc,List.length_append,Nat.add_assoc]
  rfl
theorem rowLs_all {l:List Rw} (h:∀ r ∈ l,GoodR r):∀ x ∈ l.flatMap rowLs,∀ d ∈ x,d ≠ 10:=by
 intro x hx
 obtain ⟨r,hr,hx⟩:=List.mem_flatMap.1 hx
 exact rowLs_no (h r hr) x hx
theorem index_told {l:List Rw} (h:∀ r ∈ l,GoodR r) (hf:Fresh [] l) (hl:l.length<=200) (hs:(indexT l).length<=65536):indexL (indexT l)=.inl l:=by
 unfold indexL
 rw [if_neg (by omega),indexT_lines l (fun r hr=>(h r hr).rises),lines_of _ (rowLs_all h)]
 have:=rows_go [] l [] 0 h hf (by simpa using hl)
 rw [List.append_nil] at this
 rw [this]
 rfl
structure SRow where
 n:Nat
 v:Nat
 needs:List Nat
 kind:Nat
 lie:Nat
def nameK (k:Nat):List UInt8:=[UInt8.ofNat (97+k % 6)]
def verTexts:List (List UInt8):=[[49,46,48,46,48],[49,46,49,46,48],[50,46,48,46,48],[48,46,51,46,48],[49,46,48,46,48,45,120,46,49],[49,46,50,46,51]]
def verTK (k:Nat):List UInt8:=verTexts.getD (k % 6) []
def vers:List Ver:=[⟨1,0,0,[]⟩,⟨1,1,0,[]⟩,⟨2,0,0,[]⟩,⟨0,3,0,[]⟩,⟨1,0,0,[[120],[49]]⟩,⟨1,2,3,[]⟩]
def verK (k:Nat):Ver:=vers.getD (k % 6) ⟨0,0,0,[]⟩
def spanTexts:List (List UInt8):=[[42],[94,49,46,48,46,48],[126,49,46,48,46,48],[62,61,49,46,49,46,48],[50,46,48,46,48],[60,50,46,48,46,48],[94,48,46,51,46,48],
 [62,61,49,46,48,46,48,45,97,32,60,49,46,48,46,48,32,124,124,32,50,46,48,46,48],[49,46,48,46,48,45,120,46,49],[42]]
def spanTK (k:Nat):List UInt8:=spanTexts.getD (k % 10) []
def spanK (k:Nat):Spn:=(spanL (spanTK k)).getD ⟨true,[]⟩
theorem ver_all:∀ k:Fin 6,verOf (verTK k.1)=some (verK k.1):=by decide +kernel
theorem span_all:∀ k:Fin 10,(spanL (spanTK k.1)).isSome=true/\∀ d ∈ spanTK k.1,d ≠ 10:=by decide +kernel
theorem name_all:∀ k:Fin 6,nameB (nameK k.1)=true:=by decide +kernel
theorem nameK_good (k:Nat):nameB (nameK k)=true:=by
 have:=name_all ⟨k % 6,Nat.mod_lt _ (by omega)⟩
 unfold nameK at *
 dsimp only at this
 rw [Nat.mod_mod] at this
 exact this
theorem verK_good (k:Nat):verOf (verTK k)=some (verK k):=by
 have:=ver_all ⟨k % 6,Nat.mod_lt _ (by omega)⟩
 unfold verTK verK at *
 dsimp only at this
 rw [Nat.mod_mod] at this
 exact this
theorem spanK_good (k:Nat):spanL (spanTK k)=some (spanK k)/\∀ d ∈ spanTK k,d ≠ 10:=by
 have:=span_all ⟨k % 10,Nat.mod_lt _ (by omega)⟩
 have e:spanTK (k % 10)=spanTK k:=by unfold spanTK;rw [Nat.mod_mod]
 dsimp only at this
 rw [e] at this
 refine ⟨?_,this.2⟩
 obtain ⟨s,hs⟩:=Option.isSome_iff_exists.1 this.1
 unfold spanK
 rw [hs]
 rfl
theorem verT_K (k:Nat):verT (verK k)=verTK k:=by
 have h:k % 6 < 6:=Nat.mod_lt _ (by omega)
 have e1:verK k=vers.getD (k % 6) ⟨0,0,0,[]⟩:=rfl
 have e2:verTK k=verTexts.getD (k % 6) []:=rfl
 rw [e1,e2]
 match k % 6,h with
 | 0,_=>simp [vers,verTexts,verT,decT_small]
 | 1,_=>simp [vers,verTexts,verT,decT_small]
 | 2,_=>simp [vers,verTexts,verT,decT_small]
 | 3,_=>simp [vers,verTexts,verT,decT_small]
 | 4,_=>simp [vers,verTexts,verT,decT_small,joinC]
 | 5,_=>simp [vers,verTexts,verT,decT_small]
theorem verTK_word (k:Nat):(verTK k).all wordB=true:=by
 have h:∀ k:Fin 6,(verTK k.1).all wordB=true:=by decide +kernel
 have:=h ⟨k % 6,Nat.mod_lt _ (by omega)⟩
 unfold verTK at *
 dsimp only at this
 rw [Nat.mod_mod] at this
 exact this
def ndK (x:Nat):Nd:=⟨nameK (x % 6),spanK (x / 6 % 10),spanTK (x / 6 % 10)⟩
def ndsK (name:List UInt8) (l:List Nat):List Nd:=l.foldl (fun a x=>if (ndK x).name=name\/(ndK x).name ∈ a.map Nd.name then a else insR (ltNd (ndK x)) (ndK x) a) []
theorem ndsK_good (name:List UInt8):∀ (l:List Nat) (a:List Nd),Rises Nd.name a->(∀ n ∈ a,GoodN n/\n.name ≠ name) →
  let r:=l.foldl (fun a x=>if (ndK x).name=name\/(ndK x).name ∈ a.map Nd.name then a else insR (ltNd (ndK x)) (ndK x) a) a
  Rises Nd.name r/\(∀ n ∈ r,GoodN n/\n.name ≠ name)/\r.length<=a.length+l.length:=by
 intro l
 induction l with
 | nil=>exact fun a h1 h2=>⟨h1,h2,Nat.le_refl _⟩
 | cons x l ih =>
  intro a h1 h2
  dsimp only
  rw [List.foldl_cons]
  by_cases h:(ndK x).name=name\/(ndK x).name ∈ a.map Nd.name
  ·rw [if_pos h]
   obtain ⟨a1,a2,a3⟩:=ih a h1 h2
   exact ⟨a1,a2,by rw [List.length_cons];omega⟩
  ·rw [if_neg h]
   have hr:=insR_rises (f:=Nd.name) h1 (x:=ndK x) (fun h3=>h (.inr h3))
   obtain ⟨a1,a2,a3⟩:=ih (insR (ltNd (ndK x)) (ndK x) a) hr (fun n hn=>by
    rcases (insR_mem _ _ _ _).1 hn with rfl | hn
    ·exact ⟨⟨nameK_good _,(spanK_good _).1,(spanK_good _).2⟩,fun h3=>h (.inl h3)⟩
    ·exact h2 n hn)
   refine ⟨a1,a2,?_⟩
   rw [insR_length] at a3
   rw [List.length_cons]
   omega
def madeL (sm:SRow->List UInt8) (sz:SRow->Int):List Rw->List SRow->List Rw
 | st,[]=>st
 | st,r :: l=>madeL sm sz (if (atL st (nameK r.n) (verK r.v)).isSome then st else st++[⟨nameK r.n,verK r.v,sm r,sz r,ndsK (nameK r.n) r.needs⟩]) l
theorem Fresh.snoc:∀ {l st:List Rw} {r:Rw},Fresh st l->atL (st++l) r.name r.v=none->Fresh st (l++[r])
 | [],st,r,_,h=>⟨by simpa using h,trivial⟩
 | x :: l,st,r,h,h2=>⟨h.1,Fresh.snoc h.2 (by simpa using h2)⟩
theorem made_good (sm:SRow->List UInt8) (sz:SRow->Int):∀ (l:List SRow) (st:List Rw),(∀ r ∈ l,(sm r).length=32/\0<=sz r/\sz r<=262144/\r.needs.length<=20)->(∀ r ∈ st,GoodR r)->Fresh [] st →
  (∀ r ∈ madeL sm sz st l,GoodR r)/\Fresh [] (madeL sm sz st l)/\(madeL sm sz st l).length<=st.length+l.length
 | [],st,_,h2,h3=>⟨h2,h3,Nat.le_refl _⟩
 | r :: l,st,h1,h2,h3=>by
  rw [madeL]
  by_cases h:(atL st (nameK r.n) (verK r.v)).isSome=true
  ·rw [if_pos h]
   obtain ⟨a,b,c⟩:=made_good sm sz l st (fun x hx=>h1 x (by simp [hx])) h2 h3
   exact ⟨a,b,by rw [List.length_cons];omega⟩
  ·rw [if_neg h]
   obtain ⟨k1,k2,k3,k4⟩:=h1 r (by simp)
   have hn:atL st (nameK r.n) (verK r.v)=none:=by simpa using h
   obtain ⟨n1,n2,n3⟩:=ndsK_good (nameK r.n) r.needs [] List.Pairwise.nil (fun _ h=>by cases h)
   obtain ⟨a,b,c⟩:=made_good sm sz l (st++[⟨nameK r.n,verK r.v,sm r,sz r,ndsK (nameK r.n) r.needs⟩]) (fun x hx=>h1 x (by simp [hx])) (fun x hx=>by
    rcases List.mem_append.1 hx with hx | hx
    ·exact h2 x hx
    ·obtain rfl:x=_:=by simpa using hx
     exact ⟨nameK_good _,by rw [verT_K,verK_good],by rw [verT_K];exact verTK_word _,k1,⟨k2,k3⟩,n2,n1,by
      have:(ndsK (nameK r.n) r.needs).length<=0+r.needs.length:=n3
      show (ndsK (nameK r.n) r.needs).length<=20
      omega⟩) (h3.snoc (by rw [List.nil_append];exact hn))
   refine ⟨a,b,?_⟩
   rw [List.length_append] at c
   rw [List.length_cons]
   simp at c
   omega
structure Fl where
 path:List UInt8
 dir:Bool
 b:List UInt8
deriving DecidableEq
def libT:List UInt8:=[108,105,98]
def buildT:List UInt8:=[98,117,105,108,100,46,104,115]
def bigT:List UInt8:=[98,105,103]
def scriptK (k:Nat):List UInt8 :=
 if k=1 then [119,114,105,116,101,32,111,117,116,32,34,98,117,105,108,116,32,36,110,97,109,101,32,36,118,101,114,115,105,111,110,34,10]
 else if k=2 then [109,107,100,105,114,32,98,105,110,10,114,101,112,101,97,116,32,51,10,97,112,112,101,110,100,32,98,105,110,47,114,117,110,32,34,36,110,97,109,101,34,10,101,110,100,10,114,101,109,111,118,101,32,108,105,98,10]
 else if k=3 then [105,102,32,101,120,105,115,116,115,32,108,105,98,10,114,101,110,97,109,101,32,108,105,98,32,115,114,99,10,101,108,115,101,10,102,97,105,108,32,34,110,111,34,10,101,110,100,10]
 else if k=4 then [102,97,105,108,32,34,110,101,118,101,114,34,10]
 else if k=5 then [119,114,105,116,101,32,46,46,47,111,117,116,32,34,120,34,10]
 else if k=6 then [99,111,112,121,32,108,105,98,10]
 else if k=7 then [114,101,112,101,97,116,32,49,48,48,48,10,114,101,112,101,97,116,32,49,48,48,48,10,101,110,100,10,101,110,100,10]
 else []
def bigB:List UInt8:=(List.range 200).map UInt8.ofNat
def filesK (r:SRow):List Fl :=
 [⟨libT,true,[]⟩,⟨libT++47 :: nameK r.n,false,nameK r.n++32 :: verTK r.v⟩]++(if r.kind % 10=8 then [⟨bigT,false,bigB⟩] else [])++(if scriptK (r.kind % 10)=[] then [] else [⟨buildT,false,scriptK (r.kind % 10)⟩])
def numB8 (n:Nat):Nat->List UInt8
 | 0=>[]
 | k+1=>UInt8.ofNat (n / 256 ^ k) :: numB8 n k
theorem numB8_length (n:Nat):∀ k,(numB8 n k).length=k
 | 0=>rfl
 | k+1=>by rw [numB8,List.length_cons,numB8_length n k]
def packF (f:Fl):List UInt8:=(if f.dir then 1 else 0) :: (numB8 (f.path.take 65535).length 2++(f.path.take 65535++(if f.dir then [] else numB8 f.b.length 8++f.b)))
def pakT:List UInt8:=[80,65,75,49]
def packA (l:List Fl):List UInt8:=pakT++(l.flatMap packF++[255])
def archK (r:SRow):List UInt8:=packA (filesK r)++(if r.kind % 10=9 then [7] else [])
def smK (r:SRow):List UInt8:=if r.lie % 12=1 then (sumF (archK r)).set 3 ((sumF (archK r)).getD 3 0 ^^^ 4) else if r.lie % 12=4 then sumF [] else sumF (archK r)
def szK (r:SRow):Int:=if r.lie % 12=2 then (archK r).length+9 else if r.lie % 12=3 then (if (archK r).length < 9 then 0 else (archK r).length - 9) else if r.lie % 12=4 then 0 else (archK r).length
def rowK (r:SRow):Rw:=⟨nameK r.n,verK r.v,smK r,szK r,ndsK (nameK r.n) r.needs⟩
def keptK:List SRow->List SRow->List SRow
 | st,[]=>st
 | st,r :: l=>keptK (if (atL (st.map rowK) (nameK r.n) (verK r.v)).isSome then st else st++[r]) l
theorem kept_made:∀ (l st:List SRow),madeL smK szK (st.map rowK) l=(keptK st l).map rowK
 | [],st=>rfl
 | r :: l,st=>by
  rw [madeL,keptK]
  by_cases h:(atL (st.map rowK) (nameK r.n) (verK r.v)).isSome=true
  ·rw [if_pos h,if_pos h]
   exact kept_made l st
  ·rw [if_neg h,if_neg h,<- kept_made l (st++[r]),List.map_append]
   rfl
theorem kept_snoc (l st:List SRow) (r:SRow):keptK st (l++[r])=if (atL ((keptK st l).map rowK) (nameK r.n) (verK r.v)).isSome then keptK st l else keptK st l++[r]:=by
 induction l generalizing st with
 | nil=>rfl
 | cons x l ih=>exact ih _
theorem kept_length:∀ (l st:List SRow),(keptK st l).length<=st.length+l.length
 | [],st=>Nat.le_refl _
 | r :: l,st=>by
  rw [keptK]
  rw [List.length_cons]
  by_cases h:(atL (st.map rowK) (nameK r.n) (verK r.v)).isSome=true
  ·rw [if_pos h]
   have:=kept_length l st
   omega
  ·rw [if_neg h]
   have:=kept_length l (st++[r])
   rw [List.length_append,List.length_singleton] at this
   omega
theorem kept_mem:∀ (l st:List SRow) (x:SRow),x ∈ keptK st l->x ∈ st\/x ∈ l
 | [],st,x,h=>.inl h
 | r :: l,st,x,h=>by
  rw [keptK] at h
  rcases kept_mem l _ x h with h | h
  ·split at h
   ·exact .inl h
   ·rcases List.mem_append.1 h with h | h
    ·exact .inl h
    ·exact .inr (by simp at h;simp [h])
  ·exact .inr (by simp [h])
theorem scriptK_le (k:Nat):(scriptK k).length<=100:=by
 unfold scriptK
 repeat' split
 all_goals decide
theorem verTK_le (k:Nat):(verTK k).length<=9:=by
 have h:∀ k:Fin 6,(verTK k.1).length<=9:=by decide +kernel
 have:=h ⟨k % 6,Nat.mod_lt _ (by omega)⟩
 unfold verTK at *
 dsimp only at this
 rw [Nat.mod_mod] at this
 exact this
theorem packF_le (f:Fl) (hp:f.path.length<=20) (hb:f.b.length<=300):(packF f).length<=340:=by
 unfold packF
 rw [List.length_cons,List.length_append,numB8_length,List.length_append,List.length_take]
 split
 ·simp;omega
 ·rw [List.length_append,numB8_length];omega
theorem bigB_length:bigB.length=200:=by unfold bigB;rw [List.length_map,List.length_range]
theorem archK_le (r:SRow):(archK r).length<=2000:=by
 have h1:=scriptK_le (r.kind % 10)
 have h2:=verTK_le r.v
 have hb:=bigB_length
 have hf:∀ f ∈ filesK r,(packF f).length<=340:=fun f hf=>by
  unfold filesK at hf
  rw [List.mem_append,List.mem_append] at hf
  rcases hf with (hf | hf) | hf
  ·simp only [List.mem_cons,List.not_mem_nil,or_false] at hf
   rcases hf with rfl | rfl
   ·exact packF_le _ (by decide) (by simp)
   ·exact packF_le _ (by simp [libT,nameK]) (by simp [nameK];omega)
  ·split at hf
   ·obtain rfl:=List.mem_singleton.1 hf
    exact packF_le _ (by decide) (by show bigB.length<=300;omega)
   ·cases hf
  ·split at hf
   ·cases hf
   ·obtain rfl:=List.mem_singleton.1 hf
    exact packF_le _ (by show buildT.length<=20;decide) (by show (scriptK (r.kind % 10)).length<=300;omega)
 have hn:(filesK r).length<=4:=by
  unfold filesK
  rw [List.length_append,List.length_append]
  have a1:(if r.kind % 10=8 then [(⟨bigT,false,bigB⟩:Fl)] else []).length<=1:=by split <;> simp
  have a2:(if scriptK (r.kind % 10)=[] then [] else [(⟨buildT,false,scriptK (r.kind % 10)⟩:Fl)]).length<=1:=by split <;> simp
  simp only [List.length_cons,List.length_nil]
  omega
 have hs:∀ l:List Fl,(∀ f ∈ l,(packF f).length<=340)->(l.flatMap packF).length<=340*l.length:=by
  intro l
  induction l with
  | nil=>intro _;simp
  | cons f l ih =>
   intro h
   rw [List.flatMap_cons,List.length_append,List.length_cons]
   have:=ih (fun g hg=>h g (by simp [hg]))
   have:=h f (by simp)
   omega
 have:=hs _ hf
 have hz:(if r.kind % 10=9 then [(7:UInt8)] else []).length<=1:=by split <;> simp
 unfold archK packA
 rw [List.length_append,List.length_append,List.length_append]
 have e1:pakT.length=4:=rfl
 have e2:([255]:List UInt8).length=1:=rfl
 omega
theorem rowK_facts (r:SRow) (hn:r.needs.length<=20):(smK r).length=32/\0<=szK r/\szK r<=262144/\r.needs.length<=20:=by
 have h:=archK_le r
 refine ⟨?_,?_,?_,hn⟩
 ·unfold smK
  split
  ·rw [List.length_set,sumF_length]
  ·split <;> rw [sumF_length]
 ·unfold szK
  repeat' split
  all_goals omega
 ·unfold szK
  repeat' split
  all_goals omega
theorem ndsK_mem (name:List UInt8):∀ (l:List Nat) (a:List Nd) (n:Nd),n ∈ l.foldl (fun a x=>if (ndK x).name=name\/(ndK x).name ∈ a.map Nd.name then a else insR (ltNd (ndK x)) (ndK x) a) a->n ∈ a\/∃ x,n=ndK x
 | [],_,_,h=>.inl h
 | x :: l,a,n,h=>by
  rw [List.foldl_cons] at h
  rcases ndsK_mem name l _ n h with h | h
  ·split at h
   ·exact .inl h
   ·rcases (insR_mem _ _ _ _).1 h with h | h
    ·exact .inr ⟨x,h⟩
    ·exact .inl h
  ·exact .inr h
theorem spanTK_le25 (k:Nat):(spanTK k).length<=25:=by
 have h:∀ k:Fin 10,(spanTK k.1).length<=25:=by decide +kernel
 have:=h ⟨k % 10,Nat.mod_lt _ (by omega)⟩
 unfold spanTK at *
 dsimp only at this
 rw [Nat.mod_mod] at this
 exact this
theorem flat_le {α:Type} {f:α->List UInt8} {c:Nat}:∀ (l:List α),(∀ x ∈ l,(f x).length<=c)->(l.flatMap f).length<=c*l.length
 | [],_=>by simp
 | x :: l,h=>by
  rw [List.flatMap_cons,List.length_append,List.length_cons]
  have:=flat_le l (fun y hy=>h y (by simp [hy]))
  have:=h x (by simp)
  rw [Nat.mul_succ]
  omega
theorem dec_le6 {n:Nat} (h:n<=262144):(decT n).length<=6:=by
 obtain ⟨a,b,c,d⟩:=decT_all n
 exact d 5 (by omega)
theorem rowK_text (r:SRow) (hn:r.needs.length<=4):(rowT (rowK r)).length<=400:=by
 obtain ⟨h1,h2,h3,-⟩:=rowK_facts r (by omega)
 obtain ⟨-,-,n3⟩:=ndsK_good (nameK r.n) r.needs [] List.Pairwise.nil (fun n hn=>by cases hn)
 have n3':(ndsK (nameK r.n) r.needs).length<=0+r.needs.length:=n3
 have hv:verT (verK r.v)=verTK r.v:=verT_K _
 have hvl:=verTK_le r.v
 have hd:(decT (szK r).toNat).length<=6:=dec_le6 (by omega)
 have hf:=flat_le (f:=needT') (c:=33) (sortR ltNd (ndsK (nameK r.n) r.needs)) (fun n hn=>by
  have hn2:n ∈ ndsK (nameK r.n) r.needs:=(sortR_mem _ _ _).1 hn
  rcases ndsK_mem (nameK r.n) r.needs [] n hn2 with h | ⟨x,rfl⟩
  ·cases h
  ·have:=spanTK_le25 (x / 6 % 10)
   show (needT++32 :: (nameK (x % 6)++32 :: (spanTK (x / 6 % 10)++[10]))).length<=33
   simp [nameK,needT]
   omega)
 rw [sortR_length] at hf
 have hp:(packT' (rowK r)).length<=100:=by
  show (packT++32 :: (nameK r.n++32 :: (verT (verK r.v)++32 :: (hexL (smK r)++32 :: (decT (szK r).toNat++[10]))))).length<=100
  rw [hv]
  have:=hexL_length (smK r)
  simp [nameK,packT]
  omega
 show (packT' (rowK r)++(sortR ltNd (ndsK (nameK r.n) r.needs)).flatMap needT').length<=400
 rw [List.length_append]
 omega
theorem kept_text (l:List SRow) (hl:l.length<=20) (h:∀ r ∈ l,r.needs.length<=4):(indexT ((keptK [] l).map rowK)).length<=8000:=by
 have h1:=kept_length l []
 rw [List.length_nil,Nat.zero_add] at h1
 have h2:=flat_le (f:=rowT) (c:=400) ((keptK [] l).map rowK) (fun x hx=>by
  obtain ⟨r,hr,rfl⟩:=List.mem_map.1 hx
  rcases kept_mem l [] r hr with h' | h'
  ·cases h'
  ·exact rowK_text r (h r h'))
 rw [List.length_map] at h2
 show (((keptK [] l).map rowK).flatMap rowT).length<=8000
 omega
end Go.Proofs.YtgiigemfbebcgaaGreatDoor
