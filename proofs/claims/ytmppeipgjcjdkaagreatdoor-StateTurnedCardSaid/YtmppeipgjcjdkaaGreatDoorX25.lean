/-
  Layers 0 to 14: helps of the laws of indexes. No statement is proved here; no condition.
-/
import Derived.Test.YtmppeipgjcjdkaaGreatDoorX00
import Derived.Test.YtmppeipgjcjdkaaGreatDoorX05
import Derived.Test.YtmppeipgjcjdkaaGreatDoorX01
import Derived.Lib.Index
namespace Go.Proofs.YtmppeipgjcjdkaaGreatDoor
open _root_.Go.Proofs.Tryz
def getN (l:List UInt8):Nat:=l.foldl (fun n x=>(n*256+x.toNat) % 18446744073709551616) 0
def be (m n:Nat):List UInt8:=(List.range m).map fun i=>UInt8.ofNat (n / 2 ^ (8*(m - 1 - i)))
theorem be_len (m n:Nat):(be m n).length=m:=by simp [be]
theorem be_part (m n:Nat) (hm:m<=8) (hn:n < 2 ^ (8*m)):∀ k,k<=m->((List.range k).map fun i=>UInt8.ofNat (n / 2 ^ (8*(m - 1 - i)))).foldl (fun n x=>(n*256+x.toNat) % 18446744073709551616) 0=n / 2 ^ (8*(m - k)):=by
 intro k
 induction k with
 | zero =>
  intro _
  rw [Nat.sub_zero,Nat.div_eq_of_lt hn];rfl
 | succ k ih =>
  intro hk
  rw [List.range_succ,List.map_append,List.foldl_append,ih (by omega)]
  simp only [List.map_cons,List.map_nil,List.foldl_cons,List.foldl_nil]
  have e:m - k=(m - 1 - k)+1:=by omega
  have e2:m - (k+1)=m - 1 - k:=by omega
  rw [e2,e]
  generalize hD:2 ^ (8*(m - 1 - k))=D
  have hD2:2 ^ (8*(m - 1 - k+1))=D*256:=by rw [<- hD,show 8*(m - 1 - k+1)=8*(m - 1 - k)+8 by omega,Nat.pow_add]
  rw [hD2,<- Nat.div_div_eq_div_mul]
  have h1:(UInt8.ofNat (n / D)).toNat=n / D % 256:=by simp
  rw [h1]
  have h2:n / D / 256*256+n / D % 256=n / D:=by omega
  rw [h2]
  have h3:n / D<=n:=Nat.div_le_self _ _
  have h4:(2:Nat) ^ (8*m)<=2 ^ 64:=Nat.pow_le_pow_right (by omega) (by omega)
  exact Nat.mod_eq_of_lt (by omega)
theorem getN_be (m n:Nat) (hm:m<=8) (hn:n < 2 ^ (8*m)):getN (be m n)=n:=by
 have:=be_part m n hm hn m (Nat.le_refl _)
 rw [Nat.sub_self] at this
 simpa [getN,be] using this
theorem getN_zeros (m:Nat):getN (List.replicate m 0)=0:=by
 unfold getN
 induction m with
 | zero=>rfl
 | succ m ih=>rw [List.replicate_succ,List.foldl_cons];exact ih
def sign:List UInt8:=[72,65,86,69,82,83,65,75]
def recB (r:List UInt8):List UInt8:=be 4 r.length++r
def bodyB (rs:List (List UInt8)):List UInt8:=rs.flatMap recB
def frameB (turn next:Nat) (rs:List (List UInt8)):List UInt8:=sign++(be 8 turn++(be 8 next++(be 8 (bodyB rs).length++bodyB rs)))
theorem frameB_len (turn next:Nat) (rs:List (List UInt8)):(frameB turn next rs).length=32+(bodyB rs).length:=by
 simp [frameB,be_len,sign];omega
def secs (size n:Nat):Nat:=n / size+min (n % size) 1
theorem secs_up {size n:Nat} (hs:0 < size):n<=secs size n*size:=by
 unfold secs
 have h:=Nat.div_add_mod n size
 have h2:=Nat.mod_lt n hs
 rcases Nat.eq_zero_or_pos (n % size) with e | e
 ·rw [e] at h ⊢;simp;rw [Nat.mul_comm];omega
 ·rw [show min (n % size) 1=1 by omega,Nat.add_mul,Nat.mul_comm];omega
theorem secs_pos {size n:Nat} (hn:0 < n):0 < secs size n:=by
 unfold secs
 rcases Nat.eq_zero_or_pos (n % size) with e | e
 ·have h:=Nat.div_add_mod n size
  rw [e] at h
  have:0 < n / size:=by
   rcases Nat.eq_zero_or_pos (n / size) with e2 | e2
   ·rw [e2] at h;simp at h;omega
   ·exact e2
  exact Nat.lt_of_lt_of_le this (Nat.le_add_right _ _)
 ·rw [show min (n % size) 1=1 by omega]
  exact Nat.succ_pos _
theorem secs_le {size n k:Nat} (hs:0 < size) (h:n<=k*size):secs size n<=k:=by
 unfold secs
 have h1:=Nat.div_add_mod n size
 have h2:=Nat.mod_lt n hs
 rcases Nat.eq_zero_or_pos (n % size) with e | e
 ·rw [e]
  have:n / size<=k:=Nat.div_le_of_le_mul (by rw [Nat.mul_comm];exact h)
  omega
 ·have:n / size < k:=Nat.div_lt_of_lt_mul (by
   rcases Nat.lt_or_ge n (k*size) with g | g
   ·rw [Nat.mul_comm];exact g
   ·have:n=k*size:=by omega
    rw [this,Nat.mul_mod_left] at e;omega)
  omega
def parse:Nat->List UInt8->Option (List (List UInt8))
 | _,[]=>some []
 | 0,_=>none
 | f+1,x :: l=>if (x :: l).length < 4 then none else if getN ((x :: l).take 4)<=(x :: l).length - 4 then
   (parse f ((x :: l).drop (4+getN ((x :: l).take 4)))).map ((((x :: l).drop 4).take (getN ((x :: l).take 4))) :: ·) else none
theorem parse_body:∀ (rs:List (List UInt8)),(∀ r ∈ rs,r.length < 4294967296)->∀ f,(bodyB rs).length<=f->parse f (bodyB rs)=some rs
 | [],_,f,_=>by cases f <;> rfl
 | r :: rs,h,f,hf=>by
  have hb:bodyB (r :: rs)=be 4 r.length++(r++bodyB rs):=by simp [bodyB,recB]
  have hg:getN (be 4 r.length)=r.length:=getN_be 4 _ (by omega) (by have:=h r (by simp);omega)
  have hl:(be 4 r.length).length=4:=be_len _ _
  rw [hb] at hf ⊢
  have hlen:(be 4 r.length++(r++bodyB rs)).length=4+(r.length+(bodyB rs).length):=by simp [hl]
  generalize hL:be 4 r.length++(r++bodyB rs)=L at *
  match L,f,hL,hlen with
  | [],_,_,hlen=>simp at hlen;omega
  | x :: l,0,_,hlen=>rw [hlen] at hf;omega
  | x :: l,f+1,hL,hlen =>
   have t4:(x :: l).take 4=be 4 r.length:=by rw [<- hL,List.take_append_of_le_length (by omega),List.take_of_length_le (by omega)]
   have d4:(x :: l).drop 4=r++bodyB rs:=by rw [<- hL,List.drop_append_of_le_length (by omega),List.drop_of_length_le (by omega),List.nil_append]
   have hd:(x :: l).drop (4+r.length)=bodyB rs:=by rw [<- List.drop_drop,d4,List.drop_append_of_le_length (by omega),List.drop_of_length_le (by omega),List.nil_append]
   unfold parse
   rw [t4,hg,hd,if_neg (by omega),if_pos (by omega),parse_body rs (fun r' hr=>h r' (by simp [hr])) f (by omega),d4,List.take_append_of_le_length (by omega),List.take_of_length_le (by omega)]
   rfl
def rdAll (S:Nat->List UInt8) (base size k:Nat):List UInt8:=(List.range k).flatMap fun i=>(S (base+i)).take size
def rd (S:Nat->List UInt8) (h size side at_ next:Nat):Option (Nat × List (List UInt8) × Nat) :=
 if at_ < h then
  if ((S (side*h+at_)).take size).take 8=sign/\getN ((((S (side*h+at_)).take size).drop 16).take 8)=next ∧
    getN (((S (side*h+at_)).drop size).take 8)=getN ((((S (side*h+at_)).take size).drop 8).take 8)/\getN (((S (side*h+at_)).drop size).drop 8)=(next+1) % 18446744073709551616 ∧
    getN ((((S (side*h+at_)).take size).drop 24).take 8)+32<=(h - at_)*size then
   (parse (getN ((((S (side*h+at_)).take size).drop 24).take 8)) (((rdAll S (side*h+at_) size (secs size (32+getN ((((S (side*h+at_)).take size).drop 24).take 8)))).drop 32).take (getN ((((S (side*h+at_)).take size).drop 24).take 8)))).map
    fun rs=>(getN ((((S (side*h+at_)).take size).drop 8).take 8),rs,at_+secs size (32+getN ((((S (side*h+at_)).take size).drop 24).take 8)))
  else none
 else none
def laidAt (size turn next:Nat) (b:List UInt8) (i:Nat):List UInt8 :=
 ((b.drop (i*size)).take size++List.replicate (size - ((b.drop (i*size)).take size).length) 0)++if i=0 then be 8 turn++be 8 (next+1) else List.replicate 16 0
theorem laidAt_take (size turn next:Nat) (b:List UInt8) (i:Nat):(laidAt size turn next b i).take size=(b.drop (i*size)).take size++List.replicate (size - ((b.drop (i*size)).take size).length) 0:=by
 unfold laidAt
 have hl:((b.drop (i*size)).take size++List.replicate (size - ((b.drop (i*size)).take size).length) (0:UInt8)).length=size:=by
  have:=List.length_take_le size (b.drop (i*size))
  simp only [List.length_append,List.length_replicate];omega
 rw [List.take_append_of_le_length (by omega),List.take_of_length_le (by omega)]
theorem laidAt_drop (size turn next:Nat) (b:List UInt8) (i:Nat):(laidAt size turn next b i).drop size=if i=0 then be 8 turn++be 8 (next+1) else List.replicate 16 0:=by
 unfold laidAt
 have hl:((b.drop (i*size)).take size++List.replicate (size - ((b.drop (i*size)).take size).length) (0:UInt8)).length=size:=by
  have:=List.length_take_le size (b.drop (i*size))
  simp only [List.length_append,List.length_replicate];omega
 rw [List.drop_append_of_le_length (by omega),List.drop_of_length_le (by omega),List.nil_append]
theorem laidAt_len (size turn next:Nat) (b:List UInt8) (i:Nat):(laidAt size turn next b i).length=size+16:=by
 have h1:=List.length_take_le size (b.drop (i*size))
 unfold laidAt
 simp only [List.length_append,List.length_replicate]
 split
 ·simp only [List.length_append,be_len];omega
 ·simp only [List.length_replicate];omega
theorem rdAll_laid {S:Nat->List UInt8} {base size turn next:Nat} {b:List UInt8}:∀ k,(∀ i,i < k->S (base+i)=laidAt size turn next b i)->rdAll S base size k=b.take (k*size)++List.replicate (k*size - b.length) 0
 | 0,_=>by simp [rdAll]
 | k+1,h=>by
  have ih:=rdAll_laid k fun i hi=>h i (by omega)
  unfold rdAll at ih ⊢
  rw [List.range_succ,List.flatMap_append,ih]
  simp only [List.flatMap_cons,List.flatMap_nil,List.append_nil]
  rw [h k (by omega),laidAt_take]
  have e:(k+1)*size=k*size+size:=Nat.succ_mul _ _
  rw [e]
  generalize k*size=m
  have hl:((b.drop m).take size).length=min size (b.length - m):=by simp
  rw [hl]
  rcases Nat.le_total b.length m with g | g
  ·have e1:b.drop m=[]:=List.drop_of_length_le g
   rw [e1,List.take_nil,List.nil_append,List.take_of_length_le g,List.take_of_length_le (show b.length<=m+size by omega),List.append_assoc,List.replicate_append_replicate]
   congr 2;omega
  ·rw [show m - b.length=0 by omega,List.replicate_zero,List.append_nil,List.take_add,List.append_assoc]
   congr 3;omega
theorem rd_laid {S:Nat->List UInt8} {h size side at_ turn next:Nat} {rs:List (List UInt8)} (hsz:32<=size) (ht:turn < 18446744073709551616) (hn:next+1 < 18446744073709551616)
  (hr:∀ r ∈ rs,r.length < 4294967296) (hb:(bodyB rs).length < 18446744073709551616) (hk:at_+secs size (32+(bodyB rs).length)<=h)
  (hS:∀ i,i < secs size (32+(bodyB rs).length)->S (side*h+at_+i)=laidAt size turn next (frameB turn next rs) i) :
  rd S h size side at_ next=some (turn,rs,at_+secs size (32+(bodyB rs).length)):=by
 have hpos:0 < secs size (32+(bodyB rs).length):=secs_pos (by omega)
 have hup:=secs_up (size:=size) (n:=32+(bodyB rs).length) (by omega)
 have h0:=hS 0 hpos
 rw [Nat.add_zero] at h0
 have hfl:=frameB_len turn next rs
 have hall:=rdAll_laid (base:=side*h+at_) _ hS
 rw [List.take_of_length_le (by rw [hfl];exact hup)] at hall
 have hx:(S (side*h+at_)).take size=(frameB turn next rs).take size++List.replicate (size - ((frameB turn next rs).take size).length) 0:=by
  rw [h0,laidAt_take];simp
 have hd:(S (side*h+at_)).drop size=be 8 turn++be 8 (next+1):=by rw [h0,laidAt_drop];rfl
 have hfs:((frameB turn next rs).take size).length=min size (32+(bodyB rs).length):=by rw [List.length_take,hfl]
 have field:∀ o,o+8<=32->(((S (side*h+at_)).take size).drop o).take 8=((frameB turn next rs).drop o).take 8:=fun o ho=>by
  rw [hx,List.drop_append_of_le_length (by omega),List.take_append_of_le_length (by rw [List.length_drop];omega),List.drop_take,List.take_take]
  congr 1;omega
 have e8:∀ n,(be 8 n).length=8:=fun n=>be_len 8 n
 have d8:(frameB turn next rs).drop 8=be 8 turn++(be 8 next++(be 8 (bodyB rs).length++bodyB rs)):=List.drop_left' rfl
 have d16:(frameB turn next rs).drop 16=be 8 next++(be 8 (bodyB rs).length++bodyB rs):=by
  rw [show 16=8+8 from rfl,<- List.drop_drop,d8];exact List.drop_left' (e8 _)
 have d24:(frameB turn next rs).drop 24=be 8 (bodyB rs).length++bodyB rs:=by
  rw [show 24=16+8 from rfl,<- List.drop_drop,d16];exact List.drop_left' (e8 _)
 have d32:(frameB turn next rs).drop 32=bodyB rs:=by
  rw [show 32=24+8 from rfl,<- List.drop_drop,d24];exact List.drop_left' (e8 _)
 have f0:((S (side*h+at_)).take size).take 8=sign:=by
  have:=field 0 (by omega)
  rw [List.drop_zero,List.drop_zero] at this
  rw [this]
  exact List.take_left' rfl
 have f8:(((S (side*h+at_)).take size).drop 8).take 8=be 8 turn:=by
  rw [field 8 (by omega),d8];exact List.take_left' (e8 _)
 have f16:(((S (side*h+at_)).take size).drop 16).take 8=be 8 next:=by
  rw [field 16 (by omega),d16];exact List.take_left' (e8 _)
 have f24:(((S (side*h+at_)).take size).drop 24).take 8=be 8 (bodyB rs).length:=by
  rw [field 24 (by omega),d24];exact List.take_left' (e8 _)
 have gt:getN (be 8 turn)=turn:=getN_be 8 _ (by omega) (by omega)
 have gn:getN (be 8 next)=next:=getN_be 8 _ (by omega) (by omega)
 have gn1:getN (be 8 (next+1))=next+1:=getN_be 8 _ (by omega) (by omega)
 have gb:getN (be 8 (bodyB rs).length)=(bodyB rs).length:=getN_be 8 _ (by omega) (by omega)
 have g0:((S (side*h+at_)).drop size).take 8=be 8 turn:=by rw [hd,List.take_append_of_le_length (by rw [e8];omega),List.take_of_length_le (by rw [e8];omega)]
 have g1:((S (side*h+at_)).drop size).drop 8=be 8 (next+1):=by rw [hd,List.drop_append_of_le_length (by rw [e8];omega),List.drop_of_length_le (by rw [e8];omega),List.nil_append]
 have hbd:((rdAll S (side*h+at_) size (secs size (32+(bodyB rs).length))).drop 32).take (bodyB rs).length=bodyB rs:=by
  rw [hall,List.drop_append_of_le_length (by omega),d32,List.take_append_of_le_length (by omega),List.take_of_length_le (by omega)]
 have hroom:(bodyB rs).length+32<=(h - at_)*size:=by
  have:secs size (32+(bodyB rs).length)*size<=(h - at_)*size:=Nat.mul_le_mul_right _ (by omega)
  omega
 unfold rd
 rw [if_pos (by omega),f0,f8,f16,f24,g0,g1,gt,gn,gn1,gb,hbd,parse_body rs hr _ (Nat.le_refl _),if_pos ⟨rfl,rfl,rfl,by rw [Nat.mod_eq_of_lt hn],hroom⟩]
 rfl
def tlT (S:Nat->List UInt8) (size i:Nat):Nat:=getN (((S i).drop size).take 8)
def tlN (S:Nat->List UInt8) (size i:Nat):Nat:=getN (((S i).drop size).drop 8)
theorem rd_some {S:Nat->List UInt8} {h size side at_ next t beh:Nat} {rs:List (List UInt8)} (hs:0 < size) (e:rd S h size side at_ next=some (t,rs,beh)) :
  at_ < h/\at_ < beh/\beh<=h/\tlT S size (side*h+at_)=t/\tlN S size (side*h+at_)=(next+1) % 18446744073709551616:=by
 unfold rd at e
 split at e
 ·rename_i h1
  split at e
  ·rename_i h2
   obtain ⟨p,_,hq⟩:=Option.map_eq_some_iff.1 e
   simp only [Prod.mk.injEq] at hq
   obtain ⟨q1,_,q3⟩:=hq
   have hp:=secs_pos (size:=size) (n:=32+getN ((((S (side*h+at_)).take size).drop 24).take 8)) (by omega)
   have hl:=secs_le (size:=size) (n:=32+getN ((((S (side*h+at_)).take size).drop 24).take 8)) (k:=h - at_) hs (by have:=h2.2.2.2.2;omega)
   refine ⟨h1,by omega,by omega,?_,?_⟩
   ·unfold tlT;rw [h2.2.2.1,q1]
   ·unfold tlN;exact h2.2.2.2.1
  ·cases e
 ·cases e
theorem rd_congr {S S':Nat->List UInt8} {h size side at_ next t beh:Nat} {rs:List (List UInt8)} (hs:0 < size) (e:rd S h size side at_ next=some (t,rs,beh))
  (ag:∀ j,at_<=j->j < beh->S' (side*h+j)=S (side*h+j)):rd S' h size side at_ next=some (t,rs,beh):=by
 obtain ⟨h1,h2,_⟩:=rd_some hs e
 have h0:=ag at_ (Nat.le_refl _) h2
 rw [<- e]
 unfold rd at e ⊢
 rw [h0]
 rw [if_pos h1] at e
 split at e
 ·rename_i h3
  obtain ⟨p,_,hq⟩:=Option.map_eq_some_iff.1 e
  simp only [Prod.mk.injEq] at hq
  obtain ⟨_,_,q3⟩:=hq
  have hall:rdAll S' (side*h+at_) size (secs size (32+getN ((((S (side*h+at_)).take size).drop 24).take 8)))=rdAll S (side*h+at_) size (secs size (32+getN ((((S (side*h+at_)).take size).drop 24).take 8))):=by
   unfold rdAll
   rw [List.flatMap_def,List.flatMap_def]
   congr 1
   refine List.map_congr_left fun i hi=>?_
   have:=List.mem_range.1 hi
   rw [Nat.add_assoc,ag (at_+i) (by omega) (by omega)]
  rw [hall]
 ·cases e
inductive Chain (S:Nat->List UInt8) (h size side turn:Nat):Nat->Nat->List (List UInt8)->Prop
 | zero:Chain S h size side turn 0 0 []
 | step {at_ next beh:Nat} {all rs:List (List UInt8)}:Chain S h size side turn at_ next all->rd S h size side at_ next=some (turn,rs,beh)->Chain S h size side turn beh (next+1) (all++rs)
theorem Chain.le {S:Nat->List UInt8} {h size side turn at_ next:Nat} {all:List (List UInt8)} (hs:0 < size) (c:Chain S h size side turn at_ next all):at_<=h:=by
 cases c with
 | zero=>omega
 | step _ e=>exact (rd_some hs e).2.2.1
theorem Chain.congr {S S':Nat->List UInt8} {h size side turn at_ next:Nat} {all:List (List UInt8)} (hs:0 < size) (c:Chain S h size side turn at_ next all):(∀ j,j < at_->S' (side*h+j)=S (side*h+j))->Chain S' h size side turn at_ next all:=by
 induction c with
 | zero=>exact fun _=>.zero
 | step _ e ih =>
  intro ag
  have hb:=rd_some hs e
  exact .step (ih fun j hj=>ag j (by omega)) (rd_congr hs e fun j _ hj=>ag j hj)
theorem Chain.same {S:Nat->List UInt8} {h size side turn:Nat}:∀ {next a b:Nat} {xs ys:List (List UInt8)},Chain S h size side turn a next xs->Chain S h size side turn b next ys->a=b/\xs=ys:=by
 intro next
 induction next with
 | zero=>intro a b xs ys c d;cases c;cases d;exact ⟨rfl,rfl⟩
 | succ n ih =>
  intro a b xs ys c d
  cases c with
  | step c1 e1 =>
   cases d with
   | step d1 e2 =>
    obtain ⟨rfl,rfl⟩:=ih c1 d1
    rw [e1] at e2
    simp only [Option.some.injEq,Prod.mk.injEq,true_and] at e2
    obtain ⟨rfl,rfl⟩:=e2
    exact ⟨rfl,rfl⟩
def Stop (S:Nat->List UInt8) (h size side turn at_ next:Nat):Prop:=∀ rs beh,rd S h size side at_ next ≠ some (turn,rs,beh)
theorem Chain.upto {S:Nat->List UInt8} {h size side turn:Nat}:∀ {m b:Nat} {ys:List (List UInt8)},Chain S h size side turn b m ys->∀ n,n < m->∃ a xs rs beh,Chain S h size side turn a n xs/\rd S h size side a n=some (turn,rs,beh):=by
 intro m
 induction m with
 | zero=>intro b ys _ n hn;omega
 | succ m ih =>
  intro b ys c n hn
  cases c with
  | step c1 e1 =>
   by_cases e:n=m
   ·subst e;exact ⟨_,_,_,_,c1,e1⟩
   ·exact ih c1 n (by omega)
theorem Chain.unique {S:Nat->List UInt8} {h size side turn a b n m:Nat} {xs ys:List (List UInt8)} (c:Chain S h size side turn a n xs) (d:Chain S h size side turn b m ys) (sc:Stop S h size side turn a n) (sd:Stop S h size side turn b m):a=b/\n=m/\xs=ys:=by
 rcases Nat.lt_trichotomy n m with g | g | g
 ·obtain ⟨a',xs',rs,beh,c',e⟩:=d.upto n g
  obtain ⟨rfl,_⟩:=c.same c'
  exact absurd e (sc rs beh)
 ·subst g
  obtain ⟨h1,h2⟩:=c.same d
  exact ⟨h1,rfl,h2⟩
 ·obtain ⟨a',xs',rs,beh,c',e⟩:=c.upto m g
  obtain ⟨rfl,_⟩:=d.same c'
  exact absurd e (sd rs beh)
structure Lg where
 turn:Nat
 next:Nat
 at_:Nat
 all:List (List UInt8)
structure LogOK (S:Nat->List UInt8) (h size:Nat) (L:Lg):Prop where
 chain:Chain S h size (L.turn % 2) L.turn L.at_ L.next L.all
 free:∀ j,L.at_<=j->j < h->tlT S size (L.turn % 2*h+j)=L.turn->tlN S size (L.turn % 2*h+j)<=L.next
 top:∀ i,i < 2*h->tlT S size i<=L.turn
 first:L.turn=0\/0 < L.next
 bT:L.turn < 4611686018427387904
 bN:L.next < 4611686018427387904
theorem LogOK.stop {S:Nat->List UInt8} {h size:Nat} {L:Lg} (hs:0 < size) (o:LogOK S h size L):Stop S h size (L.turn % 2) L.turn L.at_ L.next:=by
 intro rs beh e
 obtain ⟨h1,_,_,h2,h3⟩:=rd_some hs e
 have:=o.free L.at_ (Nat.le_refl _) h1 h2
 have:=o.bN
 rw [h3,Nat.mod_eq_of_lt (by omega)] at *
 omega
theorem tl_laid {S':Nat->List UInt8} {size turn next i j:Nat} {b:List UInt8} (ht:turn < 18446744073709551616) (hn:next+1 < 18446744073709551616) (e:S' j=laidAt size turn next b i) :
  (i=0/\tlT S' size j=turn/\tlN S' size j=next+1)\/(i ≠ 0/\tlT S' size j=0/\tlN S' size j=0):=by
 have e8:∀ n,(be 8 n).length=8:=fun n=>be_len 8 n
 by_cases h:i=0
 ·refine .inl ⟨h,?_,?_⟩
  ·unfold tlT
   rw [e,laidAt_drop,if_pos h,List.take_append_of_le_length (by rw [e8];omega),List.take_of_length_le (by rw [e8];omega),getN_be 8 _ (by omega) (by omega)]
  ·unfold tlN
   rw [e,laidAt_drop,if_pos h,List.drop_append_of_le_length (by rw [e8];omega),List.drop_of_length_le (by rw [e8];omega),List.nil_append,getN_be 8 _ (by omega) (by omega)]
 ·refine .inr ⟨h,?_,?_⟩
  ·unfold tlT
   rw [e,laidAt_drop,if_neg h,List.take_replicate,getN_zeros]
  ·unfold tlN
   rw [e,laidAt_drop,if_neg h,List.drop_replicate,getN_zeros]
structure Laid (S S':Nat->List UInt8) (size turn next base k:Nat) (b:List UInt8):Prop where
 here:∀ i,i < k->S' (base+i)=laidAt size turn next b i
 else_:∀ j,j < base\/base+k<=j->S' j=S j
theorem Laid.tails {S S':Nat->List UInt8} {size turn next base k:Nat} {b:List UInt8} (l:Laid S S' size turn next base k b) (ht:turn < 18446744073709551616) (hn:next+1 < 18446744073709551616) (i:Nat) :
  (tlT S' size i=turn\/tlT S' size i=0)\/tlT S' size i=tlT S size i:=by
 by_cases h:i < base\/base+k<=i
 ·right;unfold tlT;rw [l.else_ i h]
 ·left
  have e:=l.here (i - base) (by omega)
  rw [show base+(i - base)=i by omega] at e
  rcases tl_laid ht hn e with ⟨_,h1,_⟩ | ⟨_,h1,_⟩
  ·exact .inl h1
  ·exact .inr h1
theorem LogOK.commit {S S':Nat->List UInt8} {h size:Nat} {L:Lg} {rs:List (List UInt8)} (hsz:32<=size) (o:LogOK S h size L) (hr:∀ r ∈ rs,r.length < 4294967296) (hb:(bodyB rs).length < 18446744073709551616)
  (hk:L.at_+secs size (32+(bodyB rs).length)<=h) (hn:L.next+1 < 4611686018427387904) (l:Laid S S' size L.turn L.next (L.turn % 2*h+L.at_) (secs size (32+(bodyB rs).length)) (frameB L.turn L.next rs)) :
  LogOK S' h size ⟨L.turn,L.next+1,L.at_+secs size (32+(bodyB rs).length),L.all++rs⟩:=by
 have bT:=o.bT
 have ht:L.turn < 18446744073709551616:=by omega
 have hn1:L.next+1 < 18446744073709551616:=by omega
 have hc:Chain S' h size (L.turn % 2) L.turn (L.at_+secs size (32+(bodyB rs).length)) (L.next+1) (L.all++rs) :=
  .step (o.chain.congr (by omega) fun j hj=>l.else_ _ (.inl (Nat.add_lt_add_left hj _))) (rd_laid hsz ht hn1 hr hb hk l.here)
 refine ⟨hc,fun j h1 h2 h3=>?_,fun i hi=>?_,.inr (Nat.succ_pos _),bT,hn⟩
 ·dsimp only at h1 h2 h3 ⊢
  have e:=l.else_ (L.turn % 2*h+j) (.inr (by rw [Nat.add_assoc];exact Nat.add_le_add_left h1 _))
  unfold tlT at h3
  unfold tlN
  rw [e] at h3 ⊢
  have:=o.free j (by omega) h2 h3
  unfold tlN at this
  omega
 ·have:=o.top i hi
  dsimp only
  rcases l.tails ht hn1 i with (e | e) | e <;> omega
theorem LogOK.reset {S S':Nat->List UInt8} {h size:Nat} {L:Lg} {rs:List (List UInt8)} (hsz:32<=size) (o:LogOK S h size L) (hr:∀ r ∈ rs,r.length < 4294967296) (hb:(bodyB rs).length < 18446744073709551616)
  (hk:secs size (32+(bodyB rs).length)<=h) (ht:L.turn+1 < 4611686018427387904) (l:Laid S S' size (L.turn+1) 0 ((L.turn+1) % 2*h) (secs size (32+(bodyB rs).length)) (frameB (L.turn+1) 0 rs)) :
  LogOK S' h size ⟨L.turn+1,1,secs size (32+(bodyB rs).length),rs⟩:=by
 have hrd:=rd_laid (side:=(L.turn+1) % 2) (at_:=0) (h:=h) hsz (show L.turn+1 < 18446744073709551616 by omega) (show 0+1 < 18446744073709551616 by omega) hr hb (by omega) (by simpa using l.here)
 rw [Nat.zero_add] at hrd
 have hc:Chain S' h size ((L.turn+1) % 2) (L.turn+1) (secs size (32+(bodyB rs).length)) 1 rs:=.step .zero hrd
 have ht1:L.turn+1 < 18446744073709551616:=by omega
 refine ⟨hc,fun j h1 h2 h3=>?_,fun i hi=>?_,.inr Nat.one_pos,ht,(by decide:(1:Nat) < 4611686018427387904)⟩
 ·dsimp only at h1 h2 h3 ⊢
  have e:=l.else_ ((L.turn+1) % 2*h+j) (.inr (Nat.add_le_add_left h1 _))
  have hj:(L.turn+1) % 2*h+j < 2*h:=by
   rcases Nat.mod_two_eq_zero_or_one (L.turn+1) with g | g <;> rw [g] <;> omega
  have:=o.top _ hj
  unfold tlT at h3 this
  rw [e] at h3
  omega
 ·have:=o.top i hi
  dsimp only
  rcases l.tails ht1 (show 0+1 < 18446744073709551616 by omega) i with (e | e) | e <;> omega
def firstT (S:Nat->List UInt8) (h size side:Nat):Option Nat:=match rd S h size side 0 0 with
 | some (t,_,_)=>if t % 2=side then some t else none
 | none=>none
def later (a b:Nat):Bool:=decide (0 < (a+18446744073709551616 - b) % 18446744073709551616/\(a+18446744073709551616 - b) % 18446744073709551616 < 9223372036854775808)
def bgStep (S:Nat->List UInt8) (h size:Nat) (p:Bool × Nat) (side:Nat):Bool × Nat:=match firstT S h size side with
 | some t=>if !p.1 || later t p.2 then (true,t) else p
 | none=>p
def turnOf (S:Nat->List UInt8) (h size:Nat):Nat:=(bgStep S h size (bgStep S h size (false,0) 0) 1).2
theorem LogOK.firstTop {S:Nat->List UInt8} {h size side t:Nat} {L:Lg} (hs:0 < size) (o:LogOK S h size L) (hside:side < 2) (e:firstT S h size side=some t):t<=L.turn/\t % 2=side:=by
 unfold firstT at e
 split at e
 ·rename_i t' rs beh hrd
  split at e
  ·rename_i hp
   cases e
   obtain ⟨h1,_,_,h2,_⟩:=rd_some hs hrd
   have hi:side*h+0 < 2*h:=by
    have:side=0\/side=1:=by omega
    rcases this with g | g
    ·subst g;omega
    ·subst g;omega
   have:=o.top (side*h+0) hi
   exact ⟨by omega,hp⟩
  ·cases e
 ·cases e
theorem LogOK.turnOf {S:Nat->List UInt8} {h size:Nat} {L:Lg} (hs:0 < size) (hh:0 < h) (o:LogOK S h size L):turnOf S h size=L.turn:=by
 have bT:=o.bT
 have l1:∀ t,t < L.turn->later L.turn t=true:=fun t ht=>by
  unfold later
  have:(L.turn+18446744073709551616 - t) % 18446744073709551616=L.turn - t:=by
   rw [show L.turn+18446744073709551616 - t=(L.turn - t)+18446744073709551616 by omega,Nat.add_mod_right,Nat.mod_eq_of_lt (by omega)]
  rw [this]
  exact decide_eq_true (by omega)
 have l2:∀ t,t < L.turn->later t L.turn=false:=fun t ht=>by
  unfold later
  have:(t+18446744073709551616 - L.turn) % 18446744073709551616=t+18446744073709551616 - L.turn:=Nat.mod_eq_of_lt (by omega)
  rw [this]
  exact decide_eq_false (by omega)
 have f0:=fun t=>o.firstTop (side:=0) (t:=t) hs (by omega)
 have f1:=fun t=>o.firstTop (side:=1) (t:=t) hs (by omega)
 have hmy:L.next=0\/firstT S h size (L.turn % 2)=some L.turn:=by
  rcases Nat.eq_zero_or_pos L.next with g | g
  ·exact .inl g
  ·right
   obtain ⟨a,xs,rs,beh,c,e⟩:=o.chain.upto 0 g
   cases c
   unfold firstT
   rw [e]
   exact if_pos rfl
 unfold Go.Proofs.YtmppeipgjcjdkaaGreatDoor.turnOf bgStep
 rcases hmy with g | g
 ·have ht:L.turn=0:=by have:=o.first;omega
  have hat:L.at_=0:=by
   have hz:∀ a n xs,Chain S h size (L.turn % 2) L.turn a n xs->n=0->a=0:=fun a n xs c e=>by
    cases c with
    | zero=>rfl
    | step _ _=>cases e
   exact hz _ _ _ o.chain g
  have n0:firstT S h size 0=none:=by
   cases e:firstT S h size 0 with
   | none=>rfl
   | some t =>
    unfold firstT at e
    split at e
    ·rename_i t' rs beh hrd
     obtain ⟨h1,_,_,h2,h3⟩:=rd_some hs hrd
     have h4:=o.top (0*h+0) (by omega)
     have h5:=o.free 0 (by omega) hh (by rw [ht] at h4 ⊢;simpa using h4)
     rw [ht,g] at h5
     simp at h5 h3
     omega
    ·cases e
  have n1:firstT S h size 1=none:=by
   cases e:firstT S h size 1 with
   | none=>rfl
   | some t=>have:=f1 t e;omega
  rw [n0,n1]
  exact ht.symm
 ·rcases Nat.mod_two_eq_zero_or_one L.turn with p | p
  ·rw [p] at g
   rw [g]
   cases e:firstT S h size 1 with
   | none=>rfl
   | some t =>
    have:=f1 t e
    simp only [Bool.not_false,Bool.true_or,if_true,Bool.not_true,Bool.false_or]
    rw [l2 t (by omega)]
    rfl
  ·rw [p] at g
   rw [g]
   cases e:firstT S h size 0 with
   | none=>rfl
   | some t =>
    have:=f0 t e
    simp only [Bool.not_false,Bool.true_or,if_true,Bool.not_true,Bool.false_or]
    rw [l1 t (by omega)]
    rfl
end Go.Proofs.YtmppeipgjcjdkaaGreatDoor
namespace Go.Proofs.YtmppeipgjcjdkaaGreatDoor
open _root_.Go.Proofs.Tryz
open Go.RowKit
theorem bytesLess_dec:∀ (x y:List UInt8),Op.bytesLess x y=decide (x < y)
 | [],[]=>by simp [Op.bytesLess]
 | _ :: _,[]=>by simp [Op.bytesLess]
 | [],_ :: _=>by simp [Op.bytesLess]
 | a :: x,b :: y=>by
  rw [Op.bytesLess,bytesLess_dec x y]
  simp only [List.cons_lt_cons_iff]
  by_cases h1:a < b <;> by_cases h2:a=b <;> by_cases h3:x < y <;> simp [h1,h2,h3]
def cfL (x y:List UInt8):Int:=if x < y then -1 else if y < x then 1 else 0
theorem isnan_any (x:ByteArray) (w:World):Calls prog 142 #[.string x] w fun e w'=>e=.returned (.bool false)/\w'=w:=by
 refine calls_hide fun R hR=>?_
 go_enter func142,ntmps142
 go_wp2_with fail
 exact fin hR ⟨by simp,rfl⟩
set_option maxRecDepth 100000 in
theorem compare_any (x y:List UInt8) (w:World):Calls prog 84 #[.string ⟨x.toArray⟩,.string ⟨y.toArray⟩] w fun e w'=>e=.returned (.int .i64 (cfL x y))/\w'=w:=by
 refine calls_hide fun R hR=>?_
 have HNX:=zh (isnan_any ⟨x.toArray⟩)
 have HNY:=zh (isnan_any ⟨y.toArray⟩)
 have h1:((⟨x.toArray⟩:ByteArray)).data.toList=x:=rfl
 have h2:((⟨y.toArray⟩:ByteArray)).data.toList=y:=rfl
 generalize (⟨x.toArray⟩:ByteArray)=X at *
 generalize (⟨y.toArray⟩:ByteArray)=Y at *
 go_enter func84,ntmps84
 go_wp2_with fail
 refine (HNX.out _).mono ?_
 rintro e w1 ⟨rfl,hw1⟩
 subst hw1
 go_wp2_with fail
 refine (HNY.out _).mono ?_
 rintro e w2 ⟨rfl,hw2⟩
 subst hw2
 go_wp2_with fail
 ·rename_i h3
  rw [ByteArray.toList_eq,ByteArray.toList_eq,h1,h2,bytesLess_dec] at h3
  have e:cfL x y = -1:=by unfold cfL;rw [if_pos (by simpa using h3)]
  exact fin hR ⟨by rw [e];rfl,rfl⟩
 ·rename_i h4 K h5 h3
  clear h5 K
  rw [ByteArray.toList_eq,ByteArray.toList_eq,h1,h2,bytesLess_dec] at h4
  rw [ByteArray.toList_eq,ByteArray.toList_eq,h1,h2] at h3
  have e:cfL x y=1:=by
   have h5:¬ x < y:=by simpa using h4
   have h6:x ≠ y:=by simpa using h3
   unfold cfL
   rw [if_neg h5,if_pos (by
    rcases Std.lt_trichotomy x y with h | h | h
    ·exact absurd h h5
    ·exact absurd h h6
    ·exact h)]
  exact fin hR ⟨by rw [e];rfl,rfl⟩
 ·rename_i h4 h3
  rw [ByteArray.toList_eq,ByteArray.toList_eq,h1,h2] at h3
  have hxy:x=y:=by simpa using h3
  subst hxy
  have e:cfL x x=0:=by
   have h6:¬ x < x:=by simp
   unfold cfL
   rw [if_neg h6,if_neg h6]
  exact fin hR ⟨by rw [e];rfl,rfl⟩
theorem at_nil (k:List UInt8):atT [] k=none:=rfl
theorem at_cons (g:Fl) (t:Tr) (k:List UInt8):atT (g :: t) k=if g.path=k then some g else atT t k:=by
 unfold atT
 rw [List.find?_cons]
 by_cases h:g.path=k
 ·rw [if_pos h];simp [h]
 ·rw [if_neg h]
  have:(g.path == k)=false:=by simpa using h
  rw [this]
theorem at_put:∀ (t:Tr) (f:Fl) (k:List UInt8),atT (putT t f) k=if f.path=k then some f else atT t k
 | [],f,k=>by rw [putT,at_cons,at_nil]
 | g :: t,f,k=>by
  have ih:=at_put t f k
  unfold putT
  split
  ·rename_i h
   rw [at_cons,at_cons,h]
   by_cases e:f.path=k
   ·rw [if_pos e,if_pos e]
   ·rw [if_neg e,if_neg e,if_neg e]
  ·rename_i h
   split
   ·rw [at_cons,at_cons,ih]
    by_cases e:g.path=k
    ·rw [if_pos e,if_neg (fun e2=>h (e.trans e2.symm)),if_pos e]
    ·rw [if_neg e]
     by_cases e2:f.path=k
     ·rw [if_pos e2,if_pos e2]
     ·rw [if_neg e2,if_neg e2,if_neg e]
   ·rw [at_cons]
theorem at_path {t:Tr} {k:List UInt8} {f:Fl} (h:atT t k=some f):f.path=k/\f ∈ t:=by
 unfold atT at h
 exact ⟨by simpa using List.find?_some h,List.mem_of_find?_eq_some h⟩
abbrev AscT (t:Tr):Prop:=t.Pairwise fun a b=>a.path < b.path
theorem asc_nil:AscT []:=List.Pairwise.nil
theorem at_mem {t:Tr} (h:AscT t) {f:Fl} (hf:f ∈ t):atT t f.path=some f:=by
 induction t with
 | nil=>cases hf
 | cons g t ih =>
  obtain ⟨h1,h2⟩:=List.pairwise_cons.1 h
  rw [at_cons]
  rcases List.mem_cons.1 hf with rfl | hf
  ·rw [if_pos rfl]
  ·rw [if_neg fun e=>by
    have:=h1 f hf
    rw [e] at this
    exact List.lt_irrefl _ this]
   exact ih h2 hf
theorem lt_or {a b:List UInt8} (h1:a ≠ b) (h2:¬ a < b):b < a:=by
 rcases Std.lt_trichotomy a b with h | h | h
 ·exact absurd h h2
 ·exact absurd h h1
 ·exact h
theorem asc_put:∀ {t:Tr} (_:AscT t) (f:Fl),AscT (putT t f)
 | [],_,f=>by simp [putT]
 | g :: t,h,f=>by
  obtain ⟨h1,h2⟩:=List.pairwise_cons.1 h
  unfold putT
  split
  ·rename_i e
   exact List.pairwise_cons.2 ⟨fun x hx=>by rw [<- e];exact h1 x hx,h2⟩
  ·rename_i e
   split
   ·rename_i hl
    refine List.pairwise_cons.2 ⟨fun x hx=>?_,asc_put h2 f⟩
    rcases put_mem _ _ _ hx with rfl | hx
    ·exact hl
    ·exact h1 x hx
   ·rename_i hl
    have h3:=lt_or e hl
    refine List.pairwise_cons.2 ⟨fun x hx=>?_,h⟩
    rcases List.mem_cons.1 hx with rfl | hx
    ·exact h3
    ·exact List.lt_trans h3 (h1 x hx)
theorem put_count:∀ {t:Tr} (_:AscT t) (f:Fl),(putT t f).length=(if atT t f.path=none then t.length+1 else t.length)/\sizeT (putT t f)+(match atT t f.path with | some g=>g.b.length | none=>0)=sizeT t+f.b.length
 | [],_,f=>by simp [putT,at_nil,sizeT]
 | g :: t,h,f=>by
  obtain ⟨h1,h2⟩:=List.pairwise_cons.1 h
  unfold putT
  split
  ·rename_i e
   rw [at_cons,if_pos e]
   simp [sizeT]
   omega
  ·rename_i e
   obtain ⟨i1,i2⟩:=put_count h2 f
   split
   ·rw [at_cons,if_neg e]
    refine ⟨by rw [List.length_cons,i1];split <;> rfl,?_⟩
    simp only [sizeT,List.map_cons,List.sum_cons] at i2 ⊢
    omega
   ·rename_i hl
    have h3:=lt_or e hl
    have hn:atT t f.path=none:=by
     cases hx:atT t f.path with
     | none=>rfl
     | some x =>
      obtain ⟨p1,p2⟩:=at_path hx
      have h4:=List.lt_trans h3 (h1 x p2)
      rw [p1] at h4
      exact absurd h4 (List.lt_irrefl _)
    rw [at_cons,if_neg e,hn]
    simp [sizeT]
    omega
theorem tree_unique {s t:Tr} (hs:AscT s) (ht:AscT t) (h:∀ k,atT s k=atT t k):s=t:=by
 induction s generalizing t with
 | nil =>
  cases t with
  | nil=>rfl
  | cons g t =>
   have:=h g.path
   rw [at_nil,at_cons,if_pos rfl] at this
   cases this
 | cons f s ih =>
  cases t with
  | nil =>
   have:=h f.path
   rw [at_nil,at_cons,if_pos rfl] at this
   cases this
  | cons g t =>
   obtain ⟨h1,h2⟩:=List.pairwise_cons.1 hs
   obtain ⟨h3,h4⟩:=List.pairwise_cons.1 ht
   have hfg:f=g:=by
    have e1:=h f.path
    rw [at_cons,if_pos rfl] at e1
    have e2:=h g.path
    rw [at_cons g,if_pos rfl] at e2
    obtain ⟨-,m1⟩:=at_path e1.symm
    obtain ⟨-,m2⟩:=at_path e2
    rcases List.mem_cons.1 m1 with e | m1
    ·exact e
    ·rcases List.mem_cons.1 m2 with e | m2
     ·exact e.symm
     ·exact absurd (h1 g m2) (List.lt_asymm (h3 f m1))
   subst hfg
   refine congrArg (f :: ·) (ih h2 h4 fun k=>?_)
   have e:=h k
   rw [at_cons,at_cons] at e
   by_cases hk:f.path=k
   ·subst hk
    have n1:atT s f.path=none:=by
     cases hx:atT s f.path with
     | none=>rfl
     | some x =>
      obtain ⟨p1,p2⟩:=at_path hx
      have h5:=h1 x p2
      rw [p1] at h5
      exact absurd h5 (List.lt_irrefl _)
    have n2:atT t f.path=none:=by
     cases hx:atT t f.path with
     | none=>rfl
     | some x =>
      obtain ⟨p1,p2⟩:=at_path hx
      have h5:=h3 x p2
      rw [p1] at h5
      exact absurd h5 (List.lt_irrefl _)
    rw [n1,n2]
   ·rw [if_neg hk,if_neg hk] at e
    exact e
abbrev Rst:=Option (List UInt8)
def rdT:Rst->List UInt8 × Rst
 | none=>([],none)
 | some L=>match rdText L with
  | none=>([],none)
  | some (s,r)=>(s,some r)
def rdO:Rst->Bool × Rst
 | none=>(false,none)
 | some L=>match rdBool L with
  | none=>(false,none)
  | some (b,r)=>(b,some r)
def rdN:Rst->Nat × Rst
 | none=>(0,none)
 | some L=>match rdNum L with
  | none=>(0,none)
  | some (n,r)=>(n,some r)
def filesG:Nat->Rst->List Fl
 | 0,_=>[]
 | n+1,L=>⟨(rdT L).1,(rdO (rdT (rdT L).2).2).1,(rdT (rdT L).2).1⟩ :: filesG n (rdO (rdT (rdT L).2).2).2
def filesD (s:List UInt8):List Fl:=filesG (min (rdN (some s)).1 s.length) (rdN (some s)).2
def packF (f:Fl):Nat:=3+min f.path.length 65535+(if f.dir then 0 else 8+f.b.length)
def packL (l:List Fl):Nat:=5+(l.map packF).sum
theorem packL_le {l:List Fl} (hl:l.length<=20) (h:∀ f ∈ l,f.path.length<=300/\f.b.length<=500):packL l<=20000:=by
 have key:∀ l:List Fl,(∀ f ∈ l,f.path.length<=300/\f.b.length<=500)->(l.map packF).sum<=811*l.length:=fun l=>by
  induction l with
  | nil=>intro _;exact Nat.le_refl _
  | cons f l ih =>
   intro h
   have h1:=ih fun g hg=>h g (by simp [hg])
   have h2:=h f (by simp)
   have h3:packF f<=811:=by
    unfold packF
    have:min f.path.length 65535<=f.path.length:=Nat.min_le_left _ _
    split <;> omega
   rw [List.map_cons,List.sum_cons,List.length_cons]
   omega
 have:=key l h
 unfold packL
 omega
theorem index_one (c:UInt8) (l:List UInt8):Lib.index (c :: l) [47]=if c=47 then 0 else if Lib.index l [47] == -1 then -1 else Lib.index l [47]+1:=by
 rw [Lib.index]
 have:List.isPrefixOf [47] (c :: l)=decide (c=47):=by
  rw [List.isPrefixOf,List.isPrefixOf]
  by_cases h1:c=47
  ·subst h1;rfl
  ·have e:((47:UInt8) == c)=false:=by simpa using fun h=>h1 h.symm
   simp [h1,e]
 rw [this]
 by_cases h:c=47
 ·rw [if_pos h,if_pos (by simpa using h)]
 ·rw [if_neg h,if_neg (by simpa using h)]
theorem splitS_none:∀ l:List UInt8,Lib.index l [47] = -1->splitC 47 l=[l]
 | [],_=>rfl
 | c :: l,h=>by
  rw [index_one] at h
  by_cases hc:c=47
  ·rw [if_pos hc] at h;cases h
  ·rw [if_neg hc] at h
   have h2:Lib.index l [47] = -1:=by
    by_cases e:Lib.index l [47] = -1
    ·exact e
    ·rw [if_neg (by simpa using e)] at h
     have:=Lib.index_ge l [47]
     omega
   rw [splitC,if_neg hc,splitS_none l h2]
theorem splitS_hit:∀ (l:List UInt8) (i:Nat),Lib.index l [47]=(i:Int)->splitC 47 l=l.take i :: splitC 47 (l.drop (i+1))/\i+1<=l.length
 | [],i,h=>by
  have:Lib.index [] [47] = -1:=rfl
  omega
 | c :: l,i,h=>by
  rw [index_one] at h
  by_cases hc:c=47
  ·rw [if_pos hc] at h
   obtain rfl:i=0:=by omega
   rw [splitC,if_pos hc]
   exact ⟨rfl,by simp⟩
  ·rw [if_neg hc] at h
   by_cases e:Lib.index l [47] = -1
   ·rw [if_pos (by simpa using e)] at h;omega
   ·rw [if_neg (by simpa using e)] at h
    obtain ⟨j,rfl⟩:∃ j,i=j+1:=⟨i - 1,by have:=Lib.index_ge l [47];omega⟩
    obtain ⟨h1,h2⟩:=splitS_hit l j (by omega)
    rw [splitC,if_neg hc,h1]
    exact ⟨rfl,by simp;omega⟩
end Go.Proofs.YtmppeipgjcjdkaaGreatDoor
