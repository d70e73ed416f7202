/-
  Layers 0 to 14: helps of the laws of indexes. No statement is proved here; no condition.
-/
import Derived.Test.YtgiigemfbebcgaaGreatDoorQ06
import Derived.Test.YtgiigemfbebcgaaGreatDoorQ02
import Derived.Deep.MidRow
namespace Go.Proofs.YtgiigemfbebcgaaGreatDoor
open _root_.Go.Proofs.Tryz
open Go.RowKit
structure SRow where
 n:Nat
 v:Nat
 needs:List Nat
 kind:Nat
 lie:Nat
def nameK (k:Nat):List UInt8:=[UInt8.ofNat (97+k % 6)]
def verTexts:List (List UInt8):=[[49,46,48,46,48],[49,46,49,46,48],[50,46,48,46,48],[48,46,51,46,48],[49,46,48,46,48,45,120,46,49],[49,46,50,46,51]]
def verTK (k:Nat):List UInt8:=verTexts.getD (k % 6) []
def vers:List Ver:=[⟨1,0,0,[]⟩,⟨1,1,0,[]⟩,⟨2,0,0,[]⟩,⟨0,3,0,[]⟩,⟨1,0,0,[[120],[49]]⟩,⟨1,2,3,[]⟩]
def verK (k:Nat):Ver:=vers.getD (k % 6) ⟨0,0,0,[]⟩
def spanTexts:List (List UInt8):=[[42],[94,49,46,48,46,48],[126,49,46,48,46,48],[62,61,49,46,49,46,48],[50,46,48,46,48],[60,50,46,48,46,48],[94,48,46,51,46,48],
 [62,61,49,46,48,46,48,45,97,32,60,49,46,48,46,48,32,124,124,32,50,46,48,46,48],[49,46,48,46,48,45,120,46,49],[42]]
def spanTK (k:Nat):List UInt8:=spanTexts.getD (k % 10) []
def spanK (k:Nat):Spn:=(spanL (spanTK k)).getD ⟨true,[]⟩
theorem ver_all:∀ k:Fin 6,verOf (verTK k.1)=some (verK k.1):=by decide +kernel
theorem span_all:∀ k:Fin 10,(spanL (spanTK k.1)).isSome=true/\∀ d ∈ spanTK k.1,d ≠ 10:=by decide +kernel
theorem name_all:∀ k:Fin 6,nameB (nameK k.1)=true:=by decide +kernel
theorem nameK_good (k:Nat):nameB (nameK k)=true:=by
 have:=name_all ⟨k % 6,Nat.mod_lt _ (by omega)⟩
 unfold nameK at *
 dsimp only at this
 rw [Nat.mod_mod] at this
 exact this
theorem verK_good (k:Nat):verOf (verTK k)=some (verK k):=by
 have:=ver_all ⟨k % 6,Nat.mod_lt _ (by omega)⟩
 unfold verTK verK at *
 dsimp only at this
 rw [Nat.mod_mod] at this
 exact this
theorem spanK_good (k:Nat):spanL (spanTK k)=some (spanK k)/\∀ d ∈ spanTK k,d ≠ 10:=by
 have:=span_all ⟨k % 10,Nat.mod_lt _ (by omega)⟩
 have e:spanTK (k % 10)=spanTK k:=by unfold spanTK;rw [Nat.mod_mod]
 dsimp only at this
 rw [e] at this
 refine ⟨?_,this.2⟩
 obtain ⟨s,hs⟩:=Option.isSome_iff_exists.1 this.1
 unfold spanK
 rw [hs]
 rfl
theorem verT_K (k:Nat):verT (verK k)=verTK k:=by
 have h:k % 6 < 6:=Nat.mod_lt _ (by omega)
 have e1:verK k=vers.getD (k % 6) ⟨0,0,0,[]⟩:=rfl
 have e2:verTK k=verTexts.getD (k % 6) []:=rfl
 rw [e1,e2]
 match k % 6,h with
 | 0,_=>simp [vers,verTexts,verT,decT_small]
 | 1,_=>simp [vers,verTexts,verT,decT_small]
 | 2,_=>simp [vers,verTexts,verT,decT_small]
 | 3,_=>simp [vers,verTexts,verT,decT_small]
 | 4,_=>simp [vers,verTexts,verT,decT_small,joinC]
 | 5,_=>simp [vers,verTexts,verT,decT_small]
theorem verTK_word (k:Nat):(verTK k).all wordB=true:=by
 have h:∀ k:Fin 6,(verTK k.1).all wordB=true:=by decide +kernel
 have:=h ⟨k % 6,Nat.mod_lt _ (by omega)⟩
 unfold verTK at *
 dsimp only at this
 rw [Nat.mod_mod] at this
 exact this
def ndK (x:Nat):Nd:=⟨nameK (x % 6),spanK (x / 6 % 10),spanTK (x / 6 % 10)⟩
def ndsK (name:List UInt8) (l:List Nat):List Nd:=l.foldl (fun a x=>if (ndK x).name=name\/(ndK x).name ∈ a.map Nd.name then a else insR (ltNd (ndK x)) (ndK x) a) []
theorem ndsK_good (name:List UInt8):∀ (l:List Nat) (a:List Nd),Rises Nd.name a->(∀ n ∈ a,GoodN n/\n.name ≠ name) →
  let r:=l.foldl (fun a x=>if (ndK x).name=name\/(ndK x).name ∈ a.map Nd.name then a else insR (ltNd (ndK x)) (ndK x) a) a
  Rises Nd.name r/\(∀ n ∈ r,GoodN n/\n.name ≠ name)/\r.length<=a.length+l.length:=by
 intro l
 induction l with
 | nil=>exact fun a h1 h2=>⟨h1,h2,Nat.le_refl _⟩
 | cons x l ih =>
  intro a h1 h2
  dsimp only
  rw [List.foldl_cons]
  by_cases h:(ndK x).name=name\/(ndK x).name ∈ a.map Nd.name
  ·rw [if_pos h]
   obtain ⟨a1,a2,a3⟩:=ih a h1 h2
   exact ⟨a1,a2,by rw [List.length_cons];omega⟩
  ·rw [if_neg h]
   have hr:=insR_rises (f:=Nd.name) h1 (x:=ndK x) (fun h3=>h (.inr h3))
   obtain ⟨a1,a2,a3⟩:=ih (insR (ltNd (ndK x)) (ndK x) a) hr (fun n hn=>by
    rcases (insR_mem _ _ _ _).1 hn with rfl | hn
    ·exact ⟨⟨nameK_good _,(spanK_good _).1,(spanK_good _).2⟩,fun h3=>h (.inl h3)⟩
    ·exact h2 n hn)
   refine ⟨a1,a2,?_⟩
   rw [insR_length] at a3
   rw [List.length_cons]
   omega
def madeL (sm:SRow->List UInt8) (sz:SRow->Int):List Rw->List SRow->List Rw
 | st,[]=>st
 | st,r :: l=>madeL sm sz (if (atL st (nameK r.n) (verK r.v)).isSome then st else st++[⟨nameK r.n,verK r.v,sm r,sz r,ndsK (nameK r.n) r.needs⟩]) l
theorem Fresh.snoc:∀ {l st:List Rw} {r:Rw},Fresh st l->atL (st++l) r.name r.v=none->Fresh st (l++[r])
 | [],st,r,_,h=>⟨by simpa using h,trivial⟩
 | x :: l,st,r,h,h2=>⟨h.1,Fresh.snoc h.2 (by simpa using h2)⟩
theorem made_good (sm:SRow->List UInt8) (sz:SRow->Int):∀ (l:List SRow) (st:List Rw),(∀ r ∈ l,(sm r).length=32/\0<=sz r/\sz r<=262144/\r.needs.length<=20)->(∀ r ∈ st,GoodR r)->Fresh [] st →
  (∀ r ∈ madeL sm sz st l,GoodR r)/\Fresh [] (madeL sm sz st l)/\(madeL sm sz st l).length<=st.length+l.length
 | [],st,_,h2,h3=>⟨h2,h3,Nat.le_refl _⟩
 | r :: l,st,h1,h2,h3=>by
  rw [madeL]
  by_cases h:(atL st (nameK r.n) (verK r.v)).isSome=true
  ·rw [if_pos h]
   obtain ⟨a,b,c⟩:=made_good sm sz l st (fun x hx=>h1 x (by simp [hx])) h2 h3
   exact ⟨a,b,by rw [List.length_cons];omega⟩
  ·rw [if_neg h]
   obtain ⟨k1,k2,k3,k4⟩:=h1 r (by simp)
   have hn:atL st (nameK r.n) (verK r.v)=none:=by simpa using h
   obtain ⟨n1,n2,n3⟩:=ndsK_good (nameK r.n) r.needs [] List.Pairwise.nil (fun _ h=>by cases h)
   obtain ⟨a,b,c⟩:=made_good sm sz l (st++[⟨nameK r.n,verK r.v,sm r,sz r,ndsK (nameK r.n) r.needs⟩]) (fun x hx=>h1 x (by simp [hx])) (fun x hx=>by
    rcases List.mem_append.1 hx with hx | hx
    ·exact h2 x hx
    ·obtain rfl:x=_:=by simpa using hx
     exact ⟨nameK_good _,by rw [verT_K,verK_good],by rw [verT_K];exact verTK_word _,k1,⟨k2,k3⟩,n2,n1,by
      have:(ndsK (nameK r.n) r.needs).length<=0+r.needs.length:=n3
      show (ndsK (nameK r.n) r.needs).length<=20
      omega⟩) (h3.snoc (by rw [List.nil_append];exact hn))
   refine ⟨a,b,?_⟩
   rw [List.length_append] at c
   rw [List.length_cons]
   simp at c
   omega
structure Fl where
 path:List UInt8
 dir:Bool
 b:List UInt8
deriving DecidableEq
def libT:List UInt8:=[108,105,98]
def buildT:List UInt8:=[98,117,105,108,100,46,104,115]
def bigT:List UInt8:=[98,105,103]
def scriptK (k:Nat):List UInt8 :=
 if k=1 then [119,114,105,116,101,32,111,117,116,32,34,98,117,105,108,116,32,36,110,97,109,101,32,36,118,101,114,115,105,111,110,34,10]
 else if k=2 then [109,107,100,105,114,32,98,105,110,10,114,101,112,101,97,116,32,51,10,97,112,112,101,110,100,32,98,105,110,47,114,117,110,32,34,36,110,97,109,101,34,10,101,110,100,10,114,101,109,111,118,101,32,108,105,98,10]
 else if k=3 then [105,102,32,101,120,105,115,116,115,32,108,105,98,10,114,101,110,97,109,101,32,108,105,98,32,115,114,99,10,101,108,115,101,10,102,97,105,108,32,34,110,111,34,10,101,110,100,10]
 else if k=4 then [102,97,105,108,32,34,110,101,118,101,114,34,10]
 else if k=5 then [119,114,105,116,101,32,46,46,47,111,117,116,32,34,120,34,10]
 else if k=6 then [99,111,112,121,32,108,105,98,10]
 else if k=7 then [114,101,112,101,97,116,32,49,48,48,48,10,114,101,112,101,97,116,32,49,48,48,48,10,101,110,100,10,101,110,100,10]
 else []
def bigB:List UInt8:=(List.range 200).map UInt8.ofNat
def filesK (r:SRow):List Fl :=
 [⟨libT,true,[]⟩,⟨libT++47 :: nameK r.n,false,nameK r.n++32 :: verTK r.v⟩]++(if r.kind % 10=8 then [⟨bigT,false,bigB⟩] else [])++(if scriptK (r.kind % 10)=[] then [] else [⟨buildT,false,scriptK (r.kind % 10)⟩])
def numB8 (n:Nat):Nat->List UInt8
 | 0=>[]
 | k+1=>UInt8.ofNat (n / 256 ^ k) :: numB8 n k
theorem numB8_length (n:Nat):∀ k,(numB8 n k).length=k
 | 0=>rfl
 | k+1=>by rw [numB8,List.length_cons,numB8_length n k]
def packF (f:Fl):List UInt8:=(if f.dir then 1 else 0) :: (numB8 (f.path.take 65535).length 2++(f.path.take 65535++(if f.dir then [] else numB8 f.b.length 8++f.b)))
def pakT:List UInt8:=[80,65,75,49]
def packA (l:List Fl):List UInt8:=pakT++(l.flatMap packF++[255])
def archK (r:SRow):List UInt8:=packA (filesK r)++(if r.kind % 10=9 then [7] else [])
def smK (r:SRow):List UInt8:=if r.lie % 12=1 then (sumF (archK r)).set 3 ((sumF (archK r)).getD 3 0 ^^^ 4) else if r.lie % 12=4 then sumF [] else sumF (archK r)
def szK (r:SRow):Int:=if r.lie % 12=2 then (archK r).length+9 else if r.lie % 12=3 then (if (archK r).length < 9 then 0 else (archK r).length - 9) else if r.lie % 12=4 then 0 else (archK r).length
def rowK (r:SRow):Rw:=⟨nameK r.n,verK r.v,smK r,szK r,ndsK (nameK r.n) r.needs⟩
def keptK:List SRow->List SRow->List SRow
 | st,[]=>st
 | st,r :: l=>keptK (if (atL (st.map rowK) (nameK r.n) (verK r.v)).isSome then st else st++[r]) l
theorem kept_made:∀ (l st:List SRow),madeL smK szK (st.map rowK) l=(keptK st l).map rowK
 | [],st=>rfl
 | r :: l,st=>by
  rw [madeL,keptK]
  by_cases h:(atL (st.map rowK) (nameK r.n) (verK r.v)).isSome=true
  ·rw [if_pos h,if_pos h]
   exact kept_made l st
  ·rw [if_neg h,if_neg h,<- kept_made l (st++[r]),List.map_append]
   rfl
theorem kept_snoc (l st:List SRow) (r:SRow):keptK st (l++[r])=if (atL ((keptK st l).map rowK) (nameK r.n) (verK r.v)).isSome then keptK st l else keptK st l++[r]:=by
 induction l generalizing st with
 | nil=>rfl
 | cons x l ih=>exact ih _
theorem kept_length:∀ (l st:List SRow),(keptK st l).length<=st.length+l.length
 | [],st=>Nat.le_refl _
 | r :: l,st=>by
  rw [keptK]
  rw [List.length_cons]
  by_cases h:(atL (st.map rowK) (nameK r.n) (verK r.v)).isSome=true
  ·rw [if_pos h]
   have:=kept_length l st
   omega
  ·rw [if_neg h]
   have:=kept_length l (st++[r])
   rw [List.length_append,List.length_singleton] at this
   omega
theorem kept_mem:∀ (l st:List SRow) (x:SRow),x ∈ keptK st l->x ∈ st\/x ∈ l
 | [],st,x,h=>.inl h
 | r :: l,st,x,h=>by
  rw [keptK] at h
  rcases kept_mem l _ x h with h | h
  ·split at h
   ·exact .inl h
   ·rcases List.mem_append.1 h with h | h
    ·exact .inl h
    ·exact .inr (by simp at h;simp [h])
  ·exact .inr (by simp [h])
theorem scriptK_le (k:Nat):(scriptK k).length<=100:=by
 unfold scriptK
 repeat' split
 all_goals decide
theorem verTK_le (k:Nat):(verTK k).length<=9:=by
 have h:∀ k:Fin 6,(verTK k.1).length<=9:=by decide +kernel
 have:=h ⟨k % 6,Nat.mod_lt _ (by omega)⟩
 unfold verTK at *
 dsimp only at this
 rw [Nat.mod_mod] at this
 exact this
theorem packF_le (f:Fl) (hp:f.path.length<=20) (hb:f.b.length<=300):(packF f).length<=340:=by
 unfold packF
 rw [List.length_cons,List.length_append,numB8_length,List.length_append,List.length_take]
 split
 ·simp;omega
 ·rw [List.length_append,numB8_length];omega
theorem bigB_length:bigB.length=200:=by unfold bigB;rw [List.length_map,List.length_range]
theorem archK_le (r:SRow):(archK r).length<=2000:=by
 have h1:=scriptK_le (r.kind % 10)
 have h2:=verTK_le r.v
 have hb:=bigB_length
 have hf:∀ f ∈ filesK r,(packF f).length<=340:=fun f hf=>by
  unfold filesK at hf
  rw [List.mem_append,List.mem_append] at hf
  rcases hf with (hf | hf) | hf
  ·simp only [List.mem_cons,List.not_mem_nil,or_false] at hf
   rcases hf with rfl | rfl
   ·exact packF_le _ (by decide) (by simp)
   ·exact packF_le _ (by simp [libT,nameK]) (by simp [nameK];omega)
  ·split at hf
   ·obtain rfl:=List.mem_singleton.1 hf
    exact packF_le _ (by decide) (by show bigB.length<=300;omega)
   ·cases hf
  ·split at hf
   ·cases hf
   ·obtain rfl:=List.mem_singleton.1 hf
    exact packF_le _ (by show buildT.length<=20;decide) (by show (scriptK (r.kind % 10)).length<=300;omega)
 have hn:(filesK r).length<=4:=by
  unfold filesK
  rw [List.length_append,List.length_append]
  have a1:(if r.kind % 10=8 then [(⟨bigT,false,bigB⟩:Fl)] else []).length<=1:=by split <;> simp
  have a2:(if scriptK (r.kind % 10)=[] then [] else [(⟨buildT,false,scriptK (r.kind % 10)⟩:Fl)]).length<=1:=by split <;> simp
  simp only [List.length_cons,List.length_nil]
  omega
 have hs:∀ l:List Fl,(∀ f ∈ l,(packF f).length<=340)->(l.flatMap packF).length<=340*l.length:=by
  intro l
  induction l with
  | nil=>intro _;simp
  | cons f l ih =>
   intro h
   rw [List.flatMap_cons,List.length_append,List.length_cons]
   have:=ih (fun g hg=>h g (by simp [hg]))
   have:=h f (by simp)
   omega
 have:=hs _ hf
 have hz:(if r.kind % 10=9 then [(7:UInt8)] else []).length<=1:=by split <;> simp
 unfold archK packA
 rw [List.length_append,List.length_append,List.length_append]
 have e1:pakT.length=4:=rfl
 have e2:([255]:List UInt8).length=1:=rfl
 omega
theorem rowK_facts (r:SRow) (hn:r.needs.length<=20):(smK r).length=32/\0<=szK r/\szK r<=262144/\r.needs.length<=20:=by
 have h:=archK_le r
 refine ⟨?_,?_,?_,hn⟩
 ·unfold smK
  split
  ·rw [List.length_set,sumF_length]
  ·split <;> rw [sumF_length]
 ·unfold szK
  repeat' split
  all_goals omega
 ·unfold szK
  repeat' split
  all_goals omega
theorem ndsK_mem (name:List UInt8):∀ (l:List Nat) (a:List Nd) (n:Nd),n ∈ l.foldl (fun a x=>if (ndK x).name=name\/(ndK x).name ∈ a.map Nd.name then a else insR (ltNd (ndK x)) (ndK x) a) a->n ∈ a\/∃ x,n=ndK x
 | [],_,_,h=>.inl h
 | x :: l,a,n,h=>by
  rw [List.foldl_cons] at h
  rcases ndsK_mem name l _ n h with h | h
  ·split at h
   ·exact .inl h
   ·rcases (insR_mem _ _ _ _).1 h with h | h
    ·exact .inr ⟨x,h⟩
    ·exact .inl h
  ·exact .inr h
theorem spanTK_le25 (k:Nat):(spanTK k).length<=25:=by
 have h:∀ k:Fin 10,(spanTK k.1).length<=25:=by decide +kernel
 have:=h ⟨k % 10,Nat.mod_lt _ (by omega)⟩
 unfold spanTK at *
 dsimp only at this
 rw [Nat.mod_mod] at this
 exact this
theorem flat_le {α:Type} {f:α->List UInt8} {c:Nat}:∀ (l:List α),(∀ x ∈ l,(f x).length<=c)->(l.flatMap f).length<=c*l.length
 | [],_=>by simp
 | x :: l,h=>by
  rw [List.flatMap_cons,List.length_append,List.length_cons]
  have:=flat_le l (fun y hy=>h y (by simp [hy]))
  have:=h x (by simp)
  rw [Nat.mul_succ]
  omega
theorem dec_le6 {n:Nat} (h:n<=262144):(decT n).length<=6:=by
 obtain ⟨a,b,c,d⟩:=decT_all n
 exact d 5 (by omega)
theorem rowK_text (r:SRow) (hn:r.needs.length<=4):(rowT (rowK r)).length<=400:=by
 obtain ⟨h1,h2,h3,-⟩:=rowK_facts r (by omega)
 obtain ⟨-,-,n3⟩:=ndsK_good (nameK r.n) r.needs [] List.Pairwise.nil (fun n hn=>by cases hn)
 have n3':(ndsK (nameK r.n) r.needs).length<=0+r.needs.length:=n3
 have hv:verT (verK r.v)=verTK r.v:=verT_K _
 have hvl:=verTK_le r.v
 have hd:(decT (szK r).toNat).length<=6:=dec_le6 (by omega)
 have hf:=flat_le (f:=needT') (c:=33) (sortR ltNd (ndsK (nameK r.n) r.needs)) (fun n hn=>by
  have hn2:n ∈ ndsK (nameK r.n) r.needs:=(sortR_mem _ _ _).1 hn
  rcases ndsK_mem (nameK r.n) r.needs [] n hn2 with h | ⟨x,rfl⟩
  ·cases h
  ·have:=spanTK_le25 (x / 6 % 10)
   show (needT++32 :: (nameK (x % 6)++32 :: (spanTK (x / 6 % 10)++[10]))).length<=33
   simp [nameK,needT]
   omega)
 rw [sortR_length] at hf
 have hp:(packT' (rowK r)).length<=100:=by
  show (packT++32 :: (nameK r.n++32 :: (verT (verK r.v)++32 :: (hexL (smK r)++32 :: (decT (szK r).toNat++[10]))))).length<=100
  rw [hv]
  have:=hexL_length (smK r)
  simp [nameK,packT]
  omega
 show (packT' (rowK r)++(sortR ltNd (ndsK (nameK r.n) r.needs)).flatMap needT').length<=400
 rw [List.length_append]
 omega
theorem kept_text (l:List SRow) (hl:l.length<=20) (h:∀ r ∈ l,r.needs.length<=4):(indexT ((keptK [] l).map rowK)).length<=8000:=by
 have h1:=kept_length l []
 rw [List.length_nil,Nat.zero_add] at h1
 have h2:=flat_le (f:=rowT) (c:=400) ((keptK [] l).map rowK) (fun x hx=>by
  obtain ⟨r,hr,rfl⟩:=List.mem_map.1 hx
  rcases kept_mem l [] r hr with h' | h'
  ·cases h'
  ·exact rowK_text r (h r h'))
 rw [List.length_map] at h2
 show (((keptK [] l).map rowK).flatMap rowT).length<=8000
 omega
theorem Sl.block {X:Nat->Prop} {w:World} {e:TypeId} {b o n c:Nat} {xs:List Value} (h:Sl w X e (.slice (some ⟨b,o,none⟩) n c) n xs):∃ cur fz,w.heap[b]? = some (.cells cur e fz):=by
 rcases h with ⟨h,_⟩ | ⟨blk,o',c0,cur,fz,hv,hn,hc,hX,hh,hl,hr⟩
 ·cases h
 ·cases hv;exact ⟨cur,fz,hh⟩
theorem Mod.cell1 (w:World) (b i:Nat) (v:Value):Mod (fun p=>p=b) w (w.setCell ⟨b,i,none⟩ v):=Mod.setCell (S:=fun p=>p=b) (p:=⟨b,i,none⟩) (Mod.refl _ w) (fun _=>rfl) v
theorem Mod.no {S:Nat->Prop} {w w':World} (h:Mod No w w'):Mod S w w':=h.weaken (fun _ _ f=>f.elim)
theorem cells4 {w:World} {b:Nat} {v0 v1 v2 v3:Value} {e:TypeId} (h:w.heap[b]? = some (.cells #[v0,v1,v2,v3] e (0,0))) :
  (w.cell? ⟨b,0,none⟩=some v0/\w.cell? ⟨b,1,none⟩=some v1/\w.cell? ⟨b,2,none⟩=some v2/\w.cell? ⟨b,3,none⟩=some v3)/\w.frozen? ⟨b,0,none⟩=false/\w.frozen? ⟨b,1,none⟩=false/\w.frozen? ⟨b,2,none⟩=false/\w.frozen? ⟨b,3,none⟩=false :=
 ⟨⟨cell_ofA h rfl,cell_ofA h rfl,cell_ofA h rfl,cell_ofA h rfl⟩,frozen_of _ h,frozen_of _ h,frozen_of _ h,frozen_of _ h⟩
theorem set4 {w:World} {b:Nat} {u0 u1 u2 u3:Value} {e:TypeId} (h:w.heap[b]? = some (.cells #[u0,u1,u2,u3] e (0,0))) (v0 v1 v2 v3:Value) :
  ((((w.setCell ⟨b,0,none⟩ v0).setCell ⟨b,1,none⟩ v1).setCell ⟨b,2,none⟩ v2).setCell ⟨b,3,none⟩ v3).heap[b]? = some (.cells #[v0,v1,v2,v3] e (0,0)):=by
 rw [heap_setCell (heap_setCell (heap_setCell (heap_setCell h v0) v1) v2) v3]
 rfl
theorem Mod.set4 {S:Nat->Prop} {a w:World} {b:Nat} (h:Mod S a w) (hb:b < a.heap.size->S b) (v0 v1 v2 v3:Value) :
  Mod S a ((((w.setCell ⟨b,0,none⟩ v0).setCell ⟨b,1,none⟩ v1).setCell ⟨b,2,none⟩ v2).setCell ⟨b,3,none⟩ v3) :=
 (((h.setCell hb v0).setCell hb v1).setCell hb v2).setCell hb v3
set_option maxRecDepth 100000 in
theorem load_ver {w:World} {b:Nat} {v0 v1 v2 v3:Value} (h:w.heap[b]? = some (.cells #[v0,v1,v2,v3] 40 (0,0))) :
  (loadVar 40 ⟨b,0,none⟩).run prog w=.ok (.agg #[v0,v1,v2,v3]) w :=
 run_loadVar_row (P:=prog) w b 40 40 #[v0,v1,v2,v3] (0,0) _ h underlying40 rfl (by kernel_rfl)
theorem flat_length {α:Type} {f:α->List Value} {wd:Nat} (hf:∀ x,(f x).length=wd):∀ xs:List α,(xs.flatMap f).length=xs.length*wd
 | []=>by simp
 | x :: xs=>by
  rw [List.flatMap_cons,List.length_append,hf,flat_length hf xs,List.length_cons,Nat.succ_mul,Nat.add_comm]
theorem flat_get {α:Type} {f:α->List Value} {wd:Nat} (hf:∀ x,(f x).length=wd):∀ (xs:List α) {i:Nat} (hi:i < xs.length) {j:Nat} {u:Value},(f xs[i])[j]? = some u->(xs.flatMap f)[i*wd+j]? = some u
 | x :: xs,0,_,j,u,hj=>by
  have hj2:(f x)[j]? = some u:=hj
  have hlt:j < (f x).length:=(List.getElem?_eq_some_iff.1 hj2).1
  rw [List.flatMap_cons,Nat.zero_mul,Nat.zero_add,List.getElem?_append_left hlt,hj2]
 | x :: xs,i+1,hi,j,u,hj=>by
  have hj2:(f (xs[i]'(by simpa using hi)))[j]? = some u:=hj
  rw [List.flatMap_cons,List.getElem?_append_right (by rw [hf,Nat.succ_mul];omega),hf,show (i+1)*wd+j - wd=i*wd+j by rw [Nat.succ_mul];omega]
  exact flat_get hf xs (by simpa using hi) hj2
theorem Sl.at {α:Type} {f:α->List Value} {wd:Nat} {X:Nat->Prop} {w:World} {e:TypeId} {b o n c:Nat} {xs:List α} (hf:∀ x,(f x).length=wd) (h:Sl w X e (.slice (some ⟨b,o,none⟩) n c) n (xs.flatMap f)) {i:Nat} (hi:i < xs.length):w.rangeAt b (o+i*wd) (f xs[i]):=fun j u hj=>by
 have h1:=flat_get hf xs hi hj
 have h2:=Sl.cell h (List.getElem?_eq_some_iff.1 h1).1
 rw [Nat.add_assoc]
 rw [<- h1]
 exact h2
theorem rangeAt_part {w:World} {b o:Nat} {p q r:List Value} (h:w.rangeAt b o (p++q++r)):w.rangeAt b (o+p.length) q:=fun j u hj=>by
 have:=h (p.length+j) u (by
  rw [List.append_assoc,List.getElem?_append_right (by omega),show p.length+j - p.length=j by omega,List.getElem?_append_left (List.getElem?_eq_some_iff.1 hj).1,hj])
 rw [Nat.add_assoc]
 exact this
theorem Mod.rangeAt {S:Nat->Prop} {w w':World} (hm:Mod S w w') {b o:Nat} {cs:List Value} (h:w.rangeAt b o cs) (hs:¬ S b):w'.rangeAt b o cs:=fun j u hj=>hm.cell (h j u hj) hs
def Apart (ts:List TypeId) (S:Nat->Prop) (w:World):Prop:=∀ k cur fz e,S k->w.heap[k]? = some (.cells cur e fz)->e ∉ ts
theorem Apart.no (ts:List TypeId) (w:World):Apart ts No w:=fun _ _ _ _ f=>f.elim
theorem Apart.less {ts us:List TypeId} {S:Nat->Prop} {w:World} (h:Apart ts S w) (hs:∀ e ∈ us,e ∈ ts):Apart us S w:=fun k cur fz e hk hc he=>h k cur fz e hk hc (hs e he)
theorem Sl.apart {S:Nat->Prop} {w w':World} {e:TypeId} {v:Value} {n:Nat} {xs:List Value} (h:Sl w No e v n xs) (hm:Mod S w w') (ha:Apart [e] S w):Sl w' No e v n xs :=
 h.keep hm fun k cur fz hk _ hc=>ha k cur fz e hk hc (by simp)
abbrev SsAt (w:World) (v:Value) (l:List (List UInt8)):Prop:=Sl w No 9 v l.length (strs l)
abbrev verCs (v:Ver) (pv:Value):List Value:=[.int .i64 v.ma,.int .i64 v.mi,.int .i64 v.pa,pv]
structure BndX where
 b:Bnd
 pv:Value
def BndX.cells (x:BndX):List Value:=strV x.b.sign :: verCs x.b.v x.pv
theorem BndX.cells_length (x:BndX):x.cells.length=5:=rfl
def BndsX (X:Nat->Prop) (w:World) (v:Value) (l:List Bnd):Prop:=∃ xs:List BndX,xs.map BndX.b=l/\(∀ x ∈ xs,Sl w X 9 x.pv x.b.v.pre.length (strs x.b.v.pre))/\Sl w X 153 v l.length (xs.flatMap BndX.cells)
abbrev BndsAt (w:World) (v:Value) (l:List Bnd):Prop:=BndsX No w v l
theorem BndsX.shrink {X Y:Nat->Prop} {w:World} {v:Value} {l:List Bnd} (h:BndsX X w v l) (hy:∀ k,k < w.heap.size->Y k->X k):BndsX Y w v l:=by
 obtain ⟨xs,h1,h2,h3⟩:=h
 exact ⟨xs,h1,fun x hx=>(h2 x hx).shrink hy,h3.shrink hy⟩
theorem BndsX.no {X:Nat->Prop} {w:World} {v:Value} {l:List Bnd} (h:BndsX X w v l):BndsAt w v l:=h.shrink (fun _ _ f=>f.elim)
theorem BndsX.keepX {X S:Nat->Prop} {w w':World} {v:Value} {l:List Bnd} (h:BndsX X w v l) (hm:Mod S w w') (hs:∀ k cur fz e,S k->¬ X k->w.heap[k]? ≠ some (.cells cur e fz)):BndsX X w' v l:=by
 obtain ⟨xs,h1,h2,h3⟩:=h
 exact ⟨xs,h1,fun x hx=>(h2 x hx).keep hm (fun k cur fz a b=>hs k cur fz _ a b),h3.keep hm (fun k cur fz a b=>hs k cur fz _ a b)⟩
theorem BndsAt.keep {S:Nat->Prop} {w w':World} {v:Value} {l:List Bnd} (h:BndsAt w v l) (hm:Mod S w w') (ha:Apart [9,153] S w):BndsAt w' v l:=by
 obtain ⟨xs,h1,h2,h3⟩:=h
 exact ⟨xs,h1,fun x hx=>(h2 x hx).apart hm (ha.less (by simp)),h3.apart hm (ha.less (by simp))⟩
theorem sl_new (w:World) (e:TypeId) (xs:List Value) {n c:Nat} (hn:n<=c) (hc:c<=maxLen):Sl (w.alloc (.cells xs.toArray e)) No e (.slice (some ⟨w.heap.size,0,none⟩) n c) n xs :=
 .inr ⟨w.heap.size,0,c,_,(0,0),rfl,hn,hc,fun f=>f,heap_alloc_new w _,by simp,fun i hi=>by simp⟩
theorem ss_alloc {w:World} {v:Value} {l:List (List UInt8)} (h:SsAt w v l) (o:Obj):SsAt (w.alloc o) v l:=Sl.keep (S:=No) h ((Mod.refl No w).alloc _) (fun _ _ _ f=>f.elim)
theorem bndsX_new {X:Nat->Prop} (w:World) (xs:List BndX) (h:∀ x ∈ xs,Sl w X 9 x.pv x.b.v.pre.length (strs x.b.v.pre)) (hn:xs.length<=maxLen) (hx:¬ X w.heap.size) :
  BndsX X (w.alloc (.cells (xs.flatMap BndX.cells).toArray 153)) (.slice (some ⟨w.heap.size,0,none⟩) xs.length xs.length) (xs.map BndX.b) :=
 ⟨xs,rfl,fun x hx=>Sl.keep (S:=No) (h x hx) ((Mod.refl No w).alloc _) (fun _ _ _ f=>f.elim),by
  rw [List.length_map]
  exact .inr ⟨w.heap.size,0,_,_,(0,0),rfl,Nat.le_refl _,hn,hx,heap_alloc_new w _,by simp,fun i hi=>by simp⟩⟩
theorem bnds_new (w:World) (xs:List BndX) (h:∀ x ∈ xs,SsAt w x.pv x.b.v.pre) (hn:xs.length<=maxLen) :
  BndsAt (w.alloc (.cells (xs.flatMap BndX.cells).toArray 153)) (.slice (some ⟨w.heap.size,0,none⟩) xs.length xs.length) (xs.map BndX.b) :=
 ⟨xs,rfl,fun x hx=>ss_alloc (h x hx) _,by rw [List.length_map];exact sl_new w _ _ (Nat.le_refl _) hn⟩
structure OrX where
 l:List Bnd
 v:Value
def OrsAt (w:World) (v:Value) (l:List (List Bnd)):Prop:=∃ xs:List OrX,xs.map OrX.l=l/\(∀ x ∈ xs,BndsAt w x.v x.l)/\Sl w No 126 v l.length (xs.map OrX.v)
theorem OrsAt.keep {S:Nat->Prop} {w w':World} {v:Value} {l:List (List Bnd)} (h:OrsAt w v l) (hm:Mod S w w') (ha:Apart [9,153,126] S w):OrsAt w' v l:=by
 obtain ⟨xs,h1,h2,h3⟩:=h
 exact ⟨xs,h1,fun x hx=>(h2 x hx).keep hm (ha.less (by simp)),h3.apart hm (ha.less (by simp))⟩
structure NdX where
 n:Nd
 ov:Value
def NdX.cells (x:NdX):List Value:=[strV x.n.name,.bool x.n.span.any,x.ov,strV x.n.text]
theorem NdX.cells_length (x:NdX):x.cells.length=4:=rfl
def NdsAt (w:World) (v:Value) (l:List Nd):Prop:=∃ xs:List NdX,xs.map NdX.n=l/\(∀ x ∈ xs,OrsAt w x.ov x.n.span.ors)/\Sl w No 81 v l.length (xs.flatMap NdX.cells)
theorem NdsAt.keep {S:Nat->Prop} {w w':World} {v:Value} {l:List Nd} (h:NdsAt w v l) (hm:Mod S w w') (ha:Apart [9,153,126,81] S w):NdsAt w' v l:=by
 obtain ⟨xs,h1,h2,h3⟩:=h
 exact ⟨xs,h1,fun x hx=>(h2 x hx).keep hm (ha.less (by simp)),h3.apart hm (ha.less (by simp))⟩
structure RwX where
 r:Rw
 pv:Value
 nv:Value
def RwX.cells (x:RwX):List Value:=strV x.r.name :: (verCs x.r.v x.pv++(bv x.r.sum++[.int .i64 x.r.size,x.nv]))
theorem RwX.cells_length (x:RwX) (h:x.r.sum.length=32):x.cells.length=39:=by simp [RwX.cells,h]
theorem flat_getM {α:Type} {f:α->List Value} {wd:Nat}:∀ (xs:List α) (_:∀ x ∈ xs,(f x).length=wd) {i:Nat} (hi:i < xs.length) {j:Nat} {u:Value},(f xs[i])[j]? = some u->(xs.flatMap f)[i*wd+j]? = some u
 | x :: xs,hf,0,_,j,u,hj=>by
  have hj2:(f x)[j]? = some u:=hj
  have hlt:j < (f x).length:=(List.getElem?_eq_some_iff.1 hj2).1
  rw [List.flatMap_cons,Nat.zero_mul,Nat.zero_add,List.getElem?_append_left hlt,hj2]
 | x :: xs,hf,i+1,hi,j,u,hj=>by
  have hj2:(f (xs[i]'(by simpa using hi)))[j]? = some u:=hj
  have h1:=hf x (by simp)
  rw [List.flatMap_cons,List.getElem?_append_right (by rw [h1,Nat.succ_mul];omega),h1,show (i+1)*wd+j - wd=i*wd+j by rw [Nat.succ_mul];omega]
  exact flat_getM xs (fun y hy=>hf y (by simp [hy])) (by simpa using hi) hj2
theorem Sl.atM {α:Type} {f:α->List Value} {wd:Nat} {X:Nat->Prop} {w:World} {e:TypeId} {b o n c:Nat} {xs:List α} (hf:∀ x ∈ xs,(f x).length=wd) (h:Sl w X e (.slice (some ⟨b,o,none⟩) n c) n (xs.flatMap f)) {i:Nat} (hi:i < xs.length):w.rangeAt b (o+i*wd) (f xs[i]):=fun j u hj=>by
 have h1:=flat_getM xs hf hi hj
 have h2:=Sl.cell h (List.getElem?_eq_some_iff.1 h1).1
 rw [Nat.add_assoc]
 rw [<- h1]
 exact h2
theorem flat_takeM {α:Type} {f:α->List Value} {wd:Nat} {L:List α} (hf:∀ x ∈ L,(f x).length=wd) (k:Nat):(L.take k).flatMap f=(L.flatMap f).take (k*wd):=by
 induction L generalizing k with
 | nil=>simp
 | cons x L ih =>
  cases k with
  | zero=>simp
  | succ k =>
   have h1:=hf x (by simp)
   rw [List.take_succ_cons,List.flatMap_cons,List.flatMap_cons,ih (fun y hy=>hf y (by simp [hy])),Nat.succ_mul,List.take_append,h1,Nat.add_sub_cancel,List.take_of_length_le (l:=f x) (by rw [h1];omega)]
theorem flat_dropM {α:Type} {f:α->List Value} {wd:Nat} {L:List α} (hf:∀ x ∈ L,(f x).length=wd) (k:Nat):(L.drop k).flatMap f=(L.flatMap f).drop (k*wd):=by
 induction L generalizing k with
 | nil=>simp
 | cons x L ih =>
  cases k with
  | zero=>simp
  | succ k =>
   have h1:=hf x (by simp)
   rw [List.drop_succ_cons,List.flatMap_cons,ih (fun y hy=>hf y (by simp [hy])),Nat.succ_mul,List.drop_append,h1,Nat.add_sub_cancel,List.drop_of_length_le (l:=f x) (by rw [h1];omega),List.nil_append]
structure VerOk (v:Ver):Prop where
 ma:0<=v.ma/\v.ma<=999999999
 mi:0<=v.mi/\v.mi<=999999999
 pa:0<=v.pa/\v.pa<=999999999
theorem wrap_small {x:Int} (h:0<=x/\x<=1000000000):wrap64 x=x:=by
 unfold wrap64
 omega
theorem refmore_any (x:Int) (hx:0<=x/\x<=999999999) (w:World):Calls prog 134 #[.int .i64 x] w fun e w'=>e=.returned (.int .i64 (if x < 999999999 then x+1 else x))/\w'=w:=by
 refine calls_hide fun R hR=>?_
 have hw:=wrap_small (x:=x+1) (by omega)
 go_enter func134,ntmps134
 by_cases h:x < 999999999
 ·have h2:¬ (999999999:Int)<=x:=by omega
  go_wp2_with fail
  exact fin hR ⟨(by rw [if_pos (by omega)];try rfl),rfl⟩
 ·have h2:(999999999:Int)<=x:=by omega
  go_wp2_with fail
  exact fin hR ⟨(by rw [if_neg (by omega)];try rfl),rfl⟩
set_option maxRecDepth 100000 in
set_option maxHeartbeats 4000000 in
theorem refnext_any (v:Ver) (pv:Value) (p:Nat) (hp:p < 3) (hv:VerOk v) (w:World) :
  Calls prog 102 #[verV v pv,.int .i64 (p:Int)] w fun e w'=>e=.returned (verV (nextV v p) (.slice none 0 0))/\Mod No w w':=by
 refine calls_hide fun R hR=>?_
 obtain ⟨a,b,c,pre⟩:=v
 obtain ⟨⟨ha0,ha1⟩,⟨hb0,hb1⟩,⟨hc0,hc1⟩⟩:=hv
 dsimp only at ha0 ha1 hb0 hb1 hc0 hc1
 have hwa:=wrap_small (x:=a+1) (by omega)
 have hwb:=wrap_small (x:=b+1) (by omega)
 have HMORE:=zh (refmore_any c ⟨hc0,hc1⟩)
 have HNX:=zh (show nextV ⟨a,b,c,pre⟩ p=if p=0 then (if a < 999999999 then ⟨a+1,0,0,[]⟩ else ⟨a,b,c,[]⟩) else if p=1 then (if b < 999999999 then ⟨a,b+1,0,[]⟩ else ⟨a,b,c,[]⟩) else (if c < 999999999 then ⟨a,b,c+1,[]⟩ else ⟨a,b,c,[]⟩) from rfl)
 unfold verV at *
 dsimp only at *
 go_enter func102,ntmps102
 go_upto_region 1 with fail
 obtain ⟨gx,hgx⟩:∃ g,g=w.heap.size:=⟨_,rfl⟩
 obtain ⟨gy,hgy⟩:∃ g,g=gx+1:=⟨_,rfl⟩
 rw [<- hgx,<- hgy]
 obtain ⟨wA,hwA⟩:∃ z,z=(w.alloc (.cells #[.int .i64 a,.int .i64 b,.int .i64 c,pv] 40)).alloc (.cells #[.int .i64 0,.int .i64 0,.int .i64 0,.slice none 0 0] 40):=⟨_,rfl⟩
 have hx1:wA.heap[gx]? = some (.cells #[.int .i64 a,.int .i64 b,.int .i64 c,pv] 40 (0,0)):=by rw [hwA,hgx];exact heap_alloc_old _ (heap_alloc_new w _)
 have hy1:wA.heap[gy]? = some (.cells #[.int .i64 0,.int .i64 0,.int .i64 0,.slice none 0 0] 40 (0,0)):=by
  rw [hwA,hgy,hgx]
  have h1:=heap_alloc_new (w.alloc (.cells #[.int .i64 a,.int .i64 b,.int .i64 c,pv] 40)) (.cells #[.int .i64 0,.int .i64 0,.int .i64 0,.slice none 0 0] 40)
  rw [show (w.alloc (.cells #[.int .i64 a,.int .i64 b,.int .i64 c,pv] 40)).heap.size=w.heap.size+1 by simp] at h1
  exact h1
 have HMA:=zh (show Mod No w wA by rw [hwA];exact ((Mod.refl No w).alloc _).alloc _)
 have HGX:=zh (show w.heap.size<=gx by omega)
 have HGY:=zh (show gx < gy by omega)
 rw [<- hwA]
 have HX1:=zh hx1
 have HY1:=zh hy1
 obtain ⟨⟨a0,a1,a2,a3⟩,f0,f1,f2,f3⟩:=cells4 hx1
 clear hwA hgx hgy hx1 hy1
 go_upto_region 2 with fail
 clear a0 a1 a2 a3 f0 f1 f2 f3
 have HX2:=zh (show (wA.setCell ⟨gx,3,none⟩ (.slice none 0 0)).heap[gx]? = some (.cells #[.int .i64 a,.int .i64 b,.int .i64 c,.slice none 0 0] 40 (0,0)) by rw [heap_setCell HX1.out];rfl)
 have HY2:=zh (show (wA.setCell ⟨gx,3,none⟩ (.slice none 0 0)).heap[gy]? = some (.cells #[.int .i64 0,.int .i64 0,.int .i64 0,.slice none 0 0] 40 (0,0)) by rw [heap_setCell_ne _ (by have:=HGY.out;dsimp only;omega)];exact HY1.out)
 have HM2:=zh (show Mod No w (wA.setCell ⟨gx,3,none⟩ (.slice none 0 0)) from HMA.out.setCell (fun h=>by have:=HGX.out;dsimp only at h;omega) _)
 generalize wA.setCell ⟨gx,3,none⟩ (.slice none 0 0)=wB at *
 clear HX1 HY1 HMA
 obtain ⟨⟨c0,c1,c2,c3⟩,f0,f1,f2,f3⟩:=cells4 HX2.out
 obtain ⟨⟨d0,d1,d2,d3⟩,g0,g1,g2,g3⟩:=cells4 HY2.out
 match p,hp with
 | 0,_ =>
  have hnx:=HNX.out
  rw [if_pos rfl] at hnx
  by_cases h:a < 999999999
  ·rw [if_pos h] at hnx
   have HN:=zh hnx
   clear hnx HNX
   go_wp2_with fail
   have hl:=load_ver (set4 HY2.out (.int .i64 (a+1)) (.int .i64 0) (.int .i64 0) (.slice none 0 0))
   have HMz:=zh (HM2.out.set4 (b:=gy) (fun h=>by have:=HGX.out;have:=HGY.out;omega) (.int .i64 (a+1)) (.int .i64 0) (.int .i64 0) (.slice none 0 0))
   exact bodyPost_ret (v:=.agg #[.int .i64 (a+1),.int .i64 0,.int .i64 0,.slice none 0 0]) (by simp [results,results102,asAddr,hl]) rfl (fin hR ⟨by rw [HN.out],HMz.out⟩)
  ·rw [if_neg h] at hnx
   have HN:=zh hnx
   clear hnx HNX
   go_wp2_with fail
   have hl:=load_ver (set4 HY2.out (.int .i64 a) (.int .i64 b) (.int .i64 c) (.slice none 0 0))
   have HMz:=zh (HM2.out.set4 (b:=gy) (fun h=>by have:=HGX.out;have:=HGY.out;omega) (.int .i64 a) (.int .i64 b) (.int .i64 c) (.slice none 0 0))
   exact bodyPost_ret (v:=.agg #[.int .i64 a,.int .i64 b,.int .i64 c,.slice none 0 0]) (by simp [results,results102,asAddr,hl]) rfl (fin hR ⟨by rw [HN.out],HMz.out⟩)
 | 1,_ =>
  have hnx:=HNX.out
  rw [if_neg (by decide),if_pos rfl] at hnx
  by_cases h:b < 999999999
  ·rw [if_pos h] at hnx
   have HN:=zh hnx
   clear hnx HNX
   go_wp2_with fail
   have hl:=load_ver (set4 HY2.out (.int .i64 a) (.int .i64 (b+1)) (.int .i64 0) (.slice none 0 0))
   have HMz:=zh (HM2.out.set4 (b:=gy) (fun h=>by have:=HGX.out;have:=HGY.out;omega) (.int .i64 a) (.int .i64 (b+1)) (.int .i64 0) (.slice none 0 0))
   exact bodyPost_ret (v:=.agg #[.int .i64 a,.int .i64 (b+1),.int .i64 0,.slice none 0 0]) (by simp [results,results102,asAddr,hl]) rfl (fin hR ⟨by rw [HN.out],HMz.out⟩)
  ·rw [if_neg h] at hnx
   have HN:=zh hnx
   clear hnx HNX
   go_wp2_with fail
   have hl:=load_ver (set4 HY2.out (.int .i64 a) (.int .i64 b) (.int .i64 c) (.slice none 0 0))
   have HMz:=zh (HM2.out.set4 (b:=gy) (fun h=>by have:=HGX.out;have:=HGY.out;omega) (.int .i64 a) (.int .i64 b) (.int .i64 c) (.slice none 0 0))
   exact bodyPost_ret (v:=.agg #[.int .i64 a,.int .i64 b,.int .i64 c,.slice none 0 0]) (by simp [results,results102,asAddr,hl]) rfl (fin hR ⟨by rw [HN.out],HMz.out⟩)
 | 2,_ =>
  have HN:=zh (show nextV ⟨a,b,c,pre⟩ 2=⟨a,b,if c < 999999999 then c+1 else c,[]⟩ by
   have:=HNX.out
   rw [if_neg (by decide),if_neg (by decide)] at this
   rw [this]
   split <;> rfl)
  clear HNX
  go_wp2_with fail
  with_reducible refine (HMORE.out _).mono ?_
  rintro e wE ⟨rfl,hE⟩
  rw [hE]
  clear hE wE
  generalize (if c < 999999999 then c+1 else c)=r at *
  go_upto_region 11 with fail
  have HX3:=zh (show (wB.setCell ⟨gx,2,none⟩ (.int .i64 r)).heap[gx]? = some (.cells #[.int .i64 a,.int .i64 b,.int .i64 r,.slice none 0 0] 40 (0,0)) by rw [heap_setCell HX2.out];rfl)
  have HY3:=zh (show (wB.setCell ⟨gx,2,none⟩ (.int .i64 r)).heap[gy]? = some (.cells #[.int .i64 0,.int .i64 0,.int .i64 0,.slice none 0 0] 40 (0,0)) by rw [heap_setCell_ne _ (by have:=HGY.out;dsimp only;omega)];exact HY2.out)
  have HM3:=zh (show Mod No w (wB.setCell ⟨gx,2,none⟩ (.int .i64 r)) from HM2.out.setCell (fun h=>by have:=HGX.out;dsimp only at h;omega) _)
  generalize wB.setCell ⟨gx,2,none⟩ (.int .i64 r)=wC at *
  clear c0 c1 c2 c3 d0 d1 d2 d3 f0 f1 f2 f3 g0 g1 g2 g3 HX2 HY2 HM2
  obtain ⟨⟨c0,c1,c2,c3⟩,-⟩:=cells4 HX3.out
  obtain ⟨⟨d0,d1,d2,d3⟩,g0,g1,g2,g3⟩:=cells4 HY3.out
  go_wp2_with fail
  have hl:=load_ver (set4 HY3.out (.int .i64 a) (.int .i64 b) (.int .i64 r) (.slice none 0 0))
  have HMz:=zh (HM3.out.set4 (b:=gy) (fun h=>by have:=HGX.out;have:=HGY.out;omega) (.int .i64 a) (.int .i64 b) (.int .i64 r) (.slice none 0 0))
  exact bodyPost_ret (v:=.agg #[.int .i64 a,.int .i64 b,.int .i64 r,.slice none 0 0]) (by simp [results,results102,asAddr,hl]) rfl (fin hR ⟨by rw [HN.out],HMz.out⟩)
end Go.Proofs.YtgiigemfbebcgaaGreatDoor
