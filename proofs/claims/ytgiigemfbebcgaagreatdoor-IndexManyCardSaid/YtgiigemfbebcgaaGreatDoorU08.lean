/-
  Layers 0 to 14: helps of the laws of indexes. No statement is proved here; no condition.
-/
import Derived.Test.YtgiigemfbebcgaaGreatDoorU07
import Derived.Test.YtgiigemfbebcgaaGreatDoorU02
import Derived.Test.YtgiigemfbebcgaaGreatDoorU03
namespace Go.Proofs.YtgiigemfbebcgaaGreatDoor
open _root_.Go.Proofs.Tryz
open Go.RowKit
structure SRow where
 n:Nat
 v:Nat
 needs:List Nat
 kind:Nat
 lie:Nat
def nameK (k:Nat):List UInt8:=[UInt8.ofNat (97+k % 6)]
def verTexts:List (List UInt8):=[[49,46,48,46,48],[49,46,49,46,48],[50,46,48,46,48],[48,46,51,46,48],[49,46,48,46,48,45,120,46,49],[49,46,50,46,51]]
def verTK (k:Nat):List UInt8:=verTexts.getD (k % 6) []
def vers:List Ver:=[⟨1,0,0,[]⟩,⟨1,1,0,[]⟩,⟨2,0,0,[]⟩,⟨0,3,0,[]⟩,⟨1,0,0,[[120],[49]]⟩,⟨1,2,3,[]⟩]
def verK (k:Nat):Ver:=vers.getD (k % 6) ⟨0,0,0,[]⟩
def spanTexts:List (List UInt8):=[[42],[94,49,46,48,46,48],[126,49,46,48,46,48],[62,61,49,46,49,46,48],[50,46,48,46,48],[60,50,46,48,46,48],[94,48,46,51,46,48],
 [62,61,49,46,48,46,48,45,97,32,60,49,46,48,46,48,32,124,124,32,50,46,48,46,48],[49,46,48,46,48,45,120,46,49],[42]]
def spanTK (k:Nat):List UInt8:=spanTexts.getD (k % 10) []
def spanK (k:Nat):Spn:=(spanL (spanTK k)).getD ⟨true,[]⟩
theorem ver_all:∀ k:Fin 6,verOf (verTK k.1)=some (verK k.1):=by decide +kernel
theorem span_all:∀ k:Fin 10,(spanL (spanTK k.1)).isSome=true/\∀ d ∈ spanTK k.1,d ≠ 10:=by decide +kernel
theorem name_all:∀ k:Fin 6,nameB (nameK k.1)=true:=by decide +kernel
theorem nameK_good (k:Nat):nameB (nameK k)=true:=by
 have:=name_all ⟨k % 6,Nat.mod_lt _ (by omega)⟩
 unfold nameK at *
 dsimp only at this
 rw [Nat.mod_mod] at this
 exact this
theorem verK_good (k:Nat):verOf (verTK k)=some (verK k):=by
 have:=ver_all ⟨k % 6,Nat.mod_lt _ (by omega)⟩
 unfold verTK verK at *
 dsimp only at this
 rw [Nat.mod_mod] at this
 exact this
theorem spanK_good (k:Nat):spanL (spanTK k)=some (spanK k)/\∀ d ∈ spanTK k,d ≠ 10:=by
 have:=span_all ⟨k % 10,Nat.mod_lt _ (by omega)⟩
 have e:spanTK (k % 10)=spanTK k:=by unfold spanTK;rw [Nat.mod_mod]
 dsimp only at this
 rw [e] at this
 refine ⟨?_,this.2⟩
 obtain ⟨s,hs⟩:=Option.isSome_iff_exists.1 this.1
 unfold spanK
 rw [hs]
 rfl
theorem verT_K (k:Nat):verT (verK k)=verTK k:=by
 have h:k % 6 < 6:=Nat.mod_lt _ (by omega)
 have e1:verK k=vers.getD (k % 6) ⟨0,0,0,[]⟩:=rfl
 have e2:verTK k=verTexts.getD (k % 6) []:=rfl
 rw [e1,e2]
 match k % 6,h with
 | 0,_=>simp [vers,verTexts,verT,decT_small]
 | 1,_=>simp [vers,verTexts,verT,decT_small]
 | 2,_=>simp [vers,verTexts,verT,decT_small]
 | 3,_=>simp [vers,verTexts,verT,decT_small]
 | 4,_=>simp [vers,verTexts,verT,decT_small,joinC]
 | 5,_=>simp [vers,verTexts,verT,decT_small]
theorem verTK_word (k:Nat):(verTK k).all wordB=true:=by
 have h:∀ k:Fin 6,(verTK k.1).all wordB=true:=by decide +kernel
 have:=h ⟨k % 6,Nat.mod_lt _ (by omega)⟩
 unfold verTK at *
 dsimp only at this
 rw [Nat.mod_mod] at this
 exact this
def ndK (x:Nat):Nd:=⟨nameK (x % 6),spanK (x / 6 % 10),spanTK (x / 6 % 10)⟩
def ndsK (name:List UInt8) (l:List Nat):List Nd:=l.foldl (fun a x=>if (ndK x).name=name\/(ndK x).name ∈ a.map Nd.name then a else insR (ltNd (ndK x)) (ndK x) a) []
theorem ndsK_good (name:List UInt8):∀ (l:List Nat) (a:List Nd),Rises Nd.name a->(∀ n ∈ a,GoodN n/\n.name ≠ name) →
  let r:=l.foldl (fun a x=>if (ndK x).name=name\/(ndK x).name ∈ a.map Nd.name then a else insR (ltNd (ndK x)) (ndK x) a) a
  Rises Nd.name r/\(∀ n ∈ r,GoodN n/\n.name ≠ name)/\r.length<=a.length+l.length:=by
 intro l
 induction l with
 | nil=>exact fun a h1 h2=>⟨h1,h2,Nat.le_refl _⟩
 | cons x l ih =>
  intro a h1 h2
  dsimp only
  rw [List.foldl_cons]
  by_cases h:(ndK x).name=name\/(ndK x).name ∈ a.map Nd.name
  ·rw [if_pos h]
   obtain ⟨a1,a2,a3⟩:=ih a h1 h2
   exact ⟨a1,a2,by rw [List.length_cons];omega⟩
  ·rw [if_neg h]
   have hr:=insR_rises (f:=Nd.name) h1 (x:=ndK x) (fun h3=>h (.inr h3))
   obtain ⟨a1,a2,a3⟩:=ih (insR (ltNd (ndK x)) (ndK x) a) hr (fun n hn=>by
    rcases (insR_mem _ _ _ _).1 hn with rfl | hn
    ·exact ⟨⟨nameK_good _,(spanK_good _).1,(spanK_good _).2⟩,fun h3=>h (.inl h3)⟩
    ·exact h2 n hn)
   refine ⟨a1,a2,?_⟩
   rw [insR_length] at a3
   rw [List.length_cons]
   omega
def madeL (sm:SRow->List UInt8) (sz:SRow->Int):List Rw->List SRow->List Rw
 | st,[]=>st
 | st,r :: l=>madeL sm sz (if (atL st (nameK r.n) (verK r.v)).isSome then st else st++[⟨nameK r.n,verK r.v,sm r,sz r,ndsK (nameK r.n) r.needs⟩]) l
theorem Fresh.snoc:∀ {l st:List Rw} {r:Rw},Fresh st l->atL (st++l) r.name r.v=none->Fresh st (l++[r])
 | [],st,r,_,h=>⟨by simpa using h,trivial⟩
 | x :: l,st,r,h,h2=>⟨h.1,Fresh.snoc h.2 (by simpa using h2)⟩
theorem made_good (sm:SRow->List UInt8) (sz:SRow->Int):∀ (l:List SRow) (st:List Rw),(∀ r ∈ l,(sm r).length=32/\0<=sz r/\sz r<=262144/\r.needs.length<=20)->(∀ r ∈ st,GoodR r)->Fresh [] st →
  (∀ r ∈ madeL sm sz st l,GoodR r)/\Fresh [] (madeL sm sz st l)/\(madeL sm sz st l).length<=st.length+l.length
 | [],st,_,h2,h3=>⟨h2,h3,Nat.le_refl _⟩
 | r :: l,st,h1,h2,h3=>by
  rw [madeL]
  by_cases h:(atL st (nameK r.n) (verK r.v)).isSome=true
  ·rw [if_pos h]
   obtain ⟨a,b,c⟩:=made_good sm sz l st (fun x hx=>h1 x (by simp [hx])) h2 h3
   exact ⟨a,b,by rw [List.length_cons];omega⟩
  ·rw [if_neg h]
   obtain ⟨k1,k2,k3,k4⟩:=h1 r (by simp)
   have hn:atL st (nameK r.n) (verK r.v)=none:=by simpa using h
   obtain ⟨n1,n2,n3⟩:=ndsK_good (nameK r.n) r.needs [] List.Pairwise.nil (fun _ h=>by cases h)
   obtain ⟨a,b,c⟩:=made_good sm sz l (st++[⟨nameK r.n,verK r.v,sm r,sz r,ndsK (nameK r.n) r.needs⟩]) (fun x hx=>h1 x (by simp [hx])) (fun x hx=>by
    rcases List.mem_append.1 hx with hx | hx
    ·exact h2 x hx
    ·obtain rfl:x=_:=by simpa using hx
     exact ⟨nameK_good _,by rw [verT_K,verK_good],by rw [verT_K];exact verTK_word _,k1,⟨k2,k3⟩,n2,n1,by
      have:(ndsK (nameK r.n) r.needs).length<=0+r.needs.length:=n3
      show (ndsK (nameK r.n) r.needs).length<=20
      omega⟩) (h3.snoc (by rw [List.nil_append];exact hn))
   refine ⟨a,b,?_⟩
   rw [List.length_append] at c
   rw [List.length_cons]
   simp at c
   omega
structure Fl where
 path:List UInt8
 dir:Bool
 b:List UInt8
deriving DecidableEq
def libT:List UInt8:=[108,105,98]
def buildT:List UInt8:=[98,117,105,108,100,46,104,115]
def bigT:List UInt8:=[98,105,103]
def scriptK (k:Nat):List UInt8 :=
 if k=1 then [119,114,105,116,101,32,111,117,116,32,34,98,117,105,108,116,32,36,110,97,109,101,32,36,118,101,114,115,105,111,110,34,10]
 else if k=2 then [109,107,100,105,114,32,98,105,110,10,114,101,112,101,97,116,32,51,10,97,112,112,101,110,100,32,98,105,110,47,114,117,110,32,34,36,110,97,109,101,34,10,101,110,100,10,114,101,109,111,118,101,32,108,105,98,10]
 else if k=3 then [105,102,32,101,120,105,115,116,115,32,108,105,98,10,114,101,110,97,109,101,32,108,105,98,32,115,114,99,10,101,108,115,101,10,102,97,105,108,32,34,110,111,34,10,101,110,100,10]
 else if k=4 then [102,97,105,108,32,34,110,101,118,101,114,34,10]
 else if k=5 then [119,114,105,116,101,32,46,46,47,111,117,116,32,34,120,34,10]
 else if k=6 then [99,111,112,121,32,108,105,98,10]
 else if k=7 then [114,101,112,101,97,116,32,49,48,48,48,10,114,101,112,101,97,116,32,49,48,48,48,10,101,110,100,10,101,110,100,10]
 else []
def bigB:List UInt8:=(List.range 200).map UInt8.ofNat
def filesK (r:SRow):List Fl :=
 [⟨libT,true,[]⟩,⟨libT++47 :: nameK r.n,false,nameK r.n++32 :: verTK r.v⟩]++(if r.kind % 10=8 then [⟨bigT,false,bigB⟩] else [])++(if scriptK (r.kind % 10)=[] then [] else [⟨buildT,false,scriptK (r.kind % 10)⟩])
def numB8 (n:Nat):Nat->List UInt8
 | 0=>[]
 | k+1=>UInt8.ofNat (n / 256 ^ k) :: numB8 n k
theorem numB8_length (n:Nat):∀ k,(numB8 n k).length=k
 | 0=>rfl
 | k+1=>by rw [numB8,List.length_cons,numB8_length n k]
def packF (f:Fl):List UInt8:=(if f.dir then 1 else 0) :: (numB8 (f.path.take 65535).length 2++(f.path.take 65535++(if f.dir then [] else numB8 f.b.length 8++f.b)))
def pakT:List UInt8:=[80,65,75,49]
def packA (l:List Fl):List UInt8:=pakT++(l.flatMap packF++[255])
def archK (r:SRow):List UInt8:=packA (filesK r)++(if r.kind % 10=9 then [7] else [])
def smK (r:SRow):List UInt8:=if r.lie % 12=1 then (sumF (archK r)).set 3 ((sumF (archK r)).getD 3 0 ^^^ 4) else if r.lie % 12=4 then sumF [] else sumF (archK r)
def szK (r:SRow):Int:=if r.lie % 12=2 then (archK r).length+9 else if r.lie % 12=3 then (if (archK r).length < 9 then 0 else (archK r).length - 9) else if r.lie % 12=4 then 0 else (archK r).length
def rowK (r:SRow):Rw:=⟨nameK r.n,verK r.v,smK r,szK r,ndsK (nameK r.n) r.needs⟩
def keptK:List SRow->List SRow->List SRow
 | st,[]=>st
 | st,r :: l=>keptK (if (atL (st.map rowK) (nameK r.n) (verK r.v)).isSome then st else st++[r]) l
theorem kept_made:∀ (l st:List SRow),madeL smK szK (st.map rowK) l=(keptK st l).map rowK
 | [],st=>rfl
 | r :: l,st=>by
  rw [madeL,keptK]
  by_cases h:(atL (st.map rowK) (nameK r.n) (verK r.v)).isSome=true
  ·rw [if_pos h,if_pos h]
   exact kept_made l st
  ·rw [if_neg h,if_neg h,<- kept_made l (st++[r]),List.map_append]
   rfl
theorem kept_snoc (l st:List SRow) (r:SRow):keptK st (l++[r])=if (atL ((keptK st l).map rowK) (nameK r.n) (verK r.v)).isSome then keptK st l else keptK st l++[r]:=by
 induction l generalizing st with
 | nil=>rfl
 | cons x l ih=>exact ih _
theorem kept_length:∀ (l st:List SRow),(keptK st l).length<=st.length+l.length
 | [],st=>Nat.le_refl _
 | r :: l,st=>by
  rw [keptK]
  rw [List.length_cons]
  by_cases h:(atL (st.map rowK) (nameK r.n) (verK r.v)).isSome=true
  ·rw [if_pos h]
   have:=kept_length l st
   omega
  ·rw [if_neg h]
   have:=kept_length l (st++[r])
   rw [List.length_append,List.length_singleton] at this
   omega
theorem kept_mem:∀ (l st:List SRow) (x:SRow),x ∈ keptK st l->x ∈ st\/x ∈ l
 | [],st,x,h=>.inl h
 | r :: l,st,x,h=>by
  rw [keptK] at h
  rcases kept_mem l _ x h with h | h
  ·split at h
   ·exact .inl h
   ·rcases List.mem_append.1 h with h | h
    ·exact .inl h
    ·exact .inr (by simp at h;simp [h])
  ·exact .inr (by simp [h])
theorem scriptK_le (k:Nat):(scriptK k).length<=100:=by
 unfold scriptK
 repeat' split
 all_goals decide
theorem verTK_le (k:Nat):(verTK k).length<=9:=by
 have h:∀ k:Fin 6,(verTK k.1).length<=9:=by decide +kernel
 have:=h ⟨k % 6,Nat.mod_lt _ (by omega)⟩
 unfold verTK at *
 dsimp only at this
 rw [Nat.mod_mod] at this
 exact this
theorem packF_le (f:Fl) (hp:f.path.length<=20) (hb:f.b.length<=300):(packF f).length<=340:=by
 unfold packF
 rw [List.length_cons,List.length_append,numB8_length,List.length_append,List.length_take]
 split
 ·simp;omega
 ·rw [List.length_append,numB8_length];omega
theorem bigB_length:bigB.length=200:=by unfold bigB;rw [List.length_map,List.length_range]
theorem archK_le (r:SRow):(archK r).length<=2000:=by
 have h1:=scriptK_le (r.kind % 10)
 have h2:=verTK_le r.v
 have hb:=bigB_length
 have hf:∀ f ∈ filesK r,(packF f).length<=340:=fun f hf=>by
  unfold filesK at hf
  rw [List.mem_append,List.mem_append] at hf
  rcases hf with (hf | hf) | hf
  ·simp only [List.mem_cons,List.not_mem_nil,or_false] at hf
   rcases hf with rfl | rfl
   ·exact packF_le _ (by decide) (by simp)
   ·exact packF_le _ (by simp [libT,nameK]) (by simp [nameK];omega)
  ·split at hf
   ·obtain rfl:=List.mem_singleton.1 hf
    exact packF_le _ (by decide) (by show bigB.length<=300;omega)
   ·cases hf
  ·split at hf
   ·cases hf
   ·obtain rfl:=List.mem_singleton.1 hf
    exact packF_le _ (by show buildT.length<=20;decide) (by show (scriptK (r.kind % 10)).length<=300;omega)
 have hn:(filesK r).length<=4:=by
  unfold filesK
  rw [List.length_append,List.length_append]
  have a1:(if r.kind % 10=8 then [(⟨bigT,false,bigB⟩:Fl)] else []).length<=1:=by split <;> simp
  have a2:(if scriptK (r.kind % 10)=[] then [] else [(⟨buildT,false,scriptK (r.kind % 10)⟩:Fl)]).length<=1:=by split <;> simp
  simp only [List.length_cons,List.length_nil]
  omega
 have hs:∀ l:List Fl,(∀ f ∈ l,(packF f).length<=340)->(l.flatMap packF).length<=340*l.length:=by
  intro l
  induction l with
  | nil=>intro _;simp
  | cons f l ih =>
   intro h
   rw [List.flatMap_cons,List.length_append,List.length_cons]
   have:=ih (fun g hg=>h g (by simp [hg]))
   have:=h f (by simp)
   omega
 have:=hs _ hf
 have hz:(if r.kind % 10=9 then [(7:UInt8)] else []).length<=1:=by split <;> simp
 unfold archK packA
 rw [List.length_append,List.length_append,List.length_append]
 have e1:pakT.length=4:=rfl
 have e2:([255]:List UInt8).length=1:=rfl
 omega
theorem rowK_facts (r:SRow) (hn:r.needs.length<=20):(smK r).length=32/\0<=szK r/\szK r<=262144/\r.needs.length<=20:=by
 have h:=archK_le r
 refine ⟨?_,?_,?_,hn⟩
 ·unfold smK
  split
  ·rw [List.length_set,sumF_length]
  ·split <;> rw [sumF_length]
 ·unfold szK
  repeat' split
  all_goals omega
 ·unfold szK
  repeat' split
  all_goals omega
theorem ndsK_mem (name:List UInt8):∀ (l:List Nat) (a:List Nd) (n:Nd),n ∈ l.foldl (fun a x=>if (ndK x).name=name\/(ndK x).name ∈ a.map Nd.name then a else insR (ltNd (ndK x)) (ndK x) a) a->n ∈ a\/∃ x,n=ndK x
 | [],_,_,h=>.inl h
 | x :: l,a,n,h=>by
  rw [List.foldl_cons] at h
  rcases ndsK_mem name l _ n h with h | h
  ·split at h
   ·exact .inl h
   ·rcases (insR_mem _ _ _ _).1 h with h | h
    ·exact .inr ⟨x,h⟩
    ·exact .inl h
  ·exact .inr h
theorem spanTK_le25 (k:Nat):(spanTK k).length<=25:=by
 have h:∀ k:Fin 10,(spanTK k.1).length<=25:=by decide +kernel
 have:=h ⟨k % 10,Nat.mod_lt _ (by omega)⟩
 unfold spanTK at *
 dsimp only at this
 rw [Nat.mod_mod] at this
 exact this
theorem flat_le {α:Type} {f:α->List UInt8} {c:Nat}:∀ (l:List α),(∀ x ∈ l,(f x).length<=c)->(l.flatMap f).length<=c*l.length
 | [],_=>by simp
 | x :: l,h=>by
  rw [List.flatMap_cons,List.length_append,List.length_cons]
  have:=flat_le l (fun y hy=>h y (by simp [hy]))
  have:=h x (by simp)
  rw [Nat.mul_succ]
  omega
theorem dec_le6 {n:Nat} (h:n<=262144):(decT n).length<=6:=by
 obtain ⟨a,b,c,d⟩:=decT_all n
 exact d 5 (by omega)
theorem rowK_text (r:SRow) (hn:r.needs.length<=4):(rowT (rowK r)).length<=400:=by
 obtain ⟨h1,h2,h3,-⟩:=rowK_facts r (by omega)
 obtain ⟨-,-,n3⟩:=ndsK_good (nameK r.n) r.needs [] List.Pairwise.nil (fun n hn=>by cases hn)
 have n3':(ndsK (nameK r.n) r.needs).length<=0+r.needs.length:=n3
 have hv:verT (verK r.v)=verTK r.v:=verT_K _
 have hvl:=verTK_le r.v
 have hd:(decT (szK r).toNat).length<=6:=dec_le6 (by omega)
 have hf:=flat_le (f:=needT') (c:=33) (sortR ltNd (ndsK (nameK r.n) r.needs)) (fun n hn=>by
  have hn2:n ∈ ndsK (nameK r.n) r.needs:=(sortR_mem _ _ _).1 hn
  rcases ndsK_mem (nameK r.n) r.needs [] n hn2 with h | ⟨x,rfl⟩
  ·cases h
  ·have:=spanTK_le25 (x / 6 % 10)
   show (needT++32 :: (nameK (x % 6)++32 :: (spanTK (x / 6 % 10)++[10]))).length<=33
   simp [nameK,needT]
   omega)
 rw [sortR_length] at hf
 have hp:(packT' (rowK r)).length<=100:=by
  show (packT++32 :: (nameK r.n++32 :: (verT (verK r.v)++32 :: (hexL (smK r)++32 :: (decT (szK r).toNat++[10]))))).length<=100
  rw [hv]
  have:=hexL_length (smK r)
  simp [nameK,packT]
  omega
 show (packT' (rowK r)++(sortR ltNd (ndsK (nameK r.n) r.needs)).flatMap needT').length<=400
 rw [List.length_append]
 omega
theorem kept_text (l:List SRow) (hl:l.length<=20) (h:∀ r ∈ l,r.needs.length<=4):(indexT ((keptK [] l).map rowK)).length<=8000:=by
 have h1:=kept_length l []
 rw [List.length_nil,Nat.zero_add] at h1
 have h2:=flat_le (f:=rowT) (c:=400) ((keptK [] l).map rowK) (fun x hx=>by
  obtain ⟨r,hr,rfl⟩:=List.mem_map.1 hx
  rcases kept_mem l [] r hr with h' | h'
  ·cases h'
  ·exact rowK_text r (h r h'))
 rw [List.length_map] at h2
 show (((keptK [] l).map rowK).flatMap rowT).length<=8000
 omega
set_option maxRecDepth 100000 in
set_option maxHeartbeats 4000000 in
theorem digits_any (l:List UInt8) (hl:l.length<=1000000) (w:World):Calls prog 130 #[strV l] w fun e w'=>e=.returned (.bool (digitsB l))/\w'=w:=by
 refine calls_hide fun R hR=>?_
 have HX:=zh (run_at l)
 have HZ:=zh (str_len3 l)
 have hT:=str_list l
 unfold strV
 generalize (⟨l.toArray⟩:ByteArray)=Z at *
 have hZs:(Z.size:Int)=(l.length:Int):=by rw [HZ.out]
 go_enter func130,ntmps130
 go_wp2_with fail
 go_loopw [6] (fun q wr=>∃ k:Nat,k<=l.length/\q=.int .i64 k/\wr=w/\∀ i (hi:i < l.length),i < k->dig l[i]=true) (fun q _=>l.length - (intOf q).toNat)
 case atStart=>exact ⟨0,by omega,rfl,rfl,fun i _ hi=>absurd hi (by omega)⟩
 case round =>
  obtain ⟨k,hk,rfl,rfl,hall⟩:=hrel
  have hk0:(0:Int)<=(k:Int):=Int.natCast_nonneg _
  by_cases hlt:k < l.length
  ·have hk1:(k:Int) < (Z.size:Int):=by omega
   have hidx:=HX.out k hlt
   have HN:=zh (fun h=>all_take_succ (p:=dig) hlt hall h)
   have HF:=zh (fun h=>not_all (p:=dig) hlt h)
   have HD:=zh (show dig l[k]=(decide (48<=l[k].toNat) && decide (l[k].toNat<=57)) from rfl)
   generalize l[k].toNat=x at *
   clear hall
   by_cases h1:(x:Int) < 48
   ·go_wp2_with fail
    refine fin hR ⟨?_,rfl⟩
    show Ending.returned (.bool false)=_
    rw [show digitsB l=false by unfold digitsB;rw [HF.out (by rw [HD.out,decide_eq_false (by omega:¬ 48<=x)];rfl)];rfl]
   ·by_cases h2:(57:Int) < x
    ·go_wp2_with fail
     refine fin hR ⟨?_,rfl⟩
     show Ending.returned (.bool false)=_
     rw [show digitsB l=false by unfold digitsB;rw [HF.out (by rw [HD.out,decide_eq_false (by omega:¬ x<=57),Bool.and_false])];rfl]
    ·go_wp2_with fail
     exact ⟨⟨k+1,by omega,rfl,trivial,HN.out (by rw [HD.out,decide_eq_true (by omega:48<=x),decide_eq_true (by omega:x<=57)];rfl)⟩,by show l.length - ((k:Int)+1).toNat < l.length - (k:Int).toNat;omega⟩
  ·have HA:=zh (all_of (p:=dig) (by omega) hall)
   clear hall
   go_wp2_with fail
   refine fin hR ⟨?_,rfl⟩
   show Ending.returned (.bool (!l.isEmpty))=_
   unfold digitsB
   rw [HA.out,Bool.true_and]
theorem bytesLess_decT:∀ (x y:List UInt8),Op.bytesLess x y=decide (x < y)
 | [],[]=>by simp [Op.bytesLess]
 | _ :: _,[]=>by simp [Op.bytesLess]
 | [],_ :: _=>by simp [Op.bytesLess]
 | a :: x,b :: y=>by
  rw [Op.bytesLess,bytesLess_decT x y]
  simp only [List.cons_lt_cons_iff]
  by_cases h1:a < b <;> by_cases h2:a=b <;> by_cases h3:x < y <;> simp [h1,h2,h3]
theorem cmpL_lt {x y:List UInt8} (h:x < y):cmpL x y = -1:=if_pos h
theorem cmpL_gt {x y:List UInt8} (h:¬ x < y) (h2:x ≠ y):cmpL x y=1:=by
 unfold cmpL
 rw [if_neg h,if_pos (by
  rcases Std.lt_trichotomy x y with h3 | h3 | h3
  ·exact absurd h3 h
  ·exact absurd h3 h2
  ·exact h3)]
theorem cmpL_eq (x:List UInt8):cmpL x x=0:=by
 have h6:¬ x < x:=by simp
 unfold cmpL
 rw [if_neg h6,if_neg h6]
theorem isnanS_any (x:ByteArray) (w:World):Calls prog 115 #[.string x] w fun e w'=>e=.returned (.bool false)/\w'=w:=by
 refine calls_hide fun R hR=>?_
 go_enter func115,ntmps115
 go_wp2_with fail
 exact fin hR ⟨by simp,rfl⟩
theorem isnanN_any (x:Int) (w:World):Calls prog 129 #[.int .i64 x] w fun e w'=>e=.returned (.bool false)/\w'=w:=by
 refine calls_hide fun R hR=>?_
 go_enter func129,ntmps129
 go_wp2_with fail
 exact fin hR ⟨by simp,rfl⟩
set_option maxRecDepth 100000 in
theorem compareS_any (x y:List UInt8) (w:World):Calls prog 85 #[strV x,strV y] w fun e w'=>e=.returned (.int .i64 (cmpL x y))/\w'=w:=by
 refine calls_hide fun R hR=>?_
 unfold strV at *
 have HNX:=zh (isnanS_any ⟨x.toArray⟩)
 have HNY:=zh (isnanS_any ⟨y.toArray⟩)
 have h1:((⟨x.toArray⟩:ByteArray)).data.toList=x:=rfl
 have h2:((⟨y.toArray⟩:ByteArray)).data.toList=y:=rfl
 generalize (⟨x.toArray⟩:ByteArray)=X at *
 generalize (⟨y.toArray⟩:ByteArray)=Y at *
 go_enter func85,ntmps85
 go_wp2_with fail
 with_reducible refine (HNX.out _).mono ?_
 rintro e w1 ⟨rfl,hw1⟩
 subst hw1
 go_wp2_with fail
 with_reducible refine (HNY.out _).mono ?_
 rintro e w2 ⟨rfl,hw2⟩
 subst hw2
 go_wp2_with fail
 ·rename_i h3
  rw [ByteArray.toList_eq,ByteArray.toList_eq,h1,h2,bytesLess_decT] at h3
  exact fin hR ⟨by rw [cmpL_lt (by simpa using h3)];rfl,rfl⟩
 ·rename_i h4 K h5 h3
  clear h5 K
  rw [ByteArray.toList_eq,ByteArray.toList_eq,h1,h2,bytesLess_decT] at h4
  rw [ByteArray.toList_eq,ByteArray.toList_eq,h1,h2] at h3
  exact fin hR ⟨by rw [cmpL_gt (by simpa using h4) (by simpa using h3)];rfl,rfl⟩
 ·rename_i h4 h3
  rw [ByteArray.toList_eq,ByteArray.toList_eq,h1,h2] at h3
  have hxy:x=y:=by simpa using h3
  subst hxy
  exact fin hR ⟨by rw [cmpL_eq];rfl,rfl⟩
set_option maxRecDepth 100000 in
theorem compareN_any (x y:Int) (w:World):Calls prog 93 #[.int .i64 x,.int .i64 y] w fun e w'=>e=.returned (.int .i64 (cmpN x y))/\w'=w:=by
 refine calls_hide fun R hR=>?_
 have HNX:=zh (isnanN_any x)
 have HNY:=zh (isnanN_any y)
 go_enter func93,ntmps93
 go_wp2_with fail
 with_reducible refine (HNX.out _).mono ?_
 rintro e w1 ⟨rfl,hw1⟩
 subst hw1
 go_wp2_with fail
 with_reducible refine (HNY.out _).mono ?_
 rintro e w2 ⟨rfl,hw2⟩
 subst hw2
 go_wp2_with fail
 ·rename_i h3
  have h3':x < y:=by simpa using h3
  exact fin hR ⟨by rw [show cmpN x y = -1 from if_pos h3'];rfl,rfl⟩
 ·have h3':y < x:=by omega
  exact fin hR ⟨by rw [show cmpN x y=1 by unfold cmpN;rw [if_neg (by omega),if_pos h3']];rfl,rfl⟩
 ·exact fin hR ⟨by rw [show cmpN x y=0 by unfold cmpN;rw [if_neg (by omega),if_neg (by omega)]];rfl,rfl⟩
set_option maxRecDepth 100000 in
theorem refcmp_any (x y:Int) (w:World):Calls prog 65 #[.int .i64 x,.int .i64 y] w fun e w'=>e=.returned (.int .i64 (cmpN x y))/\w'=w:=by
 refine calls_hide fun R hR=>?_
 go_enter func65,ntmps65
 go_wp2_with fail
 ·rename_i h3
  have h3':x < y:=by simpa using h3
  exact fin hR ⟨by rw [show cmpN x y = -1 from if_pos h3'];rfl,rfl⟩
 ·have h3':y < x:=by omega
  exact fin hR ⟨by rw [show cmpN x y=1 by unfold cmpN;rw [if_neg (by omega),if_pos h3']];rfl,rfl⟩
 ·exact fin hR ⟨by rw [show cmpN x y=0 by unfold cmpN;rw [if_neg (by omega),if_neg (by omega)]];rfl,rfl⟩
set_option maxRecDepth 100000 in
theorem reftext_any (x y:List UInt8) (w:World):Calls prog 68 #[strV x,strV y] w fun e w'=>e=.returned (.int .i64 (cmpL x y))/\w'=w:=by
 refine calls_hide fun R hR=>?_
 unfold strV at *
 have h1:((⟨x.toArray⟩:ByteArray)).data.toList=x:=rfl
 have h2:((⟨y.toArray⟩:ByteArray)).data.toList=y:=rfl
 generalize (⟨x.toArray⟩:ByteArray)=X at *
 generalize (⟨y.toArray⟩:ByteArray)=Y at *
 go_enter func68,ntmps68
 go_wp2_with fail
 ·rename_i h3
  rw [ByteArray.toList_eq,ByteArray.toList_eq,h1,h2,bytesLess_decT] at h3
  exact fin hR ⟨by rw [cmpL_lt (by simpa using h3)];rfl,rfl⟩
 ·rename_i K h5 h4 h3
  clear h5 K
  rw [ByteArray.toList_eq,ByteArray.toList_eq,h1,h2,bytesLess_decT] at h4
  rw [ByteArray.toList_eq,ByteArray.toList_eq,h1,h2] at h3
  exact fin hR ⟨by rw [cmpL_gt (by simpa using h4) (by simpa using h3)];rfl,rfl⟩
 ·rename_i h4 h3
  rw [ByteArray.toList_eq,ByteArray.toList_eq,h1,h2] at h3
  have hxy:x=y:=by simpa using h3
  subst hxy
  exact fin hR ⟨by rw [cmpL_eq];rfl,rfl⟩
theorem oneif_any (b:Bool) (w:World):Calls prog 66 #[.bool b] w fun e w'=>e=.returned (.int .i64 (if b then 1 else 0))/\w'=w:=by
 refine calls_hide fun R hR=>?_
 go_enter func66,ntmps66
 rcases b with _ | _
 ·go_wp2_with fail
  exact fin hR ⟨rfl,rfl⟩
 ·go_wp2_with fail
  exact fin hR ⟨rfl,rfl⟩
set_option maxRecDepth 100000 in
set_option maxHeartbeats 4000000 in
theorem refdigits_any (l:List UInt8) (hl:l.length<=1000000) (w:World):Calls prog 67 #[strV l] w fun e w'=>e=.returned (.bool (digitsB l))/\w'=w:=by
 refine calls_hide fun R hR=>?_
 have HX:=zh (run_at l)
 have HZ:=zh (str_len3 l)
 have hT:=str_list l
 unfold strV
 generalize (⟨l.toArray⟩:ByteArray)=Z at *
 have hZs:(Z.size:Int)=(l.length:Int):=by rw [HZ.out]
 go_enter func67,ntmps67
 go_wp2_with fail
 go_loopw [3] (fun q wr=>∃ k:Nat,k<=l.length/\q=.int .i64 k/\wr=w/\∀ i (hi:i < l.length),i < k->dig l[i]=true) (fun q _=>l.length - (intOf q).toNat)
 case atStart=>exact ⟨0,by omega,rfl,rfl,fun i _ hi=>absurd hi (by omega)⟩
 case round =>
  obtain ⟨k,hk,rfl,rfl,hall⟩:=hrel
  have hk0:(0:Int)<=(k:Int):=Int.natCast_nonneg _
  by_cases hlt:k < l.length
  ·have hk1:(k:Int) < (Z.size:Int):=by omega
   have hidx:=HX.out k hlt
   have HN:=zh (fun h=>all_take_succ (p:=dig) hlt hall h)
   have HF:=zh (fun h=>not_all (p:=dig) hlt h)
   have HD:=zh (show dig l[k]=(decide (48<=l[k].toNat) && decide (l[k].toNat<=57)) from rfl)
   generalize l[k].toNat=x at *
   clear hall
   by_cases h1:(x:Int) < 48
   ·go_wp2_with fail
    refine fin hR ⟨?_,rfl⟩
    show Ending.returned (.bool false)=_
    rw [show digitsB l=false by unfold digitsB;rw [HF.out (by rw [HD.out,decide_eq_false (by omega:¬ 48<=x)];rfl)];rfl]
   ·by_cases h2:(57:Int) < x
    ·go_wp2_with fail
     refine fin hR ⟨?_,rfl⟩
     show Ending.returned (.bool false)=_
     rw [show digitsB l=false by unfold digitsB;rw [HF.out (by rw [HD.out,decide_eq_false (by omega:¬ x<=57),Bool.and_false])];rfl]
    ·go_wp2_with fail
     exact ⟨⟨k+1,by omega,rfl,trivial,HN.out (by rw [HD.out,decide_eq_true (by omega:48<=x),decide_eq_true (by omega:x<=57)];rfl)⟩,by show l.length - ((k:Int)+1).toNat < l.length - (k:Int).toNat;omega⟩
  ·have HA:=zh (all_of (p:=dig) (by omega) hall)
   clear hall
   go_wp2_with fail
   refine fin hR ⟨?_,rfl⟩
   show Ending.returned (.bool (!l.isEmpty))=_
   unfold digitsB
   rw [HA.out,Bool.true_and]
theorem nonempty_of_digits {l:List UInt8} (h:digitsB l=true):0 < l.length:=by
 unfold digitsB at h
 cases l
 ·simp at h
 ·simp
set_option maxRecDepth 100000 in
theorem plain_any (l:List UInt8) (hl:l.length<=1000000) (h0:0 < l.length) (w:World):Calls prog 171 #[strV l] w fun e w'=>e=.returned (.bool (plainB l))/\w'=w:=by
 refine calls_hide fun R hR=>?_
 have hidx:∀ W,(Instr.index 9 (.string ⟨l.toArray⟩) (.int .i64 0)).run prog W=.ok (.int .u8 (l[0].toNat:Int)) W:=run_at l 0 h0
 have HZ:=zh (str_len3 l)
 have hT:=str_list l
 have HP:=zh (show plainB l=(decide (l.length=1) || decide (l[0].toNat ≠ 48)) by
  unfold plainB
  congr 1
  rw [List.head?_eq_getElem?,List.getElem?_eq_getElem h0]
  simp [<- UInt8.toNat_inj])
 unfold strV
 generalize (⟨l.toArray⟩:ByteArray)=Z at *
 have hZs:(Z.size:Int)=(l.length:Int):=by rw [HZ.out]
 generalize l[0].toNat=x at *
 go_enter func171,ntmps171
 by_cases h1:(l.length:Int)=1
 ·go_wp2_with fail
  refine fin hR ⟨bool_ret ?_,rfl⟩
  rw [HP.out,decide_eq_true (by omega)]
  rfl
 ·go_wp2_with fail
  refine fin hR ⟨bool_ret ?_,rfl⟩
  rw [HP.out,Bool.eq_iff_iff]
  simp
  try omega
set_option maxRecDepth 100000 in
theorem sign_any (c:UInt8) (w:World):Calls prog 174 #[.int .u8 (c.toNat:Int)] w fun e w'=>e=.returned (.bool (signB c))/\w'=w:=by
 refine calls_hide fun R hR=>?_
 have HS:=zh (show signB c=((decide (48<=c.toNat) && decide (c.toNat<=57)) || (decide (97<=c.toNat) && decide (c.toNat<=122)) || (decide (65<=c.toNat) && decide (c.toNat<=90)) || decide (c.toNat=45)) from rfl)
 generalize c.toNat=x at *
 go_enter func174,ntmps174
 go_wp2_with fail
 all_goals
  refine fin hR ⟨bool_ret ?_,rfl⟩
  rw [HS.out,Bool.eq_iff_iff]
  simp
  omega
set_option maxRecDepth 100000 in
set_option maxHeartbeats 4000000 in
theorem mark_any (l:List UInt8) (hl:l.length<=1000000) (w:World):Calls prog 143 #[strV l] w fun e w'=>e=.returned (.bool (markB l))/\w'=w:=by
 refine calls_hide fun R hR=>?_
 have HX:=zh (run_at l)
 have HZ:=zh (str_len3 l)
 have hT:=str_list l
 have HDG:=zh (digits_any l hl)
 have HPL:=zh (plain_any l hl)
 unfold strV at *
 generalize (⟨l.toArray⟩:ByteArray)=Z at *
 have hZs:(Z.size:Int)=(l.length:Int):=by rw [HZ.out]
 have HMB:=zh (show markB l=(!l.isEmpty && decide (l.length<=16) && (!digitsB l || plainB l) && l.all signB) from rfl)
 have HDN:=zh (nonempty_of_digits (l:=l))
 go_enter func143,ntmps143
 by_cases h0:l=[]
 ·subst h0
  go_wp2_with fail
  refine fin hR ⟨bool_ret ?_,rfl⟩
  rfl
 have hne:l.isEmpty=false:=by simpa using h0
 by_cases h16:(16:Int) < (l.length:Int)
 ·go_wp2_with fail
  refine fin hR ⟨bool_ret ?_,rfl⟩
  rw [HMB.out,decide_eq_false (by omega:¬ l.length<=16),Bool.and_false]
  rfl
 go_wp2_with fail
 with_reducible refine (HDG.out _).mono ?_
 rintro e w ⟨rfl,rfl⟩
 have HMC:=zh (show (!digitsB l || plainB l)=true->markB l=l.all signB from fun h=>by
  rw [HMB.out,h,hne,decide_eq_true (by omega:l.length<=16)];rfl)
 have HMD:=zh (show (!digitsB l || plainB l)=false->markB l=false from fun h=>by
  rw [HMB.out,h,Bool.and_false];rfl)
 rcases hd:digitsB l with _ | _
 ·have HMN:=zh (HMC.out (by rw [hd];rfl))
  clear HMC HMD HMB
  go_wp2_with fail
  go_loopw [22] (fun q wr=>∃ k:Nat,k<=l.length/\q=.int .i64 k/\wr=w/\∀ i (hi:i < l.length),i < k->signB l[i]=true) (fun q _=>l.length - (intOf q).toNat)
  case atStart=>exact ⟨0,by omega,rfl,rfl,fun i _ hi=>absurd hi (by omega)⟩
  case round =>
   obtain ⟨k,hk,rfl,rfl,hall⟩:=hrel
   have hk0:(0:Int)<=(k:Int):=Int.natCast_nonneg _
   by_cases hlt:k < l.length
   ·have hk1:(k:Int) < (Z.size:Int):=by omega
    have hidx:=HX.out k hlt
    have HN:=zh (fun h=>all_take_succ (p:=signB) hlt hall h)
    have HF:=zh (fun h=>not_all (p:=signB) hlt h)
    have HSG:=zh (sign_any l[k])
    generalize l[k]=c at *
    clear hall
    go_wp2_with fail
    with_reducible refine (HSG.out _).mono ?_
    rintro e wr ⟨rfl,rfl⟩
    rcases hs:signB c with _ | _
    ·go_wp2_with fail
     refine fin hR ⟨bool_ret ?_,rfl⟩
     rw [HMN.out,HF.out hs]
    ·go_wp2_with fail
     exact ⟨⟨k+1,by omega,rfl,trivial,HN.out hs⟩,by show l.length - ((k:Int)+1).toNat < l.length - (k:Int).toNat;omega⟩
   ·have HA:=zh (all_of (p:=signB) (by omega) hall)
    clear hall
    go_wp2_with fail
    refine fin hR ⟨bool_ret ?_,rfl⟩
    rw [HMN.out,HA.out]
 ·go_wp2_with fail
  with_reducible refine (HPL.out (HDN.out hd) _).mono ?_
  rintro e w ⟨rfl,rfl⟩
  rcases hp:plainB l with _ | _
  ·go_wp2_with fail
   refine fin hR ⟨bool_ret ?_,rfl⟩
   rw [HMD.out (by rw [hd,hp];rfl)]
  ·have HMN:=zh (HMC.out (by rw [hd,hp];rfl))
   clear HMC HMD HMB
   go_wp2_with fail
   go_loopw [22] (fun q wr=>∃ k:Nat,k<=l.length/\q=.int .i64 k/\wr=w/\∀ i (hi:i < l.length),i < k->signB l[i]=true) (fun q _=>l.length - (intOf q).toNat)
   case atStart=>exact ⟨0,by omega,rfl,rfl,fun i _ hi=>absurd hi (by omega)⟩
   case round =>
    obtain ⟨k,hk,rfl,rfl,hall⟩:=hrel
    have hk0:(0:Int)<=(k:Int):=Int.natCast_nonneg _
    by_cases hlt:k < l.length
    ·have hk1:(k:Int) < (Z.size:Int):=by omega
     have hidx:=HX.out k hlt
     have HN:=zh (fun h=>all_take_succ (p:=signB) hlt hall h)
     have HF:=zh (fun h=>not_all (p:=signB) hlt h)
     have HSG:=zh (sign_any l[k])
     generalize l[k]=c at *
     clear hall
     go_wp2_with fail
     with_reducible refine (HSG.out _).mono ?_
     rintro e wr ⟨rfl,rfl⟩
     rcases hs:signB c with _ | _
     ·go_wp2_with fail
      refine fin hR ⟨bool_ret ?_,rfl⟩
      rw [HMN.out,HF.out hs]
     ·go_wp2_with fail
      exact ⟨⟨k+1,by omega,rfl,trivial,HN.out hs⟩,by show l.length - ((k:Int)+1).toNat < l.length - (k:Int).toNat;omega⟩
    ·have HA:=zh (all_of (p:=signB) (by omega) hall)
     clear hall
     go_wp2_with fail
     refine fin hR ⟨bool_ret ?_,rfl⟩
     rw [HMN.out,HA.out]
end Go.Proofs.YtgiigemfbebcgaaGreatDoor
