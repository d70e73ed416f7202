/-
  Layers 0 to 14: helps of the laws of indexes. No statement is proved here; no condition.
-/
import Derived.Test.YticfcmdjplmaeaaGreatDoorX23
import Derived.Test.YticfcmdjplmaeaaGreatDoorX00
import Derived.Test.YticfcmdjplmaeaaGreatDoorX01
import Derived.Test.YticfcmdjplmaeaaGreatDoorX21
import Derived.Test.YticfcmdjplmaeaaGreatDoorX02
import Derived.Test.YticfcmdjplmaeaaGreatDoorX16
import Derived.Test.YticfcmdjplmaeaaGreatDoorX03
import Derived.Test.YticfcmdjplmaeaaGreatDoorX06
import Derived.Laws.AppendOwn
set_option maxRecDepth 100000
set_option maxHeartbeats 64000000
namespace Go.Proofs.YticfcmdjplmaeaaGreatDoor
open _root_.Go.Proofs.Tryz
open Go.RowKit Go.Maps
structure SnX where
 s:Spn
 ov:Value
def SnX.cells (x:SnX):List Value:=[.bool x.s.any,x.ov]
theorem own_cutN {w:World} {base:Nat} {e:TypeId} {a:Option Addr} {n c j sz:Nat} {xs:List Value} (h:w.ownsRow base e sz (.slice a n c) n xs) (hj:j<=n):w.ownsRow base e sz (.slice a j c) j (xs.take (j*sz)):=by
 have hle:j*sz<=n*sz:=Nat.mul_le_mul_right _ hj;obtain ⟨h1,⟨hv,hn⟩ | ⟨g,cap,cur,hv,hg,hh,r1,r2,r3,r4⟩⟩:=h
 ·cases hv
  obtain rfl:j=0:=by omega
  exact ⟨by simp,.inl ⟨rfl,rfl⟩⟩
 ·cases hv
  refine ⟨by rw [List.length_take,h1];omega,.inr ⟨g,_,cur,rfl,hg,hh,by omega,r2,r3,?_⟩⟩
  rw [<- r4,List.take_take];congr 1
  omega
section
variable {e:TypeId} {sz:Nat} {α:Type} {f:α->List Value}
structure AskAt (e:TypeId) (sz:Nat) {α:Type} (f:α->List Value) (w:World) (B ab:Nat) (F:Vt) (A:List UInt8->List α):Prop where
 map:NMp w ab F
 row:∀ k v,F k=some v->w.ownsRow B e sz v (A k).length ((A k).flatMap f)
 no:∀ k,F k=none->A k=[]
 apart:∀ k k' v v' g,F k=some v->F k'=some v'->v.ownBlock=some g->v'.ownBlock=some g->k=k'
theorem AskAt.row0 {w:World} {B ab:Nat} {F:Vt} {A:List UInt8->List α} (h:AskAt e sz f w B ab F A) (k:List UInt8) :
  w.ownsRow B e sz ((F k).getD (.slice none 0 0)) (A k).length ((A k).flatMap f):=by
 cases hF:F k with
 | some v=>exact h.row k v hF
 | none=>rw [h.no k hF];exact ⟨by simp,.inl ⟨rfl,rfl⟩⟩
theorem AskAt.offmap {w:World} {B ab:Nat} {F:Vt} {A:List UInt8->List α} (h:AskAt e sz f w B ab F A) (k:List UInt8):((F k).getD (.slice none 0 0)).ownBlock ≠ some ab:=fun e=>by
 obtain ⟨cur,hh⟩:=own_heapM (h.row0 k) e;exact h.map.not_cells _ _ _ hh
theorem AskAt.keep {w w':World} {B ab:Nat} {F:Vt} {A:List UInt8->List α} {S:Nat->Prop} (h:AskAt e sz f w B ab F A) (hm:Mod S w w') (ha:¬ S ab) (hs:∀ k v g,F k=some v->v.ownBlock=some g->¬ S g):AskAt e sz f w' B ab F A :=
 ⟨h.map.keep hm ha,fun k v hv=>own_keepM (h.row k v hv) hm (fun g hg=>hs k v g hv hg),h.no,h.apart⟩
def pushA (A:List UInt8->List α) (k:List UInt8) (s:α):List UInt8->List α:=fun x=>if x=k then A k++[s] else A x
def popA (A:List UInt8->List α) (k:List UInt8):List UInt8->List α:=fun x=>if x=k then (A k).dropLast else A x
theorem AskAt.push {w w1 w2:World} {B ab:Nat} {F:Vt} {A:List UInt8->List α} (h:AskAt e sz f w B ab F A) {k:List UInt8} {s:α} {v':Value}
  (ho:w1.ownsRow B e sz v' ((A k).length+1) ((A k).flatMap f++f s)) (hg:w.grownBy w1 ((F k).getD (.slice none 0 0)).ownBlock)
  (hl:v'.ownBlock=((F k).getD (.slice none 0 0)).ownBlock\/v'.ownBlock=some w.heap.size) (hm:NMp w2 ab (vPut F k v')) (hmod:Mod (· = ab) w1 w2):AskAt e sz f w2 B ab (vPut F k v') (pushA A k s):=by
 have hat:pushA A k s k=A k++[s]:=by unfold pushA;rw [if_pos rfl]
 have hne:∀ x,x ≠ k->pushA A k s x=A x:=fun x hx=>by unfold pushA;rw [if_neg hx]
 have hblk:∀ g,((F k).getD (.slice none 0 0)).ownBlock=some g->∃ v,F k=some v/\v.ownBlock=some g:=fun g e=>by
  cases hF:F k with
  | some v=>rw [hF] at e;exact ⟨v,rfl,e⟩
  | none=>rw [hF] at e;cases e
 have hother:∀ x v,x ≠ k->F x=some v->∀ g,v.ownBlock=some g->v'.ownBlock ≠ some g:=fun x v hx hv g hgv e=>by
  rcases hl with hl | hl
  ·rw [hl] at e;obtain ⟨v0,h0,h1⟩:=hblk g e;exact hx (h.apart x k v v0 g hv h0 hgv h1)
  ·rw [hl] at e;cases e
   obtain ⟨cur,hh⟩:=own_heapM (h.row x v hv) hgv;have:=lt_of_heap hh;omega
 refine ⟨hm,fun x v hv=>?_,fun x hx=>?_,fun x y v u g hv hu h1 h2=>?_⟩
 ·by_cases hx:x=k
  ·subst hx;simp only [vPut,if_true] at hv;cases hv
   rw [hat];simp only [List.length_append,List.length_singleton,List.flatMap_append,List.flatMap_cons,List.flatMap_nil,List.append_nil];refine own_keepM ho hmod fun g hgv e=>?_
   subst e;rcases hl with hl | hl
   ·rw [hl] at hgv;exact h.offmap x hgv
   ·rw [hl] at hgv;cases hgv;exact Nat.lt_irrefl _ h.map.lt
  ·simp only [vPut,if_neg hx] at hv;rw [hne x hx];have h3:=(h.row x v hv).kept hg (by
    cases hb:v.ownBlock with
    | none=>exact .inl rfl
    | some g =>
     refine .inr fun e=>?_
     obtain ⟨v0,h0,h1⟩:=hblk g e.symm;exact hx (h.apart x k v v0 g hv h0 hb h1))
   refine own_keepM h3 hmod fun g hgv e=>?_
   subst e;obtain ⟨cur,hh⟩:=own_heapM (h.row x v hv) hgv;exact h.map.not_cells _ _ _ hh
 ·by_cases hk:x=k
  ·simp [vPut,hk] at hx
  ·simp only [vPut,if_neg hk] at hx;rw [hne x hk];exact h.no x hx
 ·by_cases hx:x=k
  ·by_cases hy:y=k
   ·rw [hx,hy]
   ·subst hx;simp only [vPut,if_true] at hv;cases hv
    simp only [vPut,if_neg hy] at hu;exact absurd h1 (hother y u hy hu g h2)
  ·by_cases hy:y=k
   ·subst hy;simp only [vPut,if_true] at hu;cases hu
    simp only [vPut,if_neg hx] at hv;exact absurd h2 (hother x v hx hv g h1)
   ·simp only [vPut,if_neg hx] at hv;simp only [vPut,if_neg hy] at hu;exact h.apart x y v u g hv hu h1 h2
theorem AskAt.pop {w w2:World} {B ab:Nat} {F:Vt} {A:List UInt8->List α} (hf:∀ x,(f x).length=sz) (h:AskAt e sz f w B ab F A) {k:List UInt8} {a:Option Addr} {n c:Nat} (hF:F k=some (.slice a (n+1) c)) (hn:(A k).length=n+1)
  (hm:NMp w2 ab (vPut F k (.slice a n c))) (hmod:Mod (· = ab) w w2):AskAt e sz f w2 B ab (vPut F k (.slice a n c)) (popA A k):=by
 have hat:popA A k k=(A k).dropLast:=by unfold popA;rw [if_pos rfl]
 have hne:∀ x,x ≠ k->popA A k x=A x:=fun x hx=>by unfold popA;rw [if_neg hx]
 have hkeep:∀ x v,F x=some v->w2.ownsRow B e sz v (A x).length ((A x).flatMap f):=fun x v hv=>own_keepM (h.row x v hv) hmod fun g hgv e=>by
  subst e;obtain ⟨cur,hh⟩:=own_heapM (h.row x v hv) hgv;exact h.map.not_cells _ _ _ hh
 have hob:∀ g,(Value.slice a n c).ownBlock=some g->(Value.slice a (n+1) c).ownBlock=some g:=fun g hg=>by cases a with | none=>cases hg | some p=>exact hg
 refine ⟨hm,fun x v hv=>?_,fun x hx=>?_,fun x y v u g hv hu h1 h2=>?_⟩
 ·by_cases hx:x=k
  ·subst hx;simp only [vPut,if_true] at hv;cases hv
   rw [hat];have h1:=hkeep x _ hF;rw [hn] at h1;have h2:=own_cutN h1 (Nat.le_succ n);have h3:(A x).dropLast.length=n:=by rw [List.length_dropLast,hn];rfl
   have h4:(A x).dropLast.flatMap f=((A x).flatMap f).take (n*sz):=by
    have e0:A x=(A x).dropLast++[(A x).getLast (fun e=>by rw [e] at hn;cases hn)]:=(List.dropLast_concat_getLast _).symm;have hl:((A x).dropLast.flatMap f).length=n*sz:=by rw [flat_length hf,h3]
    conv=>rhs;rw [e0,List.flatMap_append]
    rw [List.take_append_of_le_length (by omega),<- hl,List.take_length]
   rw [h3,h4];exact h2
  ·simp only [vPut,if_neg hx] at hv;rw [hne x hx];exact hkeep x v hv
 ·by_cases hk:x=k
  ·simp [vPut,hk] at hx
  ·simp only [vPut,if_neg hk] at hx;rw [hne x hk];exact h.no x hx
 ·by_cases hx:x=k
  ·by_cases hy:y=k
   ·rw [hx,hy]
   ·subst hx;simp only [vPut,if_true] at hv;cases hv
    simp only [vPut,if_neg hy] at hu;exact h.apart _ _ _ _ g hF hu (hob g h1) h2
  ·by_cases hy:y=k
   ·subst hy;simp only [vPut,if_true] at hu;cases hu
    simp only [vPut,if_neg hx] at hv;exact h.apart _ _ _ _ g hv hF h1 (hob g h2)
   ·simp only [vPut,if_neg hx] at hv;simp only [vPut,if_neg hy] at hu;exact h.apart x y v u g hv hu h1 h2
end
abbrev SpsAt:=AskAt 96 2 SnX.cells
abbrev IdxAt:=AskAt 3 1 (fun i:Nat=>[Value.int .i64 i])
end Go.Proofs.YticfcmdjplmaeaaGreatDoor
namespace Go.Proofs.YticfcmdjplmaeaaGreatDoor
open _root_.Go.Proofs.Tryz
open Go.RowKit
def ndSp (x:NdX):SnX:=⟨x.n.span,x.ov⟩
def askA (A:List UInt8->List SnX) (l:List NdX):List UInt8->List SnX:=l.foldl (fun A x=>pushA A x.n.name (ndSp x)) A
def backA (A:List UInt8->List SnX) (l:List NdX):List UInt8->List SnX:=l.foldl (fun A x=>popA A x.n.name) A
def ofN (n:List UInt8) (l:List NdX):List NdX:=l.filter fun x=>decide (x.n.name=n)
theorem askA_at:∀ (l:List NdX) (A:List UInt8->List SnX) (n:List UInt8),askA A l n=A n++(ofN n l).map ndSp
 | [],A,n=>by simp [askA,ofN]
 | x :: l,A,n=>by
  show askA (pushA A x.n.name (ndSp x)) l n=_
  rw [askA_at l];unfold pushA ofN;rw [List.filter_cons];by_cases h:n=x.n.name
  ·subst h;simp
  ·have h2:¬ x.n.name=n:=fun e=>h e.symm
   simp [h,h2]
theorem backA_at:∀ (l:List NdX) (A:List UInt8->List SnX) (n:List UInt8),backA A l n=(A n).take ((A n).length - (ofN n l).length)
 | [],A,n=>by simp [backA,ofN]
 | x :: l,A,n=>by
  show backA (popA A x.n.name) l n=_
  rw [backA_at l];unfold popA ofN;rw [List.filter_cons];by_cases h:n=x.n.name
  ·subst h;simp only [if_true,decide_true,List.length_cons,List.length_dropLast];rw [List.dropLast_eq_take,List.take_take];congr 1
   omega
  ·have h2:¬ x.n.name=n:=fun e=>h e.symm
   simp [h,h2]
theorem back_ask (A:List UInt8->List SnX) (l:List NdX):backA (askA A l) l=A:=by
 funext n;rw [backA_at,askA_at];simp
theorem askA_take {A:List UInt8->List SnX} {l:List NdX} {k:Nat} (hk:k < l.length):askA A (l.take (k+1))=pushA (askA A (l.take k)) l[k].n.name (ndSp l[k]):=by
 unfold askA;rw [List.take_succ_eq_append_getElem hk,List.foldl_append];rfl
theorem backA_take {A:List UInt8->List SnX} {l:List NdX} {k:Nat} (hk:k < l.length):backA A (l.take (k+1))=popA (backA A (l.take k)) l[k].n.name:=by
 unfold backA;rw [List.take_succ_eq_append_getElem hk,List.foldl_append];rfl
theorem ofN_le (n:List UInt8) (l:List NdX):(ofN n l).length<=l.length:=List.length_filter_le ..
theorem askA_len {A:List UInt8->List SnX} {l:List NdX} (n:List UInt8):(askA A l n).length<=(A n).length+l.length:=by
 rw [askA_at,List.length_append,List.length_map];have:=ofN_le n l;omega
theorem back_some {A:List UInt8->List SnX} {l:List NdX} {k:Nat} (hk:k < l.length):∃ m,(backA (askA A l) (l.take k) l[k].n.name).length=m+1:=by
 have h0:∀ n,(ofN n l).length=(ofN n (l.take k)).length+(ofN n (l.drop k)).length:=fun n=>by
  conv=>lhs;rw [<- List.take_append_drop k l]
  unfold ofN;rw [List.filter_append,List.length_append]
 have h1:=h0 l[k].n.name;have h2:1<=(ofN l[k].n.name (l.drop k)).length:=by
  rw [List.drop_eq_getElem_cons hk];unfold ofN;rw [List.filter_cons];simp
 rw [backA_at,askA_at];simp only [List.length_take,List.length_append,List.length_map];exact ⟨_,(Nat.succ_pred_eq_of_pos (by omega)).symm⟩
def spA (A:List UInt8->List SnX):List UInt8->List Spn:=fun n=>(A n).map SnX.s
section
variable {xs:List Rw} {needs:List Nd} {c:Chs} {A:List UInt8->List SnX}
theorem askOk_start {nn:List NdX} (hn:nn.map NdX.n=needs):AskOk xs needs (fun _=>none) (spA (askA (fun _=>[]) nn)):=fun n s=>by
 unfold spA;rw [askA_at];subst hn;simp only [List.nil_append,List.map_map,List.mem_map,Sol.Asked,solI,ofN,List.mem_filter,decide_eq_true_eq,Function.comp];constructor
 ·rintro ⟨x,⟨hx,rfl⟩,rfl⟩;exact .inl ⟨x,hx,rfl⟩
 ·rintro (⟨x,hx,e⟩ | ⟨a,r,h,_⟩)
  ·cases e;exact ⟨x,⟨hx,rfl⟩,rfl⟩
  ·cases h
theorem askOk_put {nx:List NdX} {n:List UInt8} {i:Nat} (hA:AskOk xs needs c (spA A)) (hc:c n=none) (hn:nx.map NdX.n=(rwAt xs i).needs):AskOk xs needs (Sol.putC c n i) (spA (askA A nx)):=fun m s=>by
 have hat:Sol.putC c n i n=some i:=by simp [Sol.putC]
 have hne:∀ a,a ≠ n->Sol.putC c n i a=c a:=fun a h=>by simp [Sol.putC,h]
 have h1:s ∈ spA (askA A nx) m ↔ s ∈ spA A m\/(m,s) ∈ (solI xs needs).nds i:=by
  unfold spA;rw [askA_at,List.map_append,List.mem_append];simp only [List.map_map,List.mem_map,solI,ofN,List.mem_filter,decide_eq_true_eq,Function.comp,<- hn];constructor
  ·rintro (h | ⟨x,⟨hx,rfl⟩,rfl⟩)
   ·exact .inl h
   ·exact .inr ⟨x,hx,rfl⟩
  ·rintro (h | ⟨x,hx,e⟩)
   ·exact .inl h
   ·cases e;exact .inr ⟨x,⟨hx,rfl⟩,rfl⟩
 rw [h1,hA m s];constructor
 ·rintro ((h | ⟨a,r,ha,h⟩) | h)
  ·exact .inl h
  ·exact .inr ⟨a,r,by rw [hne a (fun e=>by rw [e,hc] at ha;cases ha)];exact ha,h⟩
  ·exact .inr ⟨n,i,hat,h⟩
 ·rintro (h | ⟨a,r,ha,h⟩)
  ·exact .inl (.inl h)
  ·by_cases e:a=n
   ·subst e;rw [hat] at ha;cases ha;exact .inr h
   ·rw [hne a e] at ha;exact .inl (.inr ⟨a,r,ha,h⟩)
theorem nosol_unmet {fx:Fix} {nx:List NdX} {n:List UInt8} {i:Nat} (hn:nx.map NdX.n=(rwAt xs i).needs) {k r:Nat} (hk:k < nx.length) (hr:Sol.putC c n i nx[k].n.name=some r) (hb:hasS nx[k].n.span (rwAt xs r).v=false) :
  Sol.NoSol (solI xs needs) fx (Sol.putC c n i):=fun d hd _ he=>by
 refine Sol.no_met (n:=nx[k].n.name) (s:=nx[k].n.span) (.inr ⟨n,i,by simp [Sol.putC],?_⟩) hr hb hd he
 refine List.mem_map.2 ⟨nx[k].n,?_,rfl⟩
 rw [<- hn];exact List.mem_map.2 ⟨nx[k],List.getElem_mem hk,rfl⟩
theorem way_put {fx:Fix} {nx:List NdX} {n:List UInt8} {i:Nat} (hw:Sol.Way (solI xs needs) fx c) (hA:AskOk xs needs c (spA A)) (hne:A n ≠ []) (hc:c n=none) (hi:i ∈ mayL xs fx (spA A) n) (hn:nx.map NdX.n=(rwAt xs i).needs)
  (hm:∀ x ∈ nx,∀ r,Sol.putC c n i x.n.name=some r->hasS x.n.span (rwAt xs r).v=true):Sol.Way (solI xs needs) fx (Sol.putC c n i):=by
 cases he:A n with
 | nil=>exact absurd he hne
 | cons s l =>
  refine hw.put (s:=s.s) ((hA n s.s).1 (by unfold spA;rw [he];simp)) hc ((mayL_mem hA).1 hi) fun m s' r' hx hr=>?_
  obtain ⟨y,hy,e⟩:=List.mem_map.1 hx;cases e
  rw [<- hn] at hy;obtain ⟨x,hxn,rfl⟩:=List.mem_map.1 hy;exact hm x hxn r' hr
theorem nosol_all {fx:Fix} {n:List UInt8} (hA:AskOk xs needs c (spA A)) (hne:A n ≠ []) (h:∀ i ∈ mayL xs fx (spA A) n,Sol.NoSol (solI xs needs) fx (Sol.putC c n i)):Sol.NoSol (solI xs needs) fx c:=by
 cases he:A n with
 | nil=>exact absurd he hne
 | cons s l=>exact Sol.noSol_branch (n:=n) (s:=s.s) ((hA n s.s).1 (by unfold spA;rw [he];simp)) fun r hr=>h r ((mayL_mem hA).2 hr)
theorem way_done {fx:Fix} (hw:Sol.Way (solI xs needs) fx c) (hA:AskOk xs needs c (spA A)) (hall:∀ n,A n ≠ []->c n ≠ none) (hfar:∀ a r,fx a=some (some r)->Sol.Far (solI xs needs) fx c a) :
  Sol.Sol (solI xs needs) c/\Sol.Con fx c:=hw.sol (fun n s hs=>hall n fun e=>by
 have:=(hA n s).2 hs;unfold spA at this;rw [e] at this;cases this) hfar
end
end Go.Proofs.YticfcmdjplmaeaaGreatDoor
namespace Go.Proofs.YticfcmdjplmaeaaGreatDoor
open _root_.Go.Proofs.Tryz
open Go.RowKit Go.Maps
def OrsX (X:Nat->Prop) (w:World) (v:Value) (l:List (List Bnd)):Prop:=∃ xs:List OrX,xs.map OrX.l=l/\(∀ x ∈ xs,BndsX X w x.v x.l)/\Sl w X 175 v l.length (xs.map OrX.v)
theorem OrsX.keep {X S:Nat->Prop} {w w':World} {v:Value} {l:List (List Bnd)} (h:OrsX X w v l) (hm:Mod S w w') (hs:∀ q,S q->X q):OrsX X w' v l:=by
 obtain ⟨xs,h1,h2,h3⟩:=h;exact ⟨xs,h1,fun x hx=>(h2 x hx).keepX hm fun k _ _ _ a b=>absurd (hs k a) b,h3.keep hm fun k _ _ a b=>absurd (hs k a) b⟩
theorem OrsX.no {X:Nat->Prop} {w:World} {v:Value} {l:List (List Bnd)} (h:OrsX X w v l):OrsAt w v l:=by
 obtain ⟨xs,h1,h2,h3⟩:=h;exact ⟨xs,h1,fun x hx=>(h2 x hx).no,h3.shrink fun _ _ f=>f.elim⟩
structure NdL (X:Nat->Prop) (w:World) (v:Value) (ns:List NdX):Prop where
 sl:Sl w X 98 v ns.length (ns.flatMap NdX.cells)
 each:∀ y ∈ ns,OrsX X w y.ov y.n.span.ors
theorem NdL.keep {X S:Nat->Prop} {w w':World} {v:Value} {ns:List NdX} (h:NdL X w v ns) (hm:Mod S w w') (hs:∀ q,S q->X q):NdL X w' v ns :=
 ⟨h.sl.keep hm fun k _ _ a b=>absurd (hs k a) b,fun y hy=>(h.each y hy).keep hm hs⟩
structure NdGood (ns:List NdX):Prop where
 few:ns.length<=1000
 span:∀ y ∈ ns,SpnOk y.n.span
 name:∀ y ∈ ns,y.n.name.length<=1000000
structure Sg where
 sb:Nat
 bb:Nat
 fb:Nat
 cb:Nat
 ab:Nat
 B:Nat
 rv:Value
 nv:Value
 xs:List RwX
 nx:Nat->List NdX
 nn:List NdX
 names:List (List UInt8)
 left:Int
def Sg.out (g:Sg):Nat->Prop:=fun q=>q=g.fb\/q=g.cb\/q=g.ab\/g.B<=q
abbrev Sg.xl (g:Sg):List Rw:=g.xs.map RwX.r
abbrev Sg.nl (g:Sg):List Nd:=g.nn.map NdX.n
structure Sg.Ok (g:Sg):Prop where
 few:g.xs.length<=20
 sum:∀ x ∈ g.xs,x.r.sum.length=32
 small:∀ x ∈ g.xs,Small x.r.v
 name:∀ x ∈ g.xs,x.r.name.length<=1000000
 nds:∀ i,i < g.xs.length->(g.nx i).map NdX.n=(rxAt g.xs i).r.needs/\NdGood (g.nx i)/\∀ y ∈ g.nx i,y.n.name ∈ g.names
 need:NdGood g.nn/\∀ y ∈ g.nn,y.n.name ∈ g.names
 names:g.names.length<=100000
 nlen:∀ n ∈ g.names,n.length<=1000000
 lt:g.sb < g.B/\g.bb < g.B/\g.fb < g.B/\g.cb < g.B/\g.ab < g.B
 ne:g.sb ≠ g.fb/\g.sb ≠ g.cb/\g.sb ≠ g.ab/\g.bb ≠ g.fb/\g.bb ≠ g.cb/\g.bb ≠ g.ab/\g.fb ≠ g.cb/\g.fb ≠ g.ab/\g.cb ≠ g.ab
theorem Sg.Ok.sbOut {g:Sg} (h:g.Ok):¬ g.out g.sb:=by
 have h1:=h.lt.1;rintro (e | e | e | e)
 ·exact h.ne.1 e
 ·exact h.ne.2.1 e
 ·exact h.ne.2.2.1 e
 ·omega
theorem Sg.Ok.bbOut {g:Sg} (h:g.Ok):¬ g.out g.bb:=by
 have h1:=h.lt.2.1;rintro (e | e | e | e)
 ·exact h.ne.2.2.2.1 e
 ·exact h.ne.2.2.2.2.1 e
 ·exact h.ne.2.2.2.2.2.1 e
 ·omega
def intV (i:Nat):Value:=.int .i64 i
structure SrFix (w:World) (g:Sg):Prop where
 big:g.B<=w.heap.size
 obj:w.heap[g.sb]? = some (.cells #[g.rv,g.nv,.map (some g.bb),.map (some g.fb),.map (some g.cb),.map (some g.ab),.int .i64 g.left,.bool true] 326 (0,0))
 rows:Sl w g.out 107 g.rv g.xs.length (g.xs.flatMap RwX.cells)
 pre:∀ i,i < g.xs.length->Sl w g.out 9 (rxAt g.xs i).pv (rxAt g.xs i).r.v.pre.length (strs (rxAt g.xs i).r.v.pre)
 nds:∀ i,i < g.xs.length->NdL g.out w (rxAt g.xs i).nv (g.nx i)
 need:NdL g.out w g.nv g.nn
 by_:∃ F,NMp w g.bb F/\(∀ n,F n=none->rowsN g.xl n=[])/\∀ n v,F n=some v->Sl w g.out 3 v (rowsN g.xl n).length ((rowsN g.xl n).map intV)
theorem SrFix.keep {S:Nat->Prop} {w w':World} {g:Sg} (h:SrFix w g) (hg:g.Ok) (hm:Mod S w w') (hs:∀ q,S q->g.out q):SrFix w' g:=by
 have hk:∀ {e:TypeId} {v:Value} {n:Nat} {l:List Value},Sl w g.out e v n l->Sl w' g.out e v n l:=fun hl=>hl.keep hm fun k _ _ a b=>absurd (hs k a) b
 obtain ⟨F,b1,b2,b3⟩:=h.by_;exact ⟨Nat.le_trans h.big hm.size,hm.keep h.obj (fun s=>hg.sbOut (hs _ s)),hk h.rows,fun i hi=>hk (h.pre i hi),fun i hi=>(h.nds i hi).keep hm hs,h.need.keep hm hs,
  F,b1.keep hm (fun s=>hg.bbOut (hs _ s)),b2,fun n v hv=>hk (b3 n v hv)⟩
def fixV (fx:Fix):Vt:=fun n=>(fx n).map fun o=>.int .i64 (match o with | some i=>(i:Int) | none=>-1)
def chV (c:Chs):Vt:=fun n=>(c n).map intV
structure SrAt (w:World) (g:Sg) (fx:Fix) (c:Chs) (A:List UInt8->List SnX):Prop where
 fix:SrFix w g
 fixed:NMp w g.fb (fixV fx)
 chosen:NMp w g.cb (chV c)
 asked:∃ F,SpsAt w g.B g.ab F A/\∀ k,F k ≠ none->k ∈ g.names
 ors:∀ k,∀ s ∈ A k,OrsX g.out w s.ov s.s.ors
 good:∀ k,∀ s ∈ A k,SpnOk s.s
theorem SrAt.no {w w':World} {g:Sg} {fx:Fix} {c:Chs} {A:List UInt8->List SnX} (h:SrAt w g fx c A) (hg:g.Ok) (hm:Mod No w w'):SrAt w' g fx c A:=by
 obtain ⟨F,a1,a2⟩:=h.asked;exact ⟨h.fix.keep hg hm (fun _ f=>f.elim),h.fixed.keep hm (fun f=>f),h.chosen.keep hm (fun f=>f),⟨F,a1.keep hm (fun f=>f) (fun _ _ _ _ _ f=>f),a2⟩,
  fun k s hs=>(h.ors k s hs).keep hm (fun _ f=>f.elim),h.good⟩
theorem SrFix.rowAt {w:World} {g:Sg} (h:SrFix w g) (hg:g.Ok) {i:Nat} (hi:i < g.xs.length):∃ b o c,g.rv=.slice (some ⟨b,o,none⟩) g.xs.length c/\g.xs.length<=c/\c<=maxLen/\w.rangeAt b (o+i*39) (rxAt g.xs i).cells:=by
 obtain ⟨b,o,c,e,h1,h2,-⟩:=h.rows.shape (by omega);refine ⟨b,o,c,e,h1,h2,?_⟩
 have h3:=h.rows;rw [e] at h3;have hget:rxAt g.xs i=g.xs[i]:=by unfold rxAt;simp [hi]
 rw [hget];exact Sl.atM (fun x hx=>x.cells_length (hg.sum x hx)) h3 hi
def askB (g:Sg) (w:World):Nat->Prop:=fun q=>q=g.cb\/q=g.ab\/(g.B<=q/\∃ cur fz,w.heap[q]? = some (.cells cur 96 fz))
theorem askB_out {g:Sg} {w:World} {q:Nat} (h:askB g w q):g.out q:=by
 rcases h with h | h | h
 ·exact .inr (.inl h)
 ·exact .inr (.inr (.inl h))
 ·exact .inr (.inr (.inr h.1))
theorem Mod.thenSp {g:Sg} {a b c:World} (h:Mod (askB g a) a b) (k:Mod (askB g b) b c):Mod (askB g a) a c :=
 h.then k fun i hi ht=>by
  rcases ht with ht | ht | ⟨ht,cur,fz,hb⟩
  ·exact .inl ht
  ·exact .inr (.inl ht)
  ·by_cases hs:askB g a i
   ·exact hs
   ·rw [h.block i hi hs] at hb;exact .inr (.inr ⟨ht,cur,fz,hb⟩)
theorem Mod.noSp {g:Sg} {a b:World} (h:Mod No a b):Mod (askB g a) a b:=h.weaken fun _ _ f=>f.elim
theorem Sl.keepSp {g:Sg} {w w':World} {e:TypeId} {v:Value} {n:Nat} {xs:List Value} (h:Sl w No e v n xs) (hm:Mod (askB g w) w w') (hc:∀ cur t fz,w.heap[g.cb]? ≠ some (.cells cur t fz)) (ha:∀ cur t fz,w.heap[g.ab]? ≠ some (.cells cur t fz))
  (he:e ≠ 96):Sl w' No e v n xs:=h.keep hm fun k cur fz hk _ hb=>by
 rcases hk with rfl | rfl | ⟨_,cur2,fz2,hb2⟩
 ·exact hc _ _ _ hb
 ·exact ha _ _ _ hb
 ·rw [hb] at hb2;cases hb2;exact he rfl
section
variable {w w':World} {g:Sg} {fx:Fix} {c:Chs} {A:List UInt8->List SnX}
theorem SrAt.cbNot (h:SrAt w g fx c A) (cur:Array Value) (t:TypeId) (fz:Nat × Nat):w.heap[g.cb]? ≠ some (.cells cur t fz):=h.chosen.not_cells cur t fz
theorem SrAt.abNot (h:SrAt w g fx c A) (cur:Array Value) (t:TypeId) (fz:Nat × Nat):w.heap[g.ab]? ≠ some (.cells cur t fz):=by
 obtain ⟨F,a1,-⟩:=h.asked;exact a1.map.not_cells cur t fz
def leftN (xl:List Rw) (c:Chs):Nat:=(xl.filter fun r=>decide (c r.name=none)).length
theorem leftN_le (xl:List Rw) (c:Chs):leftN xl c<=xl.length:=List.length_filter_le ..
theorem leftN_put {xl:List Rw} {c:Chs} {n:List UInt8} {i:Nat} (hc:c n=none) (hi:i ∈ rowsN xl n):leftN xl (Sol.putC c n i) < leftN xl c:=by
 obtain ⟨h1,h2⟩:=rowsN_mem.1 hi;rw [rwAt_get h1] at h2;have hm:xl[i] ∈ xl:=List.getElem_mem h1;unfold leftN;have hsub:∀ (l:List Rw),(l.filter fun r=>decide (Sol.putC c n i r.name=none)).length+(l.filter fun r=>decide (r.name=n)).length<=(l.filter fun r=>decide (c r.name=none)).length:=by
  intro l;induction l with
  | nil=>simp
  | cons x l ih =>
   simp only [List.filter_cons];by_cases hx:x.name=n
   ·have h3:Sol.putC c n i x.name=some i:=by simp [Sol.putC,hx]
    have h4:c x.name=none:=by rw [hx];exact hc
    rw [if_neg (by rw [h3];simp),if_pos (by rw [hx];simp),if_pos (by rw [h4];simp)];simp only [List.length_cons];omega
   ·have h3:Sol.putC c n i x.name=c x.name:=by simp [Sol.putC,hx]
    rw [h3,if_neg (show ¬ decide (x.name=n)=true by simpa using hx)];by_cases h4:c x.name=none
    ·rw [if_pos (by rw [h4];simp),if_pos (by rw [h4];simp)];simp only [List.length_cons];omega
    ·rw [if_neg (by simpa using h4),if_neg (by simpa using h4)];omega
 have h5:=hsub xl;have h6:0 < (xl.filter fun r=>decide (r.name=n)).length:=List.length_pos_of_mem (List.mem_filter.2 ⟨hm,by simp [h2]⟩);omega
structure WayAt (w:World) (g:Sg) (fx:Fix) (c:Chs) (A:List UInt8->List SnX):Prop where
 at_:SrAt w g fx c A
 way:Sol.Way (solI g.xl g.nl) fx c
 ask:AskOk g.xl g.nl c (spA A)
 room:∀ k,(A k).length+leftN g.xl c*1000<=1000000
theorem WayAt.row (h:WayAt w g fx c A) {a:List UInt8} {i:Nat} (hi:c a=some i):i < g.xs.length/\(rwAt g.xl i).name=a:=by
 have h1:=rowsN_mem.1 (h.way.mem a i hi);rw [List.length_map] at h1;exact h1
end
end Go.Proofs.YticfcmdjplmaeaaGreatDoor
namespace Go.Proofs.YticfcmdjplmaeaaGreatDoor
open _root_.Go.Proofs.Tryz
open Go.RowKit
theorem indexfunc_spx (g:Nat) (lb:Array Value) (eg:∀ args w,(callFunc g args).run prog w=.ok (.enter g args) w) (p:SnX->Bool) (xs:List SnX) (hx:xs.length<=1000000) (hc:∀ x ∈ xs,(SnX.cells x).length=2) (v:Value) (w:World) (hv:Sl w No 96 v xs.length (xs.flatMap SnX.cells))
  (hp:∀ i (hi:i < xs.length),∀ W,Mod No w W->Calls prog g (#[.agg (SnX.cells xs[i]).toArray]++lb) W fun e w'=>e=.returned (.bool (p xs[i]))/\Mod No W w') :
  Calls prog 334 #[v,.func (.func g) #[] lb] w fun e w'=>e=.returned (.int .i64 (findI p xs))/\Mod No w w':=by
 refine calls_hide fun R hR=>?_
 obtain ⟨va,vc,rfl⟩:=hv.len;have HV:=zh hv;have HP:=zh hp;have HCL:=zh hc;clear hv hp hc;go_enter func334,ntmps334
 go_wp2_with fail
 go_loopw [8] (fun q wr=>∃ k:Nat,k<=xs.length/\q=.int .i64 k/\Mod No w wr/\∀ i (hi:i < xs.length),i < k->p xs[i]=false) (fun q _=>xs.length - (intOf q).toNat)
 case atStart=>exact ⟨0,by omega,rfl,Mod.refl _ _,fun i _ hi=>absurd hi (by omega)⟩
 case round =>
  obtain ⟨k,hk,rfl,hmod,hno⟩:=hrel;have HM:=zh hmod;have HNO:=zh hno;have hk0:(0:Int)<=(k:Int):=Int.natCast_nonneg _;clear hmod hno;by_cases hlt:k < xs.length
  ·have hk1:(k:Int) < (xs.length:Int):=by omega
   obtain ⟨b,o,c,hvs,_⟩:=HV.out.shape (by omega);cases hvs
   have hrg:=HM.out.rangeAt (Sl.atM HCL.out HV.out hlt) (fun f=>f);have HRG:=zh hrg;have HCK:=zh (HCL.out _ (List.getElem_mem hlt));have HC:=zh (HP.out k hlt _ HM.out);have HN:=zh (show p xs[k]=false->∀ i (hi:i < xs.length),i < k+1->p xs[i]=false from fun h i hi hik=>by
    rcases Nat.lt_or_ge i k with h3 | h3
    ·exact HNO.out i hi h3
    ·obtain rfl:i=k:=by omega
     exact h)
   have HH:=zh (show p xs[k]=true->findI p xs=(k:Int) from fun h=>findI_hit hlt HNO.out h);clear HNO hrg;generalize SnX.cells xs[k]=cs at *;go_wp2_with (refine wpList_load_mid rfl 96 _ rfl b (o+k*2) rfl cs _ HRG.out (underlying96) rfl (by rw [HCK.out];kernel_rfl) ?_)
   with_reducible refine HC.out.mono ?_
   rintro e w2 ⟨rfl,hm2⟩;have HM2:=zh (HM.out.trans hm2);clear hm2 HC HRG HCK;generalize p xs[k]=pk at *;rcases pk with _ | _
   ·go_wp2_with fail
    exact ⟨⟨k+1,by omega,rfl,HM2.out,HN.out (by trivial)⟩,by show xs.length - ((k:Int)+1).toNat < xs.length - (k:Int).toNat;omega⟩
   ·have hf:=HH.out (by trivial);go_wp2_with fail
    refine fin hR ⟨?_,HM2.out⟩
    rw [hf];rfl
  ·go_wp2_with fail
   refine fin hR ⟨?_,HM.out⟩
   rw [findI_none (p:=p) (l:=xs) (fun i hi=>HNO.out i hi (by omega))];rfl
theorem containsfunc_spx (g:Nat) (lb:Array Value) (eg:∀ args w,(callFunc g args).run prog w=.ok (.enter g args) w) (p:SnX->Bool) (xs:List SnX) (hx:xs.length<=1000000) (hc:∀ x ∈ xs,(SnX.cells x).length=2) (v:Value) (w:World) (hv:Sl w No 96 v xs.length (xs.flatMap SnX.cells))
  (hp:∀ i (hi:i < xs.length),∀ W,Mod No w W->Calls prog g (#[.agg (SnX.cells xs[i]).toArray]++lb) W fun e w'=>e=.returned (.bool (p xs[i]))/\Mod No W w') :
  Calls prog 331 #[v,.func (.func g) #[] lb] w fun e w'=>e=.returned (.bool (xs.any p))/\Mod No w w':=by
 refine calls_hide fun R hR=>?_
 have HC:=zh (indexfunc_spx g lb eg p xs hx hc v w hv hp);obtain ⟨va,vc,rfl⟩:=hv.len;have HA:=zh (findI_any p xs);clear hv hp;go_enter func331,ntmps331
 go_wp2_with fail
 with_reducible refine HC.out.mono ?_
 rintro e w2 ⟨rfl,hm2⟩;have HM2:=zh hm2;clear hm2 HC;generalize findI p xs=r at *;go_wp2_with fail
 refine fin hR ⟨bool_ret ?_,HM2.out⟩
 exact HA.out
end Go.Proofs.YticfcmdjplmaeaaGreatDoor
namespace Go.Proofs.YticfcmdjplmaeaaGreatDoor
open _root_.Go.Proofs.Tryz
open Go.RowKit Go.Maps
theorem rxAt_mem {xs:List RwX} {i:Nat} (hi:i < xs.length):rxAt xs i ∈ xs:=by
 have:rxAt xs i=xs[i]:=by unfold rxAt;simp [hi]
 rw [this];exact List.getElem_mem hi
theorem yloadZ {ty:TypeId} {p:Addr} {v:Value} {w:World} {o:Oper} {ρ:Operand->Value} (hl:(loadVar ty p).run prog w=.ok v w) (x:Operand) (ho:o.op=.load ty x) (hx:ρ x=.pointer (some p)) :
  (execOp ρ o).run prog w=.ok (.value v) w:=by
 unfold execOp;simp only [ho,hx,Instr.loadAt,Instr.sureAddr,Sem.run_bind,Sem.run_pure,Result.andThen_ok,hl]
theorem SrFix.cells {w:World} {g:Sg} (h:SrFix w g) (hg:g.Ok) {i:Nat} (hi:i < g.xs.length):∃ b o c,g.rv=.slice (some ⟨b,o,none⟩) g.xs.length c ∧
  w.cell? ⟨b,o+i*39,none⟩=some (strV (rxAt g.xs i).r.name)/\w.rangeAt b (o+i*39+1) (verCs (rxAt g.xs i).r.v (rxAt g.xs i).pv)/\w.cell? ⟨b,o+i*39+38,none⟩=some (rxAt g.xs i).nv:=by
 obtain ⟨b,o,c,e,-,-,hr⟩:=h.rowAt hg hi;refine ⟨b,o,c,e,hr 0 _ rfl,fun j u hj=>?_,hr 38 _ (rows_get38' (hg.sum _ (rxAt_mem hi)))⟩
 rw [Nat.add_assoc];refine hr (1+j) u ?_;have hlt:j < (verCs (rxAt g.xs i).r.v (rxAt g.xs i).pv).length:=(List.getElem?_eq_some_iff.1 hj).1;unfold RwX.cells;rw [Nat.add_comm 1 j,List.getElem?_cons_succ,List.getElem?_append_left hlt];exact hj
theorem load_verM {w:World} {b o:Nat} {v0 v1 v2:Int} {pa:Option Addr} {pn pc:Nat} (h:w.rangeAt b o [.int .i64 v0,.int .i64 v1,.int .i64 v2,.slice pa pn pc]) :
  (loadVar 40 ⟨b,o,none⟩).run prog w=.ok (.agg #[.int .i64 v0,.int .i64 v1,.int .i64 v2,.slice pa pn pc]) w :=
 run_loadVar_mid w b o 40 _ _ h underlying40 rfl (by kernel_rfl)
theorem load_spanQ {w:World} {b:Nat} {an:Bool} {oa:Option Addr} {om oc:Nat} (h:w.heap[b]? = some (.cells #[.bool an,.slice oa om oc] 96 (0,0))) :
  (loadVar 96 ⟨b,0,none⟩).run prog w=.ok (.agg #[.bool an,.slice oa om oc]) w :=
 run_loadVar_row (P:=prog) w b 96 96 _ (0,0) _ h underlying96 rfl (by kernel_rfl)
theorem fitsfn_any {g:Sg} (hg:g.Ok) (s:SnX) (hs:SpnOk s.s) {i:Nat} (hi:i < g.xs.length) (pb ib:Nat) (w:World) (hw:SrFix w g) (ho:OrsAt w s.ov s.s.ors)
  (hp:w.heap[pb]? = some (.cells #[.pointer (some ⟨g.sb,0,none⟩)] 280 (0,0))) (hib:w.heap[ib]? = some (.cells #[.int .i64 i] 3 (0,0))) :
  Calls prog 332 #[.agg (SnX.cells s).toArray,.pointer (some ⟨pb,0,none⟩),.pointer (some ⟨ib,0,none⟩)] w fun e w'=>e=.returned (.bool (!hasS s.s (rxAt g.xs i).r.v))/\Mod No w w':=by
 refine calls_hide fun R hR=>?_
 obtain ⟨oa,oc,hov⟩:∃ a c,s.ov=.slice a s.s.ors.length c:=by
  obtain ⟨_,-,-,h⟩:=ho;exact h.len
 obtain ⟨ua,uc,hup⟩:=(hw.pre i hi).len;have HCM:=zh (fun (W:World) (hm:Mod No w W)=>sphas_any s.s s.ov hs (rxAt g.xs i).r.v (rxAt g.xs i).pv (hg.small _ (rxAt_mem hi)) W (ho.keep hm (Apart.no _ _)) (.of (((hw.pre i hi).shrink (fun _ _ f=>f.elim)).kn hm)));obtain ⟨rb,ro,rc,hrv,-,hr1,-⟩:=hw.cells hg hi;have o0:=cell_ofA hw.obj (i:=0) (v:=g.rv) rfl;have p0:=cell_ofA hp (i:=0) (v:=.pointer (some ⟨g.sb,0,none⟩)) rfl;have i0:=cell_ofA hib (i:=0) (v:=.int .i64 i) rfl;rw [hrv] at o0;rw [hup] at hr1 HCM;rw [hov] at HCM;unfold SnX.cells;rw [hov];have hi1:(i:Int) < (g.xs.length:Int):=by omega
 have hi0:(0:Int)<=(i:Int):=Int.natCast_nonneg _;generalize hasS s.s (rxAt g.xs i).r.v=r at *;unfold verCs at hr1;unfold verV at HCM;generalize s.s.any=an at *;generalize s.s.ors.length=om at *;generalize (rxAt g.xs i).r.v.ma=v0 at *;generalize (rxAt g.xs i).r.v.mi=v1 at *;generalize (rxAt g.xs i).r.v.pa=v2 at *;generalize (rxAt g.xs i).r.v.pre.length=vn at *;clear hup hov hrv hw hg hs ho hp hib hi;go_enter func332,ntmps332
 go_upto_region 1 with fail
 obtain ⟨gx,hgx⟩:∃ g,g=w.heap.size:=⟨_,rfl⟩
 rw [<- hgx];generalize hw1:World.alloc w _=w1;obtain ⟨wA,hwA⟩:∃ z,z=w1.drew:=⟨_,rfl⟩
 have hmA:Mod No w wA:=by rw [hwA,<- hw1];exact ((Mod.refl No w).alloc _).drew
 have hxA:wA.heap[gx]? = some (.cells #[.bool an,.slice oa om oc] 96 (0,0)):=by rw [hwA,<- hw1,hgx];exact heap_alloc_new w _
 have o0:=hmA.cell o0 (fun f=>f);have p0:=hmA.cell p0 (fun f=>f);have i0:=hmA.cell i0 (fun f=>f);have HLS:=zh (fun (W:World) (hm:Mod No wA W)=>load_spanQ (hm.keep hxA (fun f=>f)));have HLV:=zh (fun (W:World) (hm:Mod No wA W)=>load_verM (hm.rangeAt (hmA.rangeAt hr1 (fun f=>f)) (fun f=>f)));have HMA:=zh hmA;have HWA:=zh hwA;have hS0:Mod No wA wA:=Mod.refl _ _;clear hw1 hgx hxA hmA hr1 hwA;refine wp_region_T (fun w'=>Mod No wA w') 99 (by kernel_rfl) ?_;rw [<- HWA.out];refine yT 0 (some 5) (.agg #[.bool an,.slice oa om oc]) hS0 ?_ ?_
 ·(intro w' hSw;exact yloadZ (HLS.out w' hSw) (.tmp 3) rfl rfl)
 simp only [Act.put,yB,yC,yD];refine yT 1 (some 6) ?_ hS0 ?_ ?_;rotate_left
 ·(intro w' hSw;have qp0:=hSw.cell p0 (fun f=>f);have qi0:=hSw.cell i0 (fun f=>f);have qo0:=hSw.cell o0 (fun f=>f);go_simp;try with_reducible rfl)
 simp only [Act.put,yB,yC,yD];refine yT 2 (some 7) ?_ hS0 ?_ ?_;rotate_left
 ·(intro w' hSw;have qp0:=hSw.cell p0 (fun f=>f);have qi0:=hSw.cell i0 (fun f=>f);have qo0:=hSw.cell o0 (fun f=>f);go_simp;try with_reducible rfl)
 simp only [Act.put,yB,yC,yD];refine yT 3 (some 8) ?_ hS0 ?_ ?_;rotate_left
 ·(intro w' hSw;have qp0:=hSw.cell p0 (fun f=>f);have qi0:=hSw.cell i0 (fun f=>f);have qo0:=hSw.cell o0 (fun f=>f);go_simp;try with_reducible rfl)
 simp only [Act.put,yB,yC,yD];refine yT 4 (some 9) ?_ hS0 ?_ ?_;rotate_left
 ·(intro w' hSw;have qp0:=hSw.cell p0 (fun f=>f);have qi0:=hSw.cell i0 (fun f=>f);have qo0:=hSw.cell o0 (fun f=>f);go_simp;try with_reducible rfl)
 simp only [Act.put,yB,yC,yD];refine yT 5 (some 10) ?_ hS0 ?_ ?_;rotate_left
 ·(intro w' hSw;have qp0:=hSw.cell p0 (fun f=>f);have qi0:=hSw.cell i0 (fun f=>f);have qo0:=hSw.cell o0 (fun f=>f);go_simp;try with_reducible rfl)
 simp only [Act.put,yB,yC,yD];refine yT 6 (some 11) ?_ hS0 ?_ ?_;rotate_left
 ·(intro w' hSw;have qp0:=hSw.cell p0 (fun f=>f);have qi0:=hSw.cell i0 (fun f=>f);have qo0:=hSw.cell o0 (fun f=>f);go_simp;try with_reducible rfl)
 simp only [Act.put,yB,yC,yD];refine yT 7 (some 12) ?_ hS0 ?_ ?_;rotate_left
 ·(intro w' hSw;have qp0:=hSw.cell p0 (fun f=>f);have qi0:=hSw.cell i0 (fun f=>f);have qo0:=hSw.cell o0 (fun f=>f);go_simp;try with_reducible rfl)
 simp only [Act.put,yB,yC,yD];refine yT 8 (some 13) (.agg #[.int .i64 v0,.int .i64 v1,.int .i64 v2,.slice ua vn uc]) hS0 ?_ ?_
 ·(intro w' hSw;exact yloadZ (HLV.out w' hSw) (.tmp 12) rfl rfl)
 simp only [Act.put,yB,yC,yD];refine wpAnyT_one 9 rfl (by kernel_rfl) rfl ?_;intro K hK;go_simp
 go_at_call 125
 with_reducible refine (HCM.out wA HMA.out).mono ?_
 rintro e wB ⟨rfl,hB⟩;have HMB:=zh (HMA.out.trans hB);show K _ _
 have hS1:=hB;refine hK.out _ _ (fun _=>hS1) ?_;clear hK K;refine yT 10 (some 15) ?_ hS1 ?_ ?_;rotate_left
 ·(intro w' hSw;have qp0:=hSw.cell p0 (fun f=>f);have qi0:=hSw.cell i0 (fun f=>f);have qo0:=hSw.cell o0 (fun f=>f);go_simp;try with_reducible rfl)
 simp only [Act.put,yB,yC,yD];refine yT 11 (some 4) ?_ hS1 ?_ ?_;rotate_left
 ·(intro w' hSw;have qp0:=hSw.cell p0 (fun f=>f);have qi0:=hSw.cell i0 (fun f=>f);have qo0:=hSw.cell o0 (fun f=>f);go_simp;try with_reducible rfl)
 simp only [Act.put];refine wpAnyT_done (by kernel_rfl) ?_ _
 go_wp2_with fail
 exact fin hR ⟨rfl,HMB.out⟩
theorem fix_look (fx:Fix) (n:List UInt8) (i:Nat):∃ (v:Int) (b:Bool),(fixV fx n).getD (.int .i64 0)=.int .i64 v/\(fixV fx n).isSome=b/\okFix fx n i = !(b && !(v == (i:Int))):=by
 unfold fixV okFix;cases fx n with
 | none=>exact ⟨0,false,rfl,rfl,by simp⟩
 | some o =>
  cases o with
  | none=>exact ⟨-1,true,rfl,rfl,by simp⟩
  | some j =>
   refine ⟨j,true,rfl,rfl,?_⟩
   by_cases h:j=i
   ·subst h;simp
   ·have h2:¬ ((j:Int)=(i:Int)):=by omega
    simp [h,h2]
theorem fits_any {g:Sg} (hg:g.Ok) {fx:Fix} {c:Chs} {A:List UInt8->List SnX} {i:Nat} (hi:i < g.xs.length) (w:World) (hw:SrAt w g fx c A) (hroom:∀ k,(A k).length<=1000000) :
  Calls prog 324 #[.pointer (some ⟨g.sb,0,none⟩),.int .i64 i] w fun e w'=>e=.returned (.bool (fitsB g.xl fx (spA A) i))/\Mod No w w':=by
 refine calls_hide fun R hR=>?_
 have hnm:(rwAt g.xl i).name=(rxAt g.xs i).r.name:=by rw [rxAt_r]
 have hvv:(rwAt g.xl i).v=(rxAt g.xs i).r.v:=by rw [rxAt_r]
 have hnl:=hg.name _ (rxAt_mem hi);obtain ⟨nm,hnm2⟩:∃ nm,nm=(rxAt g.xs i).r.name:=⟨_,rfl⟩
 rw [<- hnm2] at hnm hnl;obtain ⟨fv,fb,hf1,hf2,hf3⟩:=fix_look fx nm i;obtain ⟨F,ha1,-⟩:=hw.asked;have hrow:=ha1.row0 nm;obtain ⟨sa,sc,hsv⟩:=own_len hrow;have HCF:=zh (fun (W:World) (hm:Mod No w W) (pb ib:Nat) hp hib=>containsfunc_spx 332 #[.pointer (some ⟨pb,0,none⟩),.pointer (some ⟨ib,0,none⟩)] (fun _ _=>rfl) (fun s=>!hasS s.s (rxAt g.xs i).r.v) (A nm) (hroom nm) (fun _ _=>rfl)
  (.slice sa (A nm).length sc) W (by rw [<- hsv];exact (Sl.of_own hrow (fun _ _ f=>f)).kn hm)
  (fun j hj W2 hm2=>fitsfn_any hg (A nm)[j] (hw.good nm _ (List.getElem_mem hj)) hi pb ib W2 ((hw.fix.keep hg hm (fun _ f=>f.elim)).keep hg hm2 (fun _ f=>f.elim)) ((hw.ors nm _ (List.getElem_mem hj)).no.keep (hm.trans hm2) (Apart.no _ _)) (hm2.keep hp (fun f=>f)) (hm2.keep hib (fun f=>f))))
 have HFB:=zh (show fitsB g.xl fx (spA A) i=(!(fb && !(fv == (i:Int))) && !((A nm).any fun s=>!hasS s.s (rxAt g.xs i).r.v)) by
  unfold fitsB spA;rw [hnm,hvv,hf3];congr 1
  rw [List.all_map];generalize A nm=l;induction l with
  | nil=>rfl
  | cons s l ih=>simp only [List.all_cons,List.any_cons,ih,Function.comp,Bool.not_or,Bool.not_not])
 have HLF:=zh (fun (W:World) (hm:Mod No w W)=>(hw.fixed.keep hm (fun f=>f)).look (t:=282) (z:=.int .i64 0) underlying282 (by kernel_rfl) nm (by omega));have HLA:=zh (fun (W:World) (hm:Mod No w W)=>(ha1.map.keep hm (fun f=>f)).get (t:=324) (z:=.slice none 0 0) underlying324 (by kernel_rfl) nm (by omega));rw [hf1,hf2] at HLF;rw [hsv] at HLA;generalize fitsB g.xl fx (spA A) i=r at *;generalize (A nm).any (fun s=>!hasS s.s (rxAt g.xs i).r.v)=q at *;generalize (A nm).length=an at *;obtain ⟨rb,ro,rc,hrv,hr0,-,-⟩:=hw.fix.cells hg hi;rw [<- hnm2] at hr0;have o0:=cell_ofA hw.fix.obj (i:=0) (v:=g.rv) rfl;have o3:=cell_ofA hw.fix.obj (i:=3) (v:=.map (some g.fb)) rfl;have o5:=cell_ofA hw.fix.obj (i:=5) (v:=.map (some g.ab)) rfl;rw [hrv] at o0;have hi1:(i:Int) < (g.xs.length:Int):=by omega
 have hi0:(0:Int)<=(i:Int):=Int.natCast_nonneg _;unfold strV at hr0;generalize (⟨nm.toArray⟩:ByteArray)=NM at *;clear hrow hsv hf1 hf2 hf3 ha1 hnm hvv hnl hrv hw hroom hg hi hnm2;go_enter func324,ntmps324
 go_upto_region 1 with fail
 obtain ⟨pb,hpb⟩:∃ g,g=w.heap.size:=⟨_,rfl⟩
 obtain ⟨ib,hib⟩:∃ g,g=w.heap.size+1:=⟨_,rfl⟩
 rw [<- hib,<- hpb];generalize hw1:World.alloc (World.alloc w _) _=w1;obtain ⟨wA,hwA⟩:∃ z,z=w1.drew:=⟨_,rfl⟩
 have hmA:Mod No w wA:=by rw [hwA,<- hw1];exact (((Mod.refl No w).alloc _).alloc _).drew
 have hxp:wA.heap[pb]? = some (.cells #[.pointer (some ⟨g.sb,0,none⟩)] 280 (0,0)):=by rw [hwA,<- hw1,hpb];exact heap_alloc_old _ (heap_alloc_new w _)
 have hxi:wA.heap[ib]? = some (.cells #[.int .i64 i] 3 (0,0)):=by rw [hwA,<- hw1,hib];exact heap_at_new _ _ (by simp)
 have o0:=hmA.cell o0 (fun f=>f);have o3:=hmA.cell o3 (fun f=>f);have o5:=hmA.cell o5 (fun f=>f);have hr0:=hmA.cell hr0 (fun f=>f);have p0:=cell_ofA hxp (i:=0) (v:=.pointer (some ⟨g.sb,0,none⟩)) rfl;have i0:=cell_ofA hxi (i:=0) (v:=.int .i64 i) rfl;have HMA:=zh hmA;have HWA:=zh hwA;have HXP:=zh hxp;have HXI:=zh hxi;have hS0:Mod No wA wA:=Mod.refl _ _;clear hw1 hpb hib hxp hxi hmA hwA;refine wp_region_T (fun w'=>Mod No wA w') 99 (by kernel_rfl) ?_;rw [<- HWA.out];refine yT 0 (some 8) ?_ hS0 ?_ ?_;rotate_left
 ·(intro w' hSw;have qp0:=hSw.cell p0 (fun f=>f);have qi0:=hSw.cell i0 (fun f=>f);have qo0:=hSw.cell o0 (fun f=>f);have qo3:=hSw.cell o3 (fun f=>f);have qhr0:=hSw.cell hr0 (fun f=>f);go_simp;try with_reducible rfl)
 simp only [Act.put,yB,yC,yD];refine yT 1 (some 9) ?_ hS0 ?_ ?_;rotate_left
 ·(intro w' hSw;have qp0:=hSw.cell p0 (fun f=>f);have qi0:=hSw.cell i0 (fun f=>f);have qo0:=hSw.cell o0 (fun f=>f);have qo3:=hSw.cell o3 (fun f=>f);have qhr0:=hSw.cell hr0 (fun f=>f);go_simp;try with_reducible rfl)
 simp only [Act.put,yB,yC,yD];refine yT 2 (some 10) ?_ hS0 ?_ ?_;rotate_left
 ·(intro w' hSw;have qp0:=hSw.cell p0 (fun f=>f);have qi0:=hSw.cell i0 (fun f=>f);have qo0:=hSw.cell o0 (fun f=>f);have qo3:=hSw.cell o3 (fun f=>f);have qhr0:=hSw.cell hr0 (fun f=>f);go_simp;try with_reducible rfl)
 simp only [Act.put,yB,yC,yD];refine yT 3 (some 11) ?_ hS0 ?_ ?_;rotate_left
 ·(intro w' hSw;have qp0:=hSw.cell p0 (fun f=>f);have qi0:=hSw.cell i0 (fun f=>f);have qo0:=hSw.cell o0 (fun f=>f);have qo3:=hSw.cell o3 (fun f=>f);have qhr0:=hSw.cell hr0 (fun f=>f);go_simp;try with_reducible rfl)
 simp only [Act.put,yB,yC,yD];refine yT 4 (some 12) ?_ hS0 ?_ ?_;rotate_left
 ·(intro w' hSw;have qp0:=hSw.cell p0 (fun f=>f);have qi0:=hSw.cell i0 (fun f=>f);have qo0:=hSw.cell o0 (fun f=>f);have qo3:=hSw.cell o3 (fun f=>f);have qhr0:=hSw.cell hr0 (fun f=>f);go_simp;try with_reducible rfl)
 simp only [Act.put,yB,yC,yD];refine yT 5 (some 13) ?_ hS0 ?_ ?_;rotate_left
 ·(intro w' hSw;have qp0:=hSw.cell p0 (fun f=>f);have qi0:=hSw.cell i0 (fun f=>f);have qo0:=hSw.cell o0 (fun f=>f);have qo3:=hSw.cell o3 (fun f=>f);have qhr0:=hSw.cell hr0 (fun f=>f);go_simp;try with_reducible rfl)
 simp only [Act.put,yB,yC,yD];refine yT 6 (some 14) ?_ hS0 ?_ ?_;rotate_left
 ·(intro w' hSw;have qp0:=hSw.cell p0 (fun f=>f);have qi0:=hSw.cell i0 (fun f=>f);have qo0:=hSw.cell o0 (fun f=>f);have qo3:=hSw.cell o3 (fun f=>f);have qhr0:=hSw.cell hr0 (fun f=>f);go_simp;try with_reducible rfl)
 simp only [Act.put,yB,yC,yD];refine yT 7 (some 15) ?_ hS0 ?_ ?_;rotate_left
 ·(intro w' hSw;have qp0:=hSw.cell p0 (fun f=>f);have qi0:=hSw.cell i0 (fun f=>f);have qo0:=hSw.cell o0 (fun f=>f);have qo3:=hSw.cell o3 (fun f=>f);have qhr0:=hSw.cell hr0 (fun f=>f);go_simp;try with_reducible rfl)
 simp only [Act.put,yB,yC,yD];refine yT 8 (some 16) ?_ hS0 ?_ ?_;rotate_left
 ·(intro w' hSw;have qp0:=hSw.cell p0 (fun f=>f);have qi0:=hSw.cell i0 (fun f=>f);have qo0:=hSw.cell o0 (fun f=>f);have qo3:=hSw.cell o3 (fun f=>f);have qhr0:=hSw.cell hr0 (fun f=>f);go_simp;try with_reducible rfl)
 simp only [Act.put,yB,yC,yD];refine yT 9 (some 17) ?_ hS0 ?_ ?_;rotate_left
 ·(intro w' hSw;have qp0:=hSw.cell p0 (fun f=>f);have qi0:=hSw.cell i0 (fun f=>f);have qo0:=hSw.cell o0 (fun f=>f);have qo3:=hSw.cell o3 (fun f=>f);have qhr0:=hSw.cell hr0 (fun f=>f);go_simp;try with_reducible rfl)
 simp only [Act.put,yB,yC,yD];refine yT 10 (some 18) ?_ hS0 ?_ ?_;rotate_left
 ·(intro w' hSw;have qp0:=hSw.cell p0 (fun f=>f);have qi0:=hSw.cell i0 (fun f=>f);have qo0:=hSw.cell o0 (fun f=>f);have qo3:=hSw.cell o3 (fun f=>f);have qhr0:=hSw.cell hr0 (fun f=>f);go_simp;try with_reducible rfl)
 simp only [Act.put,yB,yC,yD];refine yT 11 (some 19) ?_ hS0 ?_ ?_;rotate_left
 ·(intro w' hSw;have qp0:=hSw.cell p0 (fun f=>f);have qi0:=hSw.cell i0 (fun f=>f);have qo0:=hSw.cell o0 (fun f=>f);have qo3:=hSw.cell o3 (fun f=>f);have qhr0:=hSw.cell hr0 (fun f=>f);go_simp;try with_reducible rfl)
 simp only [Act.put,yB,yC,yD];refine yT 12 (some 20) ?_ hS0 ?_ ?_;rotate_left
 ·(intro w' hSw;have ql:=HLF.out w' (HMA.out.trans hSw);go_simp;try with_reducible rfl)
 simp only [Act.put,yB,yC,yD];refine yT 13 (some 7) ?_ hS0 ?_ ?_;rotate_left
 ·(intro w' hSw;have qp0:=hSw.cell p0 (fun f=>f);have qi0:=hSw.cell i0 (fun f=>f);have qo0:=hSw.cell o0 (fun f=>f);have qo3:=hSw.cell o3 (fun f=>f);have qhr0:=hSw.cell hr0 (fun f=>f);go_simp;try with_reducible rfl)
 simp only [Act.put,yB,yC,yD];refine yT 14 (some 21) ?_ hS0 ?_ ?_;rotate_left
 ·(intro w' hSw;have qp0:=hSw.cell p0 (fun f=>f);have qi0:=hSw.cell i0 (fun f=>f);have qo0:=hSw.cell o0 (fun f=>f);have qo3:=hSw.cell o3 (fun f=>f);have qhr0:=hSw.cell hr0 (fun f=>f);go_simp;try with_reducible rfl)
 simp only [Act.put,yB,yC,yD];refine yT 15 (some 22) ?_ hS0 ?_ ?_;rotate_left
 ·(intro w' hSw;have qp0:=hSw.cell p0 (fun f=>f);have qi0:=hSw.cell i0 (fun f=>f);have qo0:=hSw.cell o0 (fun f=>f);have qo3:=hSw.cell o3 (fun f=>f);have qhr0:=hSw.cell hr0 (fun f=>f);go_simp;try with_reducible rfl)
 simp only [Act.put,yB,yC,yD];refine yT 16 (some 5) ?_ hS0 ?_ ?_;rotate_left
 ·(intro w' hSw;have qp0:=hSw.cell p0 (fun f=>f);have qi0:=hSw.cell i0 (fun f=>f);have qo0:=hSw.cell o0 (fun f=>f);have qo3:=hSw.cell o3 (fun f=>f);have qhr0:=hSw.cell hr0 (fun f=>f);go_simp;try with_reducible rfl)
 simp only [Act.put,yB,yC,yD];refine yT 17 (some 6) ?_ hS0 ?_ ?_;rotate_left
 ·(intro w' hSw;have qp0:=hSw.cell p0 (fun f=>f);have qi0:=hSw.cell i0 (fun f=>f);have qo0:=hSw.cell o0 (fun f=>f);have qo3:=hSw.cell o3 (fun f=>f);have qhr0:=hSw.cell hr0 (fun f=>f);go_simp;try with_reducible rfl)
 simp only [Act.put];refine wpAnyT_done (by kernel_rfl) ?_ _
 rcases fb with _ | _
 ·go_upto_region 4 with fail
  obtain ⟨wD,hwD⟩:∃ z,z=wA.drew:=⟨_,rfl⟩
  have hmD:Mod No wA wD:=by rw [hwD];exact (Mod.refl No wA).drew
  have o0:=hmD.cell o0 (fun f=>f);have o5:=hmD.cell o5 (fun f=>f);have hr0:=hmD.cell hr0 (fun f=>f);have p0:=hmD.cell p0 (fun f=>f);have i0:=hmD.cell i0 (fun f=>f);have HXPD:=zh (hmD.keep HXP.out (fun f=>f));have HXID:=zh (hmD.keep HXI.out (fun f=>f));have HMD:=zh (HMA.out.trans hmD);have HWD:=zh hwD;have hS0:Mod No wD wD:=Mod.refl _ _;clear hmD hwD;refine wp_region_T (fun w'=>Mod No wD w') 99 (by kernel_rfl) ?_;rw [<- HWD.out];refine yT 0 (some 29) ?_ hS0 ?_ ?_;rotate_left
  ·(intro w' hSw;have qp0:=hSw.cell p0 (fun f=>f);have qi0:=hSw.cell i0 (fun f=>f);have qo0:=hSw.cell o0 (fun f=>f);have qo5:=hSw.cell o5 (fun f=>f);have qhr0:=hSw.cell hr0 (fun f=>f);go_simp;try with_reducible rfl)
  simp only [Act.put,yB,yC,yD];refine yT 1 (some 30) ?_ hS0 ?_ ?_;rotate_left
  ·(intro w' hSw;have qp0:=hSw.cell p0 (fun f=>f);have qi0:=hSw.cell i0 (fun f=>f);have qo0:=hSw.cell o0 (fun f=>f);have qo5:=hSw.cell o5 (fun f=>f);have qhr0:=hSw.cell hr0 (fun f=>f);go_simp;try with_reducible rfl)
  simp only [Act.put,yB,yC,yD];refine yT 2 (some 31) ?_ hS0 ?_ ?_;rotate_left
  ·(intro w' hSw;have qp0:=hSw.cell p0 (fun f=>f);have qi0:=hSw.cell i0 (fun f=>f);have qo0:=hSw.cell o0 (fun f=>f);have qo5:=hSw.cell o5 (fun f=>f);have qhr0:=hSw.cell hr0 (fun f=>f);go_simp;try with_reducible rfl)
  simp only [Act.put,yB,yC,yD];refine yT 3 (some 32) ?_ hS0 ?_ ?_;rotate_left
  ·(intro w' hSw;have qp0:=hSw.cell p0 (fun f=>f);have qi0:=hSw.cell i0 (fun f=>f);have qo0:=hSw.cell o0 (fun f=>f);have qo5:=hSw.cell o5 (fun f=>f);have qhr0:=hSw.cell hr0 (fun f=>f);go_simp;try with_reducible rfl)
  simp only [Act.put,yB,yC,yD];refine yT 4 (some 33) ?_ hS0 ?_ ?_;rotate_left
  ·(intro w' hSw;have qp0:=hSw.cell p0 (fun f=>f);have qi0:=hSw.cell i0 (fun f=>f);have qo0:=hSw.cell o0 (fun f=>f);have qo5:=hSw.cell o5 (fun f=>f);have qhr0:=hSw.cell hr0 (fun f=>f);go_simp;try with_reducible rfl)
  simp only [Act.put,yB,yC,yD];refine yT 5 (some 34) ?_ hS0 ?_ ?_;rotate_left
  ·(intro w' hSw;have qp0:=hSw.cell p0 (fun f=>f);have qi0:=hSw.cell i0 (fun f=>f);have qo0:=hSw.cell o0 (fun f=>f);have qo5:=hSw.cell o5 (fun f=>f);have qhr0:=hSw.cell hr0 (fun f=>f);go_simp;try with_reducible rfl)
  simp only [Act.put,yB,yC,yD];refine yT 6 (some 35) ?_ hS0 ?_ ?_;rotate_left
  ·(intro w' hSw;have qp0:=hSw.cell p0 (fun f=>f);have qi0:=hSw.cell i0 (fun f=>f);have qo0:=hSw.cell o0 (fun f=>f);have qo5:=hSw.cell o5 (fun f=>f);have qhr0:=hSw.cell hr0 (fun f=>f);go_simp;try with_reducible rfl)
  simp only [Act.put,yB,yC,yD];refine yT 7 (some 36) ?_ hS0 ?_ ?_;rotate_left
  ·(intro w' hSw;have qp0:=hSw.cell p0 (fun f=>f);have qi0:=hSw.cell i0 (fun f=>f);have qo0:=hSw.cell o0 (fun f=>f);have qo5:=hSw.cell o5 (fun f=>f);have qhr0:=hSw.cell hr0 (fun f=>f);go_simp;try with_reducible rfl)
  simp only [Act.put,yB,yC,yD];refine yT 8 (some 37) ?_ hS0 ?_ ?_;rotate_left
  ·(intro w' hSw;have qp0:=hSw.cell p0 (fun f=>f);have qi0:=hSw.cell i0 (fun f=>f);have qo0:=hSw.cell o0 (fun f=>f);have qo5:=hSw.cell o5 (fun f=>f);have qhr0:=hSw.cell hr0 (fun f=>f);go_simp;try with_reducible rfl)
  simp only [Act.put,yB,yC,yD];refine yT 9 (some 38) ?_ hS0 ?_ ?_;rotate_left
  ·(intro w' hSw;have qp0:=hSw.cell p0 (fun f=>f);have qi0:=hSw.cell i0 (fun f=>f);have qo0:=hSw.cell o0 (fun f=>f);have qo5:=hSw.cell o5 (fun f=>f);have qhr0:=hSw.cell hr0 (fun f=>f);go_simp;try with_reducible rfl)
  simp only [Act.put,yB,yC,yD];refine yT 10 (some 39) ?_ hS0 ?_ ?_;rotate_left
  ·(intro w' hSw;have qp0:=hSw.cell p0 (fun f=>f);have qi0:=hSw.cell i0 (fun f=>f);have qo0:=hSw.cell o0 (fun f=>f);have qo5:=hSw.cell o5 (fun f=>f);have qhr0:=hSw.cell hr0 (fun f=>f);go_simp;try with_reducible rfl)
  simp only [Act.put,yB,yC,yD];refine yT 11 (some 40) ?_ hS0 ?_ ?_;rotate_left
  ·(intro w' hSw;have qp0:=hSw.cell p0 (fun f=>f);have qi0:=hSw.cell i0 (fun f=>f);have qo0:=hSw.cell o0 (fun f=>f);have qo5:=hSw.cell o5 (fun f=>f);have qhr0:=hSw.cell hr0 (fun f=>f);go_simp;try with_reducible rfl)
  simp only [Act.put,yB,yC,yD];refine yT 12 (some 41) ?_ hS0 ?_ ?_;rotate_left
  ·(intro w' hSw;have ql:=HLA.out w' (HMD.out.trans hSw);go_simp;try with_reducible rfl)
  simp only [Act.put,yB,yC,yD];refine yT 13 (some 42) ?_ hS0 ?_ ?_;rotate_left
  ·(intro w' hSw;have qp0:=hSw.cell p0 (fun f=>f);have qi0:=hSw.cell i0 (fun f=>f);have qo0:=hSw.cell o0 (fun f=>f);have qo5:=hSw.cell o5 (fun f=>f);have qhr0:=hSw.cell hr0 (fun f=>f);go_simp;try with_reducible rfl)
  simp only [Act.put,yB,yC,yD];refine wpAnyT_one 14 rfl (by kernel_rfl) rfl ?_;intro K hK;go_simp
  go_at_call 331
  with_reducible refine (HCF.out wD HMD.out pb ib HXPD.out HXID.out).mono ?_
  rintro e wB ⟨rfl,hB⟩;have HMB:=zh (HMD.out.trans hB);show K _ _
  have hS1:=hB;refine hK.out _ _ (fun _=>hS1) ?_;clear hK K;refine yT 15 (some 44) ?_ hS1 ?_ ?_;rotate_left
  ·(intro w' hSw;have qp0:=hSw.cell p0 (fun f=>f);have qi0:=hSw.cell i0 (fun f=>f);have qo0:=hSw.cell o0 (fun f=>f);have qo5:=hSw.cell o5 (fun f=>f);have qhr0:=hSw.cell hr0 (fun f=>f);go_simp;try with_reducible rfl)
  simp only [Act.put,yB,yC,yD];refine yT 16 (some 4) ?_ hS1 ?_ ?_;rotate_left
  ·(intro w' hSw;have qp0:=hSw.cell p0 (fun f=>f);have qi0:=hSw.cell i0 (fun f=>f);have qo0:=hSw.cell o0 (fun f=>f);have qo5:=hSw.cell o5 (fun f=>f);have qhr0:=hSw.cell hr0 (fun f=>f);go_simp;try with_reducible rfl)
  simp only [Act.put];refine wpAnyT_done (by kernel_rfl) ?_ _
  go_wp2_with fail
  refine fin hR ⟨bool_ret ?_,HMB.out⟩
  rw [HFB.out];simp
 ·by_cases hv:fv=(i:Int)
  ·have hv1:(fv == (i:Int))=true:=by simpa using hv
   go_upto_region 4 with fail
   obtain ⟨wD,hwD⟩:∃ z,z=wA.drew:=⟨_,rfl⟩
   have hmD:Mod No wA wD:=by rw [hwD];exact (Mod.refl No wA).drew
   have o0:=hmD.cell o0 (fun f=>f);have o5:=hmD.cell o5 (fun f=>f);have hr0:=hmD.cell hr0 (fun f=>f);have p0:=hmD.cell p0 (fun f=>f);have i0:=hmD.cell i0 (fun f=>f);have HXPD:=zh (hmD.keep HXP.out (fun f=>f));have HXID:=zh (hmD.keep HXI.out (fun f=>f));have HMD:=zh (HMA.out.trans hmD);have HWD:=zh hwD;have hS0:Mod No wD wD:=Mod.refl _ _;clear hmD hwD;refine wp_region_T (fun w'=>Mod No wD w') 99 (by kernel_rfl) ?_;rw [<- HWD.out];refine yT 0 (some 29) ?_ hS0 ?_ ?_;rotate_left
   ·(intro w' hSw;have qp0:=hSw.cell p0 (fun f=>f);have qi0:=hSw.cell i0 (fun f=>f);have qo0:=hSw.cell o0 (fun f=>f);have qo5:=hSw.cell o5 (fun f=>f);have qhr0:=hSw.cell hr0 (fun f=>f);go_simp;try with_reducible rfl)
   simp only [Act.put,yB,yC,yD];refine yT 1 (some 30) ?_ hS0 ?_ ?_;rotate_left
   ·(intro w' hSw;have qp0:=hSw.cell p0 (fun f=>f);have qi0:=hSw.cell i0 (fun f=>f);have qo0:=hSw.cell o0 (fun f=>f);have qo5:=hSw.cell o5 (fun f=>f);have qhr0:=hSw.cell hr0 (fun f=>f);go_simp;try with_reducible rfl)
   simp only [Act.put,yB,yC,yD];refine yT 2 (some 31) ?_ hS0 ?_ ?_;rotate_left
   ·(intro w' hSw;have qp0:=hSw.cell p0 (fun f=>f);have qi0:=hSw.cell i0 (fun f=>f);have qo0:=hSw.cell o0 (fun f=>f);have qo5:=hSw.cell o5 (fun f=>f);have qhr0:=hSw.cell hr0 (fun f=>f);go_simp;try with_reducible rfl)
   simp only [Act.put,yB,yC,yD];refine yT 3 (some 32) ?_ hS0 ?_ ?_;rotate_left
   ·(intro w' hSw;have qp0:=hSw.cell p0 (fun f=>f);have qi0:=hSw.cell i0 (fun f=>f);have qo0:=hSw.cell o0 (fun f=>f);have qo5:=hSw.cell o5 (fun f=>f);have qhr0:=hSw.cell hr0 (fun f=>f);go_simp;try with_reducible rfl)
   simp only [Act.put,yB,yC,yD];refine yT 4 (some 33) ?_ hS0 ?_ ?_;rotate_left
   ·(intro w' hSw;have qp0:=hSw.cell p0 (fun f=>f);have qi0:=hSw.cell i0 (fun f=>f);have qo0:=hSw.cell o0 (fun f=>f);have qo5:=hSw.cell o5 (fun f=>f);have qhr0:=hSw.cell hr0 (fun f=>f);go_simp;try with_reducible rfl)
   simp only [Act.put,yB,yC,yD];refine yT 5 (some 34) ?_ hS0 ?_ ?_;rotate_left
   ·(intro w' hSw;have qp0:=hSw.cell p0 (fun f=>f);have qi0:=hSw.cell i0 (fun f=>f);have qo0:=hSw.cell o0 (fun f=>f);have qo5:=hSw.cell o5 (fun f=>f);have qhr0:=hSw.cell hr0 (fun f=>f);go_simp;try with_reducible rfl)
   simp only [Act.put,yB,yC,yD];refine yT 6 (some 35) ?_ hS0 ?_ ?_;rotate_left
   ·(intro w' hSw;have qp0:=hSw.cell p0 (fun f=>f);have qi0:=hSw.cell i0 (fun f=>f);have qo0:=hSw.cell o0 (fun f=>f);have qo5:=hSw.cell o5 (fun f=>f);have qhr0:=hSw.cell hr0 (fun f=>f);go_simp;try with_reducible rfl)
   simp only [Act.put,yB,yC,yD];refine yT 7 (some 36) ?_ hS0 ?_ ?_;rotate_left
   ·(intro w' hSw;have qp0:=hSw.cell p0 (fun f=>f);have qi0:=hSw.cell i0 (fun f=>f);have qo0:=hSw.cell o0 (fun f=>f);have qo5:=hSw.cell o5 (fun f=>f);have qhr0:=hSw.cell hr0 (fun f=>f);go_simp;try with_reducible rfl)
   simp only [Act.put,yB,yC,yD];refine yT 8 (some 37) ?_ hS0 ?_ ?_;rotate_left
   ·(intro w' hSw;have qp0:=hSw.cell p0 (fun f=>f);have qi0:=hSw.cell i0 (fun f=>f);have qo0:=hSw.cell o0 (fun f=>f);have qo5:=hSw.cell o5 (fun f=>f);have qhr0:=hSw.cell hr0 (fun f=>f);go_simp;try with_reducible rfl)
   simp only [Act.put,yB,yC,yD];refine yT 9 (some 38) ?_ hS0 ?_ ?_;rotate_left
   ·(intro w' hSw;have qp0:=hSw.cell p0 (fun f=>f);have qi0:=hSw.cell i0 (fun f=>f);have qo0:=hSw.cell o0 (fun f=>f);have qo5:=hSw.cell o5 (fun f=>f);have qhr0:=hSw.cell hr0 (fun f=>f);go_simp;try with_reducible rfl)
   simp only [Act.put,yB,yC,yD];refine yT 10 (some 39) ?_ hS0 ?_ ?_;rotate_left
   ·(intro w' hSw;have qp0:=hSw.cell p0 (fun f=>f);have qi0:=hSw.cell i0 (fun f=>f);have qo0:=hSw.cell o0 (fun f=>f);have qo5:=hSw.cell o5 (fun f=>f);have qhr0:=hSw.cell hr0 (fun f=>f);go_simp;try with_reducible rfl)
   simp only [Act.put,yB,yC,yD];refine yT 11 (some 40) ?_ hS0 ?_ ?_;rotate_left
   ·(intro w' hSw;have qp0:=hSw.cell p0 (fun f=>f);have qi0:=hSw.cell i0 (fun f=>f);have qo0:=hSw.cell o0 (fun f=>f);have qo5:=hSw.cell o5 (fun f=>f);have qhr0:=hSw.cell hr0 (fun f=>f);go_simp;try with_reducible rfl)
   simp only [Act.put,yB,yC,yD];refine yT 12 (some 41) ?_ hS0 ?_ ?_;rotate_left
   ·(intro w' hSw;have ql:=HLA.out w' (HMD.out.trans hSw);go_simp;try with_reducible rfl)
   simp only [Act.put,yB,yC,yD];refine yT 13 (some 42) ?_ hS0 ?_ ?_;rotate_left
   ·(intro w' hSw;have qp0:=hSw.cell p0 (fun f=>f);have qi0:=hSw.cell i0 (fun f=>f);have qo0:=hSw.cell o0 (fun f=>f);have qo5:=hSw.cell o5 (fun f=>f);have qhr0:=hSw.cell hr0 (fun f=>f);go_simp;try with_reducible rfl)
   simp only [Act.put,yB,yC,yD];refine wpAnyT_one 14 rfl (by kernel_rfl) rfl ?_;intro K hK;go_simp
   go_at_call 331
   with_reducible refine (HCF.out wD HMD.out pb ib HXPD.out HXID.out).mono ?_
   rintro e wB ⟨rfl,hB⟩;have HMB:=zh (HMD.out.trans hB);show K _ _
   have hS1:=hB;refine hK.out _ _ (fun _=>hS1) ?_;clear hK K;refine yT 15 (some 44) ?_ hS1 ?_ ?_;rotate_left
   ·(intro w' hSw;have qp0:=hSw.cell p0 (fun f=>f);have qi0:=hSw.cell i0 (fun f=>f);have qo0:=hSw.cell o0 (fun f=>f);have qo5:=hSw.cell o5 (fun f=>f);have qhr0:=hSw.cell hr0 (fun f=>f);go_simp;try with_reducible rfl)
   simp only [Act.put,yB,yC,yD];refine yT 16 (some 4) ?_ hS1 ?_ ?_;rotate_left
   ·(intro w' hSw;have qp0:=hSw.cell p0 (fun f=>f);have qi0:=hSw.cell i0 (fun f=>f);have qo0:=hSw.cell o0 (fun f=>f);have qo5:=hSw.cell o5 (fun f=>f);have qhr0:=hSw.cell hr0 (fun f=>f);go_simp;try with_reducible rfl)
   simp only [Act.put];refine wpAnyT_done (by kernel_rfl) ?_ _
   go_wp2_with fail
   refine fin hR ⟨bool_ret ?_,HMB.out⟩
   rw [HFB.out];rw [hv1];simp
  ·have hv1:(fv == (i:Int))=false:=by simpa using hv
   have HRF:=zh (show r=false by rw [HFB.out,hv1];rfl);go_wp2_with fail
   refine fin hR ⟨bool_ret ?_,HMA.out⟩
   rw [HRF.out]
theorem info_intS:(prog.info? 3).map (fun i=>(i.zero,i.size,i.bytes))=some (some (.int .i64 0),1,8):=by kernel_rfl
theorem SrFix.byAt {w:World} {g:Sg} (h:SrFix w g) (n:List UInt8) (hn:n.length<=1000000):∃ v,(∀ W,Mod No w W->(Instr.lookup 323 (.map (some g.bb)) (.string ⟨n.toArray⟩) false).run prog W=.ok v W) ∧
  Sl w g.out 3 v (rowsN g.xl n).length ((rowsN g.xl n).map intV):=by
 obtain ⟨F,b1,b2,b3⟩:=h.by_;refine ⟨(F n).getD (.slice none 0 0),fun W hm=>(b1.keep hm (fun f=>f)).get (t:=323) underlying323 (by kernel_rfl) n (by omega),?_⟩
 cases hF:F n with
 | none=>rw [b2 n hF];exact .inl ⟨rfl,rfl,rfl⟩
 | some v=>exact b3 n v hF
theorem rowsN_le (xl:List Rw) (n:List UInt8):(rowsN xl n).length<=xl.length:=by
 unfold rowsN;rw [sortR_length];exact Nat.le_trans (List.length_filter_le _ _) (by simp)
theorem own_baseS {w:World} {base:Nat} {e:TypeId} {size:Nat} {v:Value} {n:Nat} {xs:List Value} (h:w.ownsRow base e size v n xs) {q:Nat} (hq:v.ownBlock=some q):base<=q:=by
 obtain ⟨-,⟨hv,-⟩ | ⟨g,cap,cur,hv,hg,-⟩⟩:=h
 ·rw [hv] at hq;cases hq
 ·rw [hv] at hq;cases hq;exact hg
theorem own_plus {w:World} {base base':Nat} {e:TypeId} {size:Nat} {v:Value} {n:Nat} {xs:List Value} (h:w.ownsRow base e size v n xs) (hb:base'<=base):w.ownsRow base' e size v n xs:=by
 obtain ⟨h1,h | ⟨g,cap,cur,hv,hg,r⟩⟩:=h
 ·exact ⟨h1,.inl h⟩
 ·exact ⟨h1,.inr ⟨g,cap,cur,hv,Nat.le_trans hb hg,r⟩⟩
theorem may_any {g:Sg} (hg:g.Ok) {fx:Fix} {c:Chs} {A:List UInt8->List SnX} (n:List UInt8) (hn:n.length<=1000000) (w:World) (hw:SrAt w g fx c A) (hroom:∀ k,(A k).length<=1000000) :
  Calls prog 304 #[.pointer (some ⟨g.sb,0,none⟩),strV n] w fun e w'=>(∃ v,e=.returned v/\w'.ownsRow w.heap.size 3 1 v (mayL g.xl fx (spA A) n).length ((mayL g.xl fx (spA A) n).map intV))/\Mod No w w':=by
 refine calls_hide fun R hR=>?_
 obtain ⟨bv,hby,hbs⟩:=hw.fix.byAt n hn;have hle:=rowsN_le g.xl n;have hmem:=fun i (hi:i ∈ rowsN g.xl n)=>(rowsN_mem.1 hi).1
 rw [List.length_map] at hle hmem;have hfew:=hg.few;have HF:=zh (fun i (hi:i < g.xs.length) (W:World) (hm:Mod No w W)=>fits_any hg (fx:=fx) (c:=c) hi W (hw.no hg hm) hroom);have HDF:=zh (show mayL g.xl fx (spA A) n=(rowsN g.xl n).filter (fitsB g.xl fx (spA A)) from rfl);generalize mayL g.xl fx (spA A) n=M at *;generalize fitsB g.xl fx (spA A)=p at *;generalize rowsN g.xl n=L at *;have HSL:=zh (show Sl w No 3 bv L.length (L.map intV) from hbs.shrink (fun _ _ f=>f.elim));obtain ⟨ba,bc,hbv⟩:=hbs.len;have c0:=cell_ofA hw.fix.obj (i:=2) (v:=.map (some g.bb)) rfl;have HBY:=zh hby;have HMEM:=zh hmem;subst hbv;obtain ⟨i0,hi0,hz0,hz1,hz2⟩:=info_parts info_intS;have HI:=zh (And.intro hi0 (And.intro hz0 (And.intro hz1 hz2)));have hll:L.length<=20:=by omega
 clear hw hroom hg hbs hby hmem hi0 hz0 hz1 hz2 hn hle hfew;unfold strV;generalize (⟨n.toArray⟩:ByteArray)=NM at *;have hbyw:=HBY.out w (Mod.refl _ _);go_enter func304,ntmps304
 go_wp2_with fail
 clear hbyw c0;go_loopw [5,15] (fun q5 q15 wr=>∃ (k:Nat) (v:Value),k<=L.length/\q15=.int .i64 (k:Int)/\q5=v/\wr.ownsRow w.heap.size 3 1 v ((L.take k).filter p).length (((L.take k).filter p).map intV)/\Mod No w wr) (fun _ q _=>L.length - (intOf q).toNat)
 case atStart=>exact ⟨0,.slice none 0 0,by omega,rfl,rfl,⟨rfl,.inl ⟨rfl,rfl⟩⟩,Mod.refl _ _⟩
 case round =>
  obtain ⟨k,v,hk,rfl,rfl,hown,hm⟩:=hrel;have HM:=zh hm;have HO:=zh hown;have hk0:(0:Int)<=(k:Int):=Int.natCast_nonneg _;obtain ⟨sa,sc,hsv⟩:=own_len hown;subst hsv;clear hm hown;by_cases hlt:k < L.length
  ·have hk1:(k:Int) < (L.length:Int):=by omega
   obtain ⟨b,o,c2,hvs,_⟩:=HSL.out.shape (by omega);cases hvs
   have hcell:=HM.out.cell (HSL.out.cellN (i:=k) (by rw [List.length_map];exact hlt)) (fun f=>f);rw [List.getElem_map] at hcell;unfold intV at hcell;have HC:=zh (HF.out L[k] (HMEM.out _ (List.getElem_mem hlt)) wr HM.out);have HTK:=zh (show (L.take (k+1)).filter p=(L.take k).filter p++(if p L[k] then [L[k]] else []) by
    rw [List.take_succ_eq_append_getElem hlt,List.filter_append];congr 1
    cases hp:p L[k] <;> simp [hp])
   have hle3:((L.take k).filter p).length<=20:=Nat.le_trans (List.length_filter_le _ _) (by rw [List.length_take];omega);generalize L[k]=i at *;have hi0:(0:Int)<=(i:Int):=Int.natCast_nonneg _;go_wp2_with fail
   with_reducible refine HC.out.mono ?_
   rintro e w2 ⟨rfl,hm2⟩;have HM2:=zh (HM.out.trans hm2);have HO2:=zh (own_keepM HO.out hm2 (fun _ _ f=>f));clear hm2 HC hcell HM HO;generalize (L.take k).filter p=T at *;generalize p i=pi at *;rcases pi with _ | _
   ·go_wp2_with fail
    exact ⟨⟨k+1,_,by omega,rfl,rfl,by rw [HTK.out];simp only [Bool.false_eq_true,if_false,List.append_nil];exact HO2.out,HM2.out⟩,by show L.length - ((k:Int)+1).toNat < L.length - (k:Int).toNat;omega⟩
   ·obtain ⟨hi0,hz0,hz1,hz2⟩:=HI.out;go_wp2_with (at_builtin;refine app_sl _ rfl _ _ 60 rfl w.heap.size 3 i0 (.int .i64 0) 1 8 underlying60 hi0 hz0 hz1 hz2 rfl (by decide) _ T.length _ rfl (own_keepM HO2.out ((Mod.refl No w2).alloc _) (fun _ _ f=>f)) No 3 (.slice (some ⟨w2.heap.size,0,none⟩) 1 1) 1 [.int .i64 (i:Int)] rfl (.inr ⟨w2.heap.size,0,1,_,_,rfl,Nat.le_refl _,by unfold maxLen;omega,fun f=>f,heap_alloc_new w2 _,by simp,fun i hi=>by simp⟩) rfl (fun u hu=>by rw [List.mem_singleton.1 hu];rfl) (by unfold maxLen;omega) (by omega) (Nat.le_trans HM2.out.size ((Mod.refl No w2).alloc _).size) ?_;intro v7 w7 hown7 hg7 _;have HO7:=zh hown7;have HG7:=zh hg7;clear hown7 hg7)
    have HM7:=zh (show Mod No w w7 from (HM2.out.trans ((Mod.refl No w2).alloc (.cells #[.int .i64 (i:Int)] 3))).then (Mod.of_grown (S:=fun q=>w.heap.size<=q) HG7.out (fun q e _=>own_baseS HO2.out e)) (fun q hq e=>Nat.lt_irrefl _ (Nat.lt_of_lt_of_le hq e)));exact ⟨⟨k+1,v7,by omega,rfl,rfl,by rw [HTK.out];simp only [if_true,List.length_append,List.length_singleton,List.map_append,List.map_cons,List.map_nil];exact HO7.out,HM7.out⟩,by show L.length - ((k:Int)+1).toNat < L.length - (k:Int).toNat;omega⟩
  ·obtain rfl:k=L.length:=by omega
   have HDF2:=zh (show M=(L.take L.length).filter p by rw [List.take_of_length_le (Nat.le_refl _)];exact HDF.out);go_wp2_with fail
   exact fin hR ⟨⟨_,rfl,by rw [HDF2.out];exact HO.out⟩,HM.out⟩
end Go.Proofs.YticfcmdjplmaeaaGreatDoor
