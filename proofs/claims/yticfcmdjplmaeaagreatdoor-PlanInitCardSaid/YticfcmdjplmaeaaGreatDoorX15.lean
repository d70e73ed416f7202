/-
  Layers 0 to 14: helps of the laws of indexes. No statement is proved here; no condition.
-/
import Derived.Test.YticfcmdjplmaeaaGreatDoorX07
import Derived.Test.YticfcmdjplmaeaaGreatDoorX14
import Derived.Test.YticfcmdjplmaeaaGreatDoorX09
import Derived.Test.YticfcmdjplmaeaaGreatDoorX01
set_option maxRecDepth 100000
set_option maxHeartbeats 64000000
namespace Go.Proofs.YticfcmdjplmaeaaGreatDoor
open _root_.Go.Proofs.Tryz
open Go.RowKit Go.Sort
theorem wrt_not {w:World} {B b g:Nat} {cs:Array Value} {ty:TypeId} {fz:Nat × Nat} (h:w.heap[g]? = some (.cells cs ty fz)) (ht:ty ≠ 5) (hg:g ≠ b):¬ Wrt B b w g:=by
 rintro (e | ⟨-,c,fz',hc⟩)
 ·exact hg e
 ·rw [h] at hc;exact ht (Obj.cells.inj (Option.some.inj hc)).2.1
theorem byte_bv (l:List UInt8):bv l=Lib.byteCells l:=rfl
theorem mod_wrt {w a c:World} {b:Nat} (h:Mod No w a) (k:Mod (Wrt b b a) a c) (hb:w.heap.size<=b):Mod No w c :=
 h.then k (fun i hi e=>by
  rcases e with e | ⟨e,-⟩
  ·omega
  ·omega)
theorem clonends_own (n:Nat) (hn:n<=1000000) (v:Value) (xs:List Value) (hl:xs.length=n*4) (h1:∀ u ∈ xs,u.oneCell'=true) (w:World) (hv:Sl w No 98 v n xs) :
  Calls prog 120 #[v] w fun e w'=>∃ v',e=.returned v'/\w'.ownsRow w.heap.size 98 4 v' n xs/\Mod No w w':=by
 refine calls_hide fun R hR=>?_
 obtain ⟨i0,hi0,hz0,hz1,hz2⟩:=info_parts info_need;have hq:∀ (w:World) (a:Option Addr) (n c n' c':Nat),(binOp .eql 44 (.slice a n c) (.slice none n' c')).run prog w=.ok (.bool a.isNone) w:=fun w a n c n' c'=>Lib.run_eql_slice_nil w _ _ a n c n' c' underlying44
 rcases hv with ⟨rfl,rfl,rfl⟩ | hsl
 ·go_enter func120,ntmps120
  go_wp2_with fail
  exact fin hR ⟨_,rfl,⟨rfl,.inl ⟨rfl,rfl⟩⟩,Mod.refl _ _⟩
 ·have HV:=zh (show Sl w No 98 v n xs from .inr hsl);obtain ⟨blk,o,c,cur,fz,rfl,hnc,hc,hX,hh,hle,hr⟩:=hsl;have H1:=zh h1;clear h1 hr hh hle;go_enter func120,ntmps120
  go_wp2_with (at_builtin;refine app_sl _ rfl _ _ 44 rfl w.heap.size 98 i0 (.agg #[.string ⟨#[]⟩,.bool false,.slice none 0 0,.string ⟨#[]⟩]) 4 64 underlying44 hi0 hz0 hz1 hz2 rfl (by decide) _ 0 [] rfl (own_none w _ _) No 98 _ n xs rfl (Sl.keep (S:=No) HV.out ((Mod.refl No w).alloc _) (fun _ _ _ f=>f.elim)) hl H1.out (by unfold maxLen;omega) (by omega) (by simp) ?_)
  intro v' w1 hown hgrow _;have hm:Mod No w w1:=((Mod.refl No w).alloc _).then (T:=fun k=>k=w.heap.size) (Mod.of_grown hgrow (by intro k hk _;simp [Value.ownBlock] at hk;exact hk.symm)) (fun i hi e=>by omega);have HX:=zh (show w1.ownsRow w.heap.size 98 4 v' n xs by simpa using hown);have HM:=zh hm;clear hm hown hgrow;go_wp2_with fail
  exact fin hR ⟨_,rfl,HX.out,HM.out⟩
theorem nds_told {w:World} {v:Value} {l:List Nd} (h:NdsAt w v l):∃ L:List NdY,L.map NdY.n=l/\Sl w No 98 v l.length (L.flatMap NdY.cells):=by
 obtain ⟨xs,h1,h2,h3⟩:=h;have key:∀ ys:List NdX,(∀ y ∈ ys,OrsAt w y.ov y.n.span.ors)->∃ L:List NdY,L.map NdY.n=ys.map NdX.n/\L.flatMap NdY.cells=ys.flatMap NdX.cells:=by
  intro ys;induction ys with
  | nil=>exact fun _=>⟨[],rfl,rfl⟩
  | cons y ys ih =>
   intro hy;obtain ⟨L,e1,e2⟩:=ih (fun z hz=>hy z (by simp [hz]));obtain ⟨zs,-,-,hz3⟩:=hy y (by simp);obtain ⟨a1,a2,e⟩:=hz3.len;refine ⟨⟨y.n,a1,y.n.span.ors.length,a2⟩ :: L,by simp [e1],?_⟩
   rw [List.flatMap_cons,List.flatMap_cons,e2];unfold NdY.cells NdX.cells;rw [e]
 obtain ⟨L,e1,e2⟩:=key xs h2;exact ⟨L,e1.trans h1,by rw [e2];exact h3⟩
structure PnZ where
 x:PnX
 ok:PnOk x
instance:Inhabited PnZ:=⟨⟨⟨⟨[],⟨0,0,0,[]⟩,List.replicate 32 0⟩,.slice none 0 0⟩,⟨by simp,_,_,_,rfl⟩⟩⟩
def PnZ.cells (z:PnZ):List Value:=PnX.cells z.x
theorem PnZ.len (z:PnZ):z.cells.length=37:=PnX.cells_length z.x z.ok.sum
theorem PnZ.one (z:PnZ):∀ v ∈ z.cells,v.oneCell'=true:=fun v hv=>z.ok.one v hv
def cfPn (x y:PnZ):Int:=cmpL x.x.p.name y.x.p.name
def PnHeap (w:World) (p:Option Addr) (L:List PnZ) (g:Nat) (rest:List Value):Prop:=(L=[])\/(p=some ⟨g,0,none⟩/\w.heap[g]? = some (.cells (L.flatMap PnZ.cells++rest).toArray 120 (0,0)))
theorem pn_z:∀ (ys:List PnX),(∀ y ∈ ys,PnOk y)->∃ L:List PnZ,L.map PnZ.x=ys
 | [],_=>⟨[],rfl⟩
 | y :: ys,h=>by
  obtain ⟨L,hL⟩:=pn_z ys (fun z hz=>h z (by simp [hz]));exact ⟨⟨y,h y (by simp)⟩ :: L,by rw [List.map_cons,hL]⟩
theorem z_flat (L:List PnZ):(L.map PnZ.x).flatMap PnX.cells=L.flatMap PnZ.cells:=by
 rw [List.flatMap_map];rfl
theorem byname_anyP (x y:PnZ) (w:World):Calls prog 163 #[.agg x.cells.toArray,.agg y.cells.toArray] w fun e w'=>e=.returned (.int .i64 (cfPn x y))/\Gr w w':=by
 refine calls_hide fun R hR=>?_
 have HC:=zh (compareS_any x.x.p.name y.x.p.name);have HX0:=zh (show x.cells[0]? = some (strV x.x.p.name) from rfl);have HY0:=zh (show y.cells[0]? = some (strV y.x.p.name) from rfl);unfold cfPn at *;generalize cmpL x.x.p.name y.x.p.name=r at *;generalize x.cells=cx at *;generalize y.cells=cy at *;unfold strV at *;generalize (⟨x.x.p.name.toArray⟩:ByteArray)=A1 at *;generalize (⟨y.x.p.name.toArray⟩:ByteArray)=A2 at *;go_enter func163,ntmps163
 go_upto_region 1 with fail
 obtain ⟨gx,hgx⟩:∃ g,g=w.heap.size:=⟨_,rfl⟩
 obtain ⟨gy,hgy⟩:∃ g,g=gx+1:=⟨_,rfl⟩
 rw [<- hgx,<- hgy];generalize hwA:World.alloc _ _=wA;have HGR:=zh (show Gr w wA by rw [<- hwA];exact ((Gr.refl w).alloc _).alloc _);have hx1:wA.heap[gx]? = some (.cells cx.toArray 120 (0,0)):=by rw [<- hwA,hgx];exact heap_alloc_old _ (heap_alloc_new w _)
 have hy1:wA.heap[gy]? = some (.cells cy.toArray 120 (0,0)):=by
  rw [<- hwA,hgy,hgx];have h1:=heap_alloc_new (w.alloc (.cells cx.toArray 120)) (.cells cy.toArray 120);rw [show (w.alloc (.cells cx.toArray 120)).heap.size=w.heap.size+1 by simp] at h1;exact h1
 have q0:=cell_ofA hx1 (i:=0) (v:=.string A1) (by rw [List.getElem?_toArray];exact HX0.out);have q1:=cell_ofA hy1 (i:=0) (v:=.string A2) (by rw [List.getElem?_toArray];exact HY0.out);clear hwA hx1 hy1 hgx hgy;go_wp2_with fail
 with_reducible refine (HC.out _).mono ?_
 rintro e w2 ⟨rfl,rfl⟩;go_wp2_with fail
 exact fin hR ⟨rfl,HGR.out⟩
theorem inspn_anyP (L:List PnZ) (hL:L.length<=1000000) (g cap a b:Nat) (rest:List Value) (w:World) (h:w.heap[g]? = some (.cells (L.flatMap PnZ.cells++rest).toArray 120 (0,0))) (hab:a<=b) (hb:b<=L.length)
  (d:List PnZ) (hd:insertionSort (ltOf cfPn) L.toArray a b=d.toArray) (hdl:d.length=L.length) :
  Calls prog 257 #[.slice (some ⟨g,0,none⟩) L.length cap,.int .i64 a,.int .i64 b,.func (.func 163) #[] #[]] w fun e w' =>
   e=.returned (.tuple #[])/\w'.heap[g]? = some (.cells (d.flatMap PnZ.cells++rest).toArray 120 (0,0))/\Mod (fun p=>p=g) w w':=by
 have hs:L.toArray.size=L.length:=by simp
 have hc:=AnyQ.insertionSortCmpFunc Tryz.insPn 37 (fun w=>isAgg120 w) (fun w=>sizeOf120 w) PnZ.cells PnZ.len PnZ.one cfPn 163 #[] g 0 cap a b L.toArray w (fun _ _=>rfl)
  (fun m os dk _ x y=>(byname_anyP x y _).mono fun e w' ⟨he,hg⟩=>⟨he,hg⟩) (holds_list PnZ.cells 37 PnZ.len (by omega) h) (lt_of_heap h) hab (by rw [hs];exact hb) (by rw [hs];omega)
 rw [hs] at hc;refine hc.mono fun e w' ⟨he,n,os,hw⟩=>⟨he,?_⟩
 rw [hd] at hw;rw [hw];exact world_sort PnZ.cells 37 PnZ.len (by omega) hdl h n os
theorem insnone_anyP (p:Option Addr) (cap:Nat) (w:World) :
  Calls prog 257 #[.slice p 0 cap,.int .i64 0,.int .i64 0,.func (.func 163) #[] #[]] w fun e w'=>e=.returned (.tuple #[])/\w'=w:=by
 refine calls_hide fun R hR=>?_
 go_enter func257,ntmps257
 go_wp2_with fail
 go_loopw [8] (fun q wr=>q=.int .i64 1/\wr=w) (fun _ _=>0)
 case atStart=>exact ⟨rfl,rfl⟩
 case round =>
  obtain ⟨rfl,rfl⟩:=hrel;go_wp2_with fail
  go_end0
  exact fin hR ⟨rfl,rfl⟩
theorem insall_anyP (L:List PnZ) (hL:L.length<=20) (p:Option Addr) (g cap:Nat) (rest:List Value) (w:World) (h:PnHeap w p L g rest) :
  Calls prog 257 #[.slice p L.length cap,.int .i64 0,.int .i64 L.length,.func (.func 163) #[] #[]] w fun e w' =>
   e=.returned (.tuple #[])/\PnHeap w' p (sortR (ltOf cfPn) L) g rest/\Mod (fun q=>q=g/\L ≠ []) w w':=by
 rcases h with rfl | ⟨rfl,h⟩
 ·exact (insnone_anyP p cap w).mono fun e w' ⟨he,hw⟩=>⟨he,.inl rfl,by rw [hw];exact Mod.refl _ _⟩
 ·by_cases hn:L=[]
  ·subst hn;exact (insnone_anyP _ cap w).mono fun e w' ⟨he,hw⟩=>⟨he,.inl rfl,by rw [hw];exact Mod.refl _ _⟩
  ·exact (inspn_anyP L (by omega) g cap 0 L.length rest w h (Nat.zero_le _) (Nat.le_refl _) _ (sort_list (ltOf cfPn) L) (sortR_length _ _)).mono fun e w' ⟨he,hh,hm⟩=>⟨he,.inr ⟨rfl,hh⟩,hm.weaken (fun _ _ e=>⟨e,hn⟩)⟩
theorem stable_anyP (L:List PnZ) (hL:L.length<=20) (p:Option Addr) (g cap:Nat) (rest:List Value) (w:World) (h:PnHeap w p L g rest) :
  Calls prog 211 #[.slice p L.length cap,.int .i64 L.length,.func (.func 163) #[] #[]] w fun e w' =>
   e=.returned (.tuple #[])/\PnHeap w' p (sortR (ltOf cfPn) L) g rest/\Mod (fun q=>q=g/\L ≠ []) w w':=by
 refine calls_hide fun R hR=>?_
 have HI:=zh (insall_anyP L hL p g cap rest w h);have hsl:=sortR_length (ltOf cfPn) L;obtain ⟨z,hz⟩:∃ z:Int,z=(L.length:Int):=⟨_,rfl⟩
 rw [<- hz] at HI ⊢;by_cases h20:L.length=20
 ·have H2:=zh (fun (W:World) (hW:PnHeap W p (sortR (ltOf cfPn) L) g rest)=>show Calls prog 257 #[.slice p L.length cap,.int .i64 20,.int .i64 20,.func (.func 163) #[] #[]] W fun e w' =>
    e=.returned (.tuple #[])/\PnHeap w' p (sortR (ltOf cfPn) L) g rest/\Mod (fun q=>q=g/\L ≠ []) W w' from by
   have hne:L ≠ []:=by intro e;rw [e] at h20;cases h20
   rcases hW with he | ⟨rfl,hW⟩
   ·rw [he] at hsl;rw [h20] at hsl;cases hsl
   ·have hc:=inspn_anyP (sortR (ltOf cfPn) L) (by omega) g cap 20 20 rest W hW (Nat.le_refl _) (by omega) (sortR (ltOf cfPn) L) (by
     unfold insertionSort;rw [insOuter,if_neg (by omega)]) rfl
    rw [hsl] at hc;exact hc.mono fun e w' ⟨he,hh,hm⟩=>⟨he,.inr ⟨rfl,hh⟩,hm.weaken (fun _ _ e=>⟨e,hne⟩)⟩)
  obtain rfl:z=20:=by omega
  rw [h20] at HI H2 ⊢;clear hz;generalize sortR (ltOf cfPn) L=S at *;clear h;go_enter func211,ntmps211
  go_wp2_with fail
  go_loopw [7,8] (fun a b wr=>(a=.int .i64 0/\b=.int .i64 20/\wr=w)\/(a=.int .i64 20/\b=.int .i64 40/\PnHeap wr p S g rest/\Mod (fun q=>q=g/\L ≠ []) w wr)) (fun a _ _=>20 - (intOf a).toNat)
  case atStart=>exact .inl ⟨rfl,rfl,rfl⟩
  case round =>
   rcases hrel with ⟨rfl,rfl,rfl⟩ | ⟨rfl,rfl,hh,hm⟩
   ·go_wp2_with fail
    with_reducible refine HI.out.mono ?_
    rintro e w2 ⟨rfl,hh,hm⟩;have HH:=zh hh;have HM:=zh hm;clear hh hm;go_wp2_with fail
    exact ⟨.inr ⟨rfl,rfl,HH.out,HM.out⟩,by decide⟩
   ·have HC:=zh (H2.out wr hh);have HM:=zh hm;clear hh hm H2 HI;go_wp2_with fail
    with_reducible refine HC.out.mono ?_
    rintro e w2 ⟨rfl,hh,hm⟩;have HH:=zh hh;have HM2:=zh (HM.out.trans hm);clear hh hm HC HM;go_wp2_with fail
    go_loopw [6] (fun a wr=>a=.int .i64 20/\wr=w2) (fun _ _=>0)
    case atStart=>exact ⟨rfl,rfl⟩
    case round =>
     obtain ⟨rfl,rfl⟩:=hrel;go_wp2_with fail
     go_end0
     exact fin hR ⟨rfl,HH.out,HM2.out⟩
 ·have hlt:¬ ((20:Int)<=z):=by omega
  have hlt2:¬ ((20:Int) < z):=by omega
  clear h hz;generalize L.length=n at *;generalize sortR (ltOf cfPn) L=S at *;go_enter func211,ntmps211
  go_wp2_with fail
  go_loopw [7,8] (fun a b wr=>a=.int .i64 0/\b=.int .i64 20/\wr=w) (fun _ _ _=>0)
  case atStart=>exact ⟨rfl,rfl,rfl⟩
  case round =>
   obtain ⟨rfl,rfl,rfl⟩:=hrel;go_wp2_with fail
   with_reducible refine HI.out.mono ?_
   rintro e w2 ⟨rfl,hh,hm⟩;have HH:=zh hh;have HM2:=zh hm;clear hh hm HI;go_wp2_with fail
   go_loopw [6] (fun a wr=>a=.int .i64 20/\wr=w2) (fun _ _=>0)
   case atStart=>exact ⟨rfl,rfl⟩
   case round =>
    obtain ⟨rfl,rfl⟩:=hrel;go_wp2_with fail
    go_end0
    exact fin hR ⟨rfl,HH.out,HM2.out⟩
theorem sortstable_anyP (L:List PnZ) (hL:L.length<=20) (p:Option Addr) (g cap:Nat) (rest:List Value) (w:World) (h:PnHeap w p L g rest) :
  Calls prog 162 #[.slice p L.length cap,.func (.func 163) #[] #[]] w fun e w' =>
   e=.returned (.tuple #[])/\PnHeap w' p (sortR (ltOf cfPn) L) g rest/\Mod (fun q=>q=g/\L ≠ []) w w':=by
 refine calls_hide fun R hR=>?_
 have HC:=zh (stable_anyP L hL p g cap rest w h);clear h;go_enter func162,ntmps162
 go_wp2_with fail
 with_reducible refine HC.out.mono ?_
 rintro e w2 ⟨rfl,hh,hm⟩;have HH:=zh hh;have HM:=zh hm;clear hh hm HC;go_wp2_with fail
 go_end0
 exact fin hR ⟨rfl,HH.out,HM.out⟩
theorem sortownP_any (B:Nat) (L:List PnZ) (hL:L.length<=20) (p:Option Addr) (cap:Nat) (w:World) (h:w.ownsRow B 120 37 (.slice p L.length cap) L.length (L.flatMap PnZ.cells)) :
  Calls prog 162 #[.slice p L.length cap,.func (.func 163) #[] #[]] w fun e w' =>
   e=.returned (.tuple #[])/\w'.ownsRow B 120 37 (.slice p L.length cap) L.length ((sortR (ltOf cfPn) L).flatMap PnZ.cells)/\Mod (fun q=>(Value.slice p L.length cap).ownBlock=some q) w w':=by
 by_cases hne:L=[]
 ·subst hne;refine (sortstable_anyP [] (by simp) p 0 cap [] w (.inl rfl)).mono ?_;rintro e w' ⟨rfl,-,hm⟩;have hm2:Mod No w w':=hm.weaken (fun _ _ e=>e.2 rfl);exact ⟨rfl,own_keepM h hm2 (fun _ _ f=>f),hm2.no⟩
 ·obtain ⟨hl,⟨hv,h0⟩ | ⟨g,c,cur,hv,hg,hh,hnc,hcm,hcs,ht⟩⟩:=h
  ·exact absurd (List.eq_nil_of_length_eq_zero h0) hne
  ·have hp:p=some ⟨g,0,none⟩:=by cases hv;rfl
   have hcc:c=cap:=by cases hv;rfl
   subst hp hcc;have hcur:cur=(L.flatMap PnZ.cells++cur.toList.drop (L.length*37)).toArray:=by rw [<- ht,List.take_append_drop]
   refine (sortstable_anyP L hL _ g c (cur.toList.drop (L.length*37)) w (.inr ⟨rfl,by rw [<- hcur];exact hh⟩)).mono ?_;rintro e w' ⟨rfl,hh2,hm⟩;have hs0:sortR (ltOf cfPn) L ≠ []:=fun e=>hne (List.eq_nil_of_length_eq_zero (by rw [<- sortR_length (ltOf cfPn) L,e];rfl))
   rcases hh2 with e | ⟨-,hh2⟩
   ·exact absurd e hs0
   ·have hfl:((sortR (ltOf cfPn) L).flatMap PnZ.cells).length=L.length*37:=by rw [flat_length PnZ.len,sortR_length]
    refine ⟨rfl,⟨hfl,.inr ⟨g,c,_,rfl,hg,hh2,hnc,hcm,?_,?_⟩⟩,hm.weaken (fun q _ e=>by rw [e.1];rfl)⟩
    ·have h1:cur.toList.length=c*37:=by rw [Array.length_toList,hcs]
     rw [List.size_toArray,List.length_append,hfl,List.length_drop];omega
    ·rw [<- hfl];simp
theorem clonepn_own (n:Nat) (hn:n<=1000000) (v:Value) (xs:List Value) (hl:xs.length=n*37) (h1:∀ u ∈ xs,u.oneCell'=true) (w:World) (hv:Sl w No 120 v n xs) :
  Calls prog 161 #[v] w fun e w'=>∃ v',e=.returned v'/\w'.ownsRow w.heap.size 120 37 v' n xs/\Mod No w w':=by
 refine calls_hide fun R hR=>?_
 obtain ⟨i0,hi0,hz0,hz1,hz2⟩:=info_parts info_pn;have hq:∀ (w:World) (a:Option Addr) (n c n' c':Nat),(binOp .eql 25 (.slice a n c) (.slice none n' c')).run prog w=.ok (.bool a.isNone) w:=fun w a n c n' c'=>Lib.run_eql_slice_nil w _ _ a n c n' c' underlying25
 rcases hv with ⟨rfl,rfl,rfl⟩ | hsl
 ·go_enter func161,ntmps161
  go_wp2_with fail
  exact fin hR ⟨_,rfl,⟨rfl,.inl ⟨rfl,rfl⟩⟩,Mod.refl _ _⟩
 ·have HV:=zh (show Sl w No 120 v n xs from .inr hsl);obtain ⟨blk,o,c,cur,fz,rfl,hnc,hc,hX,hh,hle,hr⟩:=hsl;have H1:=zh h1;clear h1 hr hh hle;go_enter func161,ntmps161
  go_wp2_with (at_builtin;refine app_sl _ rfl _ _ 25 rfl w.heap.size 120 i0 pinZero 37 96 underlying25 hi0 hz0 hz1 hz2 (by simp [pinZero,Value.cells]) (by decide) _ 0 [] rfl (own_none w _ _) No 120 _ n xs rfl (Sl.keep (S:=No) HV.out ((Mod.refl No w).alloc _) (fun _ _ _ f=>f.elim)) hl H1.out (by unfold maxLen;omega) (by omega) (by simp) ?_)
  intro v' w1 hown hgrow _;have hm:Mod No w w1:=((Mod.refl No w).alloc _).then (T:=fun k=>k=w.heap.size) (Mod.of_grown hgrow (by intro k hk _;simp [Value.ownBlock] at hk;exact hk.symm)) (fun i hi e=>by omega);have HX:=zh (show w1.ownsRow w.heap.size 120 37 v' n xs by simpa using hown);have HM:=zh hm;clear hm hown hgrow;go_wp2_with fail
  exact fin hR ⟨_,rfl,HX.out,HM.out⟩
end Go.Proofs.YticfcmdjplmaeaaGreatDoor
