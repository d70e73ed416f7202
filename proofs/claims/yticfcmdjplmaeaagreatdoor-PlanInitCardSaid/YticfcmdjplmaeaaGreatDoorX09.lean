/-
  Layers 0 to 14: helps of the laws of indexes. No statement is proved here; no condition.
-/
import Derived.Test.YticfcmdjplmaeaaGreatDoorX01
import Derived.Test.YticfcmdjplmaeaaGreatDoorX08
import Derived.Test.YticfcmdjplmaeaaGreatDoorX02
import Derived.Test.YticfcmdjplmaeaaGreatDoorX03
import Derived.Shelf.SlSortFuncK.ComposeK
set_option maxRecDepth 100000
set_option maxHeartbeats 64000000
namespace Go.Proofs.YticfcmdjplmaeaaGreatDoor
open _root_.Go.Proofs.Tryz
open Go.RowKit Go.Sort
theorem flat_list {α:Type} [Inhabited α] (enc:α->List Value) (k:Nat) (hk:∀ x,(enc x).length=k) (hk0:0 < k) (L:List α):flatK enc k L.toArray=(L.flatMap enc).toArray:=by
 have hl:=flat_length hk L;refine ext_get! (by simp [hl]) fun t ht=>?_
 have ht2:t < L.length*k:=by simpa using ht
 rw [get_flatK _ _ _ _ (by simpa using ht2)];have hi:t / k < L.length:=Nat.div_lt_of_lt_mul (by rw [Nat.mul_comm];exact ht2);have hj:t % k < (enc L[t / k]).length:=by rw [hk];exact Nat.mod_lt _ hk0
 have h:=flat_get hk L hi (j:=t % k) (u:=(enc L[t / k])[t % k]) (List.getElem?_eq_getElem hj);rw [Nat.div_add_mod'] at h;have e1:L.toArray[t / k]! = L[t / k]:=by simp [hi]
 rw [e1];have e2:(enc L[t / k])[t % k]! = (enc L[t / k])[t % k]:=by simp [hj]
 rw [e2];have e3:(L.flatMap enc).toArray[t]! = (L.flatMap enc)[t]?.getD default:=by simp
 rw [e3,h];rfl
theorem put_list (d old rest:List Value) (h:d.length=old.length):putCells id 0 d.toArray (old++rest).toArray=(d++rest).toArray:=by
 unfold putCells;apply Array.ext
 ·simp [h]
 ·intro i h1 h2;simp only [Array.getElem_mapIdx,Nat.zero_le,true_and,Nat.zero_add,List.size_toArray,id,Nat.sub_zero];by_cases hi:i < d.length
  ·rw [if_pos hi];simp [hi]
  ·rw [if_neg hi];simp only [List.getElem_toArray];rw [List.getElem_append_right (by omega),List.getElem_append_right (by omega)];simp [h]
theorem world_sort {α:Type} [Inhabited α] (enc:α->List Value) (k:Nat) (hk:∀ x,(enc x).length=k) (hk0:0 < k) {w:World} {g:Nat} {ty:TypeId} {L d:List α} {rest:List Value} (hd:d.length=L.length)
  (h:w.heap[g]? = some (.cells (L.flatMap enc++rest).toArray ty (0,0))) (n:Nat) (os:Array Obj) :
  (sortWorldK enc k w g 0 n d.toArray os).heap[g]? = some (.cells (d.flatMap enc++rest).toArray ty (0,0))/\Mod (fun p=>p=g) w (sortWorldK enc k w g 0 n d.toArray os):=by
 have hg:=lt_of_heap h;have e:(sortWorldK enc k w g 0 n d.toArray os).heap=(w.heap.modify g (onCells (putCells id 0 (d.flatMap enc).toArray)))++os:=by
  unfold sortWorldK putRowK putRow grow mapBlock;rw [flat_list enc k hk hk0 d];rfl
 constructor
 ·rw [e,Array.getElem?_append_left (by rw [Array.size_modify];exact hg),Array.getElem?_modify,if_pos rfl,h];show some (Obj.cells (putCells id 0 (d.flatMap enc).toArray (L.flatMap enc++rest).toArray) ty (0,0))=_
  rw [put_list _ _ _ (by rw [flat_length hk,flat_length hk,hd])]
 ·refine ⟨rfl,rfl,rfl,?_,fun i hi hn=>?_⟩
  ·rw [e];simp
  ·rw [e,Array.getElem?_append_left (by rw [Array.size_modify];exact hi),Array.getElem?_modify,if_neg (fun e=>hn e.symm)]
theorem holds_list {α:Type} [Inhabited α] (enc:α->List Value) (k:Nat) (hk:∀ x,(enc x).length=k) (hk0:0 < k) {w:World} {g:Nat} {ty:TypeId} {L:List α} {rest:List Value}
  (h:w.heap[g]? = some (.cells (L.flatMap enc++rest).toArray ty (0,0))):HoldsK enc k w g 0 L.toArray:=by
 intro j hj;rw [flat_list enc k hk hk0] at hj ⊢;have hj2:j < (L.flatMap enc).length:=by simpa using hj
 rw [Nat.zero_add];refine ⟨cell_of h ?_,frozen_of j h⟩
 rw [List.getElem?_append_left hj2,List.getElem?_eq_getElem hj2];show _=some ((L.flatMap enc).toArray[j]!)
 have e3:(L.flatMap enc).toArray[j]! = (L.flatMap enc)[j]?.getD default:=by simp
 rw [e3,List.getElem?_eq_getElem hj2];rfl
structure NdY where
 n:Nd
 oa:Option Addr
 om:Nat
 oc:Nat
instance:Inhabited NdY:=⟨⟨⟨[],⟨false,[]⟩,[]⟩,none,0,0⟩⟩
def NdY.cells (x:NdY):List Value:=[strV x.n.name,.bool x.n.span.any,.slice x.oa x.om x.oc,strV x.n.text]
theorem NdY.len (x:NdY):x.cells.length=4:=rfl
theorem NdY.one (x:NdY):∀ v ∈ x.cells,v.oneCell'=true:=by
 intro v hv;simp only [NdY.cells,List.mem_cons,List.not_mem_nil,or_false] at hv;rcases hv with rfl | rfl | rfl | rfl <;> rfl
def cfNd (x y:NdY):Int:=cmpL x.n.name y.n.name
theorem cfNd_lt (x y:NdY):ltOf cfNd x y=ltNd x.n y.n:=by
 unfold ltOf cfNd cmpL ltNd;by_cases h:x.n.name < y.n.name
 ·rw [if_pos h];simp [h]
 ·rw [if_neg h];by_cases h2:y.n.name < x.n.name
  ·simp [h,h2]
  ·simp [h,h2]
def NdHeap (w:World) (p:Option Addr) (L:List NdY) (g:Nat) (rest:List Value):Prop:=(L=[])\/(p=some ⟨g,0,none⟩/\w.heap[g]? = some (.cells (L.flatMap NdY.cells++rest).toArray 98 (0,0)))
theorem sort_nds (L:List NdY):(sortR (ltOf cfNd) L).map NdY.n=sortR ltNd (L.map NdY.n):=by
 rw [show ltOf cfNd=fun x y=>ltNd x.n y.n from funext fun x=>funext fun y=>cfNd_lt x y,sortR_map]
theorem byname_anyM (x y:NdY) (w:World):Calls prog 108 #[.agg x.cells.toArray,.agg y.cells.toArray] w fun e w'=>e=.returned (.int .i64 (cfNd x y))/\Gr w w':=by
 refine calls_hide fun R hR=>?_
 have HC:=zh (compareS_any x.n.name y.n.name);unfold cfNd NdY.cells at *;obtain ⟨⟨nx,⟨ax,ox⟩,tx⟩,xa,xm,xc⟩:=x;obtain ⟨⟨ny,⟨ay,oy⟩,ty⟩,ya,ym,yc⟩:=y;dsimp only at *;unfold strV at *;generalize (⟨nx.toArray⟩:ByteArray)=A1 at *;generalize (⟨ny.toArray⟩:ByteArray)=A2 at *;generalize (⟨tx.toArray⟩:ByteArray)=A3 at *;generalize (⟨ty.toArray⟩:ByteArray)=A4 at *;generalize cmpL nx ny=r at *;go_enter func108,ntmps108
 go_wp2_with fail
 with_reducible refine (HC.out _).mono ?_
 rintro e w2 ⟨rfl,rfl⟩;go_wp2_with fail
 exact fin hR ⟨rfl,((Gr.refl w).alloc _).alloc _⟩
theorem insnd_anyM (L:List NdY) (hL:L.length<=1000000) (g cap a b:Nat) (rest:List Value) (w:World) (h:w.heap[g]? = some (.cells (L.flatMap NdY.cells++rest).toArray 98 (0,0))) (hab:a<=b) (hb:b<=L.length)
  (d:List NdY) (hd:insertionSort (ltOf cfNd) L.toArray a b=d.toArray) (hdl:d.length=L.length) :
  Calls prog 213 #[.slice (some ⟨g,0,none⟩) L.length cap,.int .i64 a,.int .i64 b,.func (.func 108) #[] #[]] w fun e w' =>
   e=.returned (.tuple #[])/\w'.heap[g]? = some (.cells (d.flatMap NdY.cells++rest).toArray 98 (0,0))/\Mod (fun p=>p=g) w w':=by
 have hs:L.toArray.size=L.length:=by simp
 have hc:=AnyQ.insertionSortCmpFunc Tryz.insNd 4 (fun w=>isAgg98 w) (fun w=>sizeOf98 w) NdY.cells NdY.len NdY.one cfNd 108 #[] g 0 cap a b L.toArray w (fun _ _=>rfl)
  (fun m os dk _ x y=>(byname_anyM x y _).mono fun e w' ⟨he,hg⟩=>⟨he,hg⟩) (holds_list NdY.cells 4 NdY.len (by omega) h) (lt_of_heap h) hab (by rw [hs];exact hb) (by rw [hs];omega)
 rw [hs] at hc;refine hc.mono fun e w' ⟨he,n,os,hw⟩=>⟨he,?_⟩
 rw [hd] at hw;rw [hw];exact world_sort NdY.cells 4 NdY.len (by omega) hdl h n os
theorem insnone_anyM (p:Option Addr) (cap:Nat) (w:World) :
  Calls prog 213 #[.slice p 0 cap,.int .i64 0,.int .i64 0,.func (.func 108) #[] #[]] w fun e w'=>e=.returned (.tuple #[])/\w'=w:=by
 refine calls_hide fun R hR=>?_
 go_enter func213,ntmps213
 go_wp2_with fail
 go_loopw [8] (fun q wr=>q=.int .i64 1/\wr=w) (fun _ _=>0)
 case atStart=>exact ⟨rfl,rfl⟩
 case round =>
  obtain ⟨rfl,rfl⟩:=hrel;go_wp2_with fail
  go_end0
  exact fin hR ⟨rfl,rfl⟩
theorem insall_anyM (L:List NdY) (hL:L.length<=20) (p:Option Addr) (g cap:Nat) (rest:List Value) (w:World) (h:NdHeap w p L g rest) :
  Calls prog 213 #[.slice p L.length cap,.int .i64 0,.int .i64 L.length,.func (.func 108) #[] #[]] w fun e w' =>
   e=.returned (.tuple #[])/\NdHeap w' p (sortR (ltOf cfNd) L) g rest/\Mod (fun q=>q=g/\L ≠ []) w w':=by
 rcases h with rfl | ⟨rfl,h⟩
 ·exact (insnone_anyM p cap w).mono fun e w' ⟨he,hw⟩=>⟨he,.inl rfl,by rw [hw];exact Mod.refl _ _⟩
 ·by_cases hn:L=[]
  ·subst hn;exact (insnone_anyM _ cap w).mono fun e w' ⟨he,hw⟩=>⟨he,.inl rfl,by rw [hw];exact Mod.refl _ _⟩
  ·exact (insnd_anyM L (by omega) g cap 0 L.length rest w h (Nat.zero_le _) (Nat.le_refl _) _ (sort_list (ltOf cfNd) L) (sortR_length _ _)).mono fun e w' ⟨he,hh,hm⟩=>⟨he,.inr ⟨rfl,hh⟩,hm.weaken (fun _ _ e=>⟨e,hn⟩)⟩
theorem stable_anyM (L:List NdY) (hL:L.length<=20) (p:Option Addr) (g cap:Nat) (rest:List Value) (w:World) (h:NdHeap w p L g rest) :
  Calls prog 167 #[.slice p L.length cap,.int .i64 L.length,.func (.func 108) #[] #[]] w fun e w' =>
   e=.returned (.tuple #[])/\NdHeap w' p (sortR (ltOf cfNd) L) g rest/\Mod (fun q=>q=g/\L ≠ []) w w':=by
 refine calls_hide fun R hR=>?_
 have HI:=zh (insall_anyM L hL p g cap rest w h);have hsl:=sortR_length (ltOf cfNd) L;obtain ⟨z,hz⟩:∃ z:Int,z=(L.length:Int):=⟨_,rfl⟩
 rw [<- hz] at HI ⊢;by_cases h20:L.length=20
 ·have H2:=zh (fun (W:World) (hW:NdHeap W p (sortR (ltOf cfNd) L) g rest)=>show Calls prog 213 #[.slice p L.length cap,.int .i64 20,.int .i64 20,.func (.func 108) #[] #[]] W fun e w' =>
    e=.returned (.tuple #[])/\NdHeap w' p (sortR (ltOf cfNd) L) g rest/\Mod (fun q=>q=g/\L ≠ []) W w' from by
   have hne:L ≠ []:=by intro e;rw [e] at h20;cases h20
   rcases hW with he | ⟨rfl,hW⟩
   ·rw [he] at hsl;rw [h20] at hsl;cases hsl
   ·have hc:=insnd_anyM (sortR (ltOf cfNd) L) (by omega) g cap 20 20 rest W hW (Nat.le_refl _) (by omega) (sortR (ltOf cfNd) L) (by
     unfold insertionSort;rw [insOuter,if_neg (by omega)]) rfl
    rw [hsl] at hc;exact hc.mono fun e w' ⟨he,hh,hm⟩=>⟨he,.inr ⟨rfl,hh⟩,hm.weaken (fun _ _ e=>⟨e,hne⟩)⟩)
  obtain rfl:z=20:=by omega
  rw [h20] at HI H2 ⊢;clear hz;generalize sortR (ltOf cfNd) L=S at *;clear h;go_enter func167,ntmps167
  go_wp2_with fail
  go_loopw [7,8] (fun a b wr=>(a=.int .i64 0/\b=.int .i64 20/\wr=w)\/(a=.int .i64 20/\b=.int .i64 40/\NdHeap wr p S g rest/\Mod (fun q=>q=g/\L ≠ []) w wr)) (fun a _ _=>20 - (intOf a).toNat)
  case atStart=>exact .inl ⟨rfl,rfl,rfl⟩
  case round =>
   rcases hrel with ⟨rfl,rfl,rfl⟩ | ⟨rfl,rfl,hh,hm⟩
   ·go_wp2_with fail
    with_reducible refine HI.out.mono ?_
    rintro e w2 ⟨rfl,hh,hm⟩;have HH:=zh hh;have HM:=zh hm;clear hh hm;go_wp2_with fail
    exact ⟨.inr ⟨rfl,rfl,HH.out,HM.out⟩,by decide⟩
   ·have HC:=zh (H2.out wr hh);have HM:=zh hm;clear hh hm H2 HI;go_wp2_with fail
    with_reducible refine HC.out.mono ?_
    rintro e w2 ⟨rfl,hh,hm⟩;have HH:=zh hh;have HM2:=zh (HM.out.trans hm);clear hh hm HC HM;go_wp2_with fail
    go_loopw [6] (fun a wr=>a=.int .i64 20/\wr=w2) (fun _ _=>0)
    case atStart=>exact ⟨rfl,rfl⟩
    case round =>
     obtain ⟨rfl,rfl⟩:=hrel;go_wp2_with fail
     go_end0
     exact fin hR ⟨rfl,HH.out,HM2.out⟩
 ·have hlt:¬ ((20:Int)<=z):=by omega
  have hlt2:¬ ((20:Int) < z):=by omega
  clear h hz;generalize L.length=n at *;generalize sortR (ltOf cfNd) L=S at *;go_enter func167,ntmps167
  go_wp2_with fail
  go_loopw [7,8] (fun a b wr=>a=.int .i64 0/\b=.int .i64 20/\wr=w) (fun _ _ _=>0)
  case atStart=>exact ⟨rfl,rfl,rfl⟩
  case round =>
   obtain ⟨rfl,rfl,rfl⟩:=hrel;go_wp2_with fail
   with_reducible refine HI.out.mono ?_
   rintro e w2 ⟨rfl,hh,hm⟩;have HH:=zh hh;have HM2:=zh hm;clear hh hm HI;go_wp2_with fail
   go_loopw [6] (fun a wr=>a=.int .i64 20/\wr=w2) (fun _ _=>0)
   case atStart=>exact ⟨rfl,rfl⟩
   case round =>
    obtain ⟨rfl,rfl⟩:=hrel;go_wp2_with fail
    go_end0
    exact fin hR ⟨rfl,HH.out,HM2.out⟩
theorem sortstable_anyM (L:List NdY) (hL:L.length<=20) (p:Option Addr) (g cap:Nat) (rest:List Value) (w:World) (h:NdHeap w p L g rest) :
  Calls prog 107 #[.slice p L.length cap,.func (.func 108) #[] #[]] w fun e w' =>
   e=.returned (.tuple #[])/\NdHeap w' p (sortR (ltOf cfNd) L) g rest/\Mod (fun q=>q=g/\L ≠ []) w w':=by
 refine calls_hide fun R hR=>?_
 have HC:=zh (stable_anyM L hL p g cap rest w h);clear h;go_enter func107,ntmps107
 go_wp2_with fail
 with_reducible refine HC.out.mono ?_
 rintro e w2 ⟨rfl,hh,hm⟩;have HH:=zh hh;have HM:=zh hm;clear hh hm HC;go_wp2_with fail
 go_end0
 exact fin hR ⟨rfl,HH.out,HM.out⟩
theorem info_nd:(prog.info? 98).map (fun i=>(i.zero,i.size,i.bytes))=some (some (.agg #[.string ⟨#[]⟩,.bool false,.slice none 0 0,.string ⟨#[]⟩]),4,64):=by kernel_rfl
theorem nd_new {w:World} {cs:List Value} {o:Oper} {ρ:Operand->Value} (hc:cs.length=4) (x:Operand) (ho:o.op=.buildSlice 44 1 #[(0,x)]) (hx:ρ x=.agg cs.toArray) :
  (execOp ρ o).run prog w=.ok (.value (.slice (some ⟨w.heap.size,0,none⟩) 1 1)) (w.alloc (.cells cs.toArray 98)):=by
 obtain ⟨i0,hi,hz0,hz1,hz2⟩:=info_parts info_nd;have h:=run_buildSlice (P:=prog) w 44 98 1 #[(0,.agg cs.toArray)] cs.toArray i0 _ underlying44 hi hz0 (by rw [hz1];omega) (by rw [hz1];omega) (by
  rw [hz1];have h2:=Great.fill_whole (s:=4) (by decide) [Value.agg cs.toArray] ((Array.range (1*4)).map ((Value.agg #[.string ⟨#[]⟩,.bool false,.slice none 0 0,.string ⟨#[]⟩]).cells[· % (Value.agg #[.string ⟨#[]⟩,.bool false,.slice none 0 0,.string ⟨#[]⟩]).cells.size]!)) (fun v hv=>by
   simp at hv
   subst hv;show cs.toArray.size=4
   simp [hc]) (by simp)
  have h3:[Value.agg cs.toArray].flatMap (fun v=>v.cells.toList)=cs:=by
   show cs.toArray.toList++[]=cs
   simp
  rw [h3] at h2;exact h2)
 unfold execOp;simp only [ho,List.map_toArray,List.map_cons,List.map_nil,hx,Sem.run_bind];erw [h]
 rfl
theorem pn_new {w:World} {cs:List Value} {o:Oper} {ρ:Operand->Value} (hc:cs.length=37) (x:Operand) (ho:o.op=.buildSlice 25 1 #[(0,x)]) (hx:ρ x=.agg cs.toArray) :
  (execOp ρ o).run prog w=.ok (.value (.slice (some ⟨w.heap.size,0,none⟩) 1 1)) (w.alloc (.cells cs.toArray 120)):=by
 obtain ⟨i0,hi,hz0,hz1,hz2⟩:=info_parts info_pn;have h:=run_buildSlice (P:=prog) w 25 120 1 #[(0,.agg cs.toArray)] cs.toArray i0 _ underlying25 hi hz0 (by rw [hz1];omega) (by rw [hz1];omega) (by
  rw [hz1];have h2:=Great.fill_whole (s:=37) (by decide) [Value.agg cs.toArray] ((Array.range (1*37)).map (pinZero.cells[· % pinZero.cells.size]!)) (fun v hv=>by
   simp at hv
   subst hv;show cs.toArray.size=37
   simp [hc]) (by simp)
  have h3:[Value.agg cs.toArray].flatMap (fun v=>v.cells.toList)=cs:=by
   show cs.toArray.toList++[]=cs
   simp
  rw [h3] at h2;exact h2)
 unfold execOp;simp only [ho,List.map_toArray,List.map_cons,List.map_nil,hx,Sem.run_bind];erw [h]
 rfl
def toX (z:NdY):NdX:=⟨z.n,.slice z.oa z.om z.oc⟩
theorem nds_y {w:World}:∀ (ys:List NdX),(∀ y ∈ ys,OrsAt w y.ov y.n.span.ors)->∃ L:List NdY,L.map toX=ys
 | [],_=>⟨[],rfl⟩
 | y :: ys,h=>by
  obtain ⟨L,hL⟩:=nds_y ys (fun z hz=>h z (by simp [hz]));obtain ⟨zs,-,-,hz⟩:=h y (by simp);obtain ⟨a,c,e⟩:=hz.len;exact ⟨⟨y.n,a,_,c⟩ :: L,by rw [List.map_cons,hL];unfold toX;dsimp only;rw [<- e]⟩
theorem toX_flat (L:List NdY):(L.map toX).flatMap NdX.cells=L.flatMap NdY.cells:=by
 rw [List.flatMap_map];rfl
def ltNx (x y:NdX):Bool:=decide (x.n.name < y.n.name)
theorem sorted_lean (L:List NdX) (hL0:L=[]) (v:Value) (w:World) (hv:Sl w No 98 v L.length (L.flatMap NdX.cells)) :
  Calls prog 51 #[v] w fun e w'=>∃ v',e=.returned v'/\w'.ownsRow w.heap.size 98 4 v' L.length ((sortR ltNx L).flatMap NdX.cells)/\Mod No w w':=by
 refine calls_hide fun R hR=>?_
 obtain ⟨va,vc,rfl⟩:=hv.len;obtain ⟨n,hn⟩:∃ n,n=L.length:=⟨_,rfl⟩
 have HN0:=zh (show n=0 by rw [hn,hL0];rfl);have HRE:=zh (show ∀ w' v',w'.ownsRow w.heap.size 98 4 v' n ((sortR ltNx (L.take n)).flatMap NdX.cells)->Mod No w w'->R (.returned v') w' from fun w' v' h1 h2=>fin hR ⟨v',rfl,by rw [hn,List.take_length] at h1;exact h1,h2⟩);rw [<- hn];clear hv hn hL0 hR;go_enter func51,ntmps51
 go_wp2_with fail
 go_loopw [3,4] (fun q3 q4 wr=>∃ (k:Nat) (v:Value),k<=n/\q4=.int .i64 (k:Int)/\q3=v/\wr.ownsRow w.heap.size 98 4 v k ((sortR ltNx (L.take k)).flatMap NdX.cells)/\Mod No w wr) (fun _ q _=>n - (intOf q).toNat)
 case atStart=>exact ⟨0,.slice none 0 0,by omega,rfl,rfl,⟨by simp [sortR],.inl ⟨rfl,rfl⟩⟩,Mod.refl _ _⟩
 case round =>
  obtain ⟨k,v,hk,rfl,rfl,hown,hm⟩:=hrel;have HM:=zh hm;have HO:=zh hown;have hk0:(0:Int)<=(k:Int):=Int.natCast_nonneg _;obtain ⟨sa,sc,hsv⟩:=own_len hown;subst hsv;clear hm hown;obtain rfl:k=n:=by have:=HN0.out;omega
  have hk1:¬ ((k:Int) < (k:Int)):=by omega
  go_wp2_with fail
  exact HRE.out _ _ HO.out HM.out
end Go.Proofs.YticfcmdjplmaeaaGreatDoor
