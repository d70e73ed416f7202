/-
  Layers 0 to 14: helps of the laws of indexes. No statement is proved here; no condition.
-/
import Derived.Test.YtmppeipgjcjdkaaGreatDoorX12
import Derived.Test.YtmppeipgjcjdkaaGreatDoorX03
import Derived.Test.YtmppeipgjcjdkaaGreatDoorX01
import Derived.Test.YtmppeipgjcjdkaaGreatDoorX13
import Derived.Test.YtmppeipgjcjdkaaGreatDoorX05
namespace Go.Proofs.YtmppeipgjcjdkaaGreatDoor
open _root_.Go.Proofs.Tryz
open Go.RowKit Go.Sort
structure NdY where
 n:Nd
 oa:Option Addr
 om:Nat
 oc:Nat
instance:Inhabited NdY:=⟨⟨⟨[],⟨false,[]⟩,[]⟩,none,0,0⟩⟩
def NdY.cells (x:NdY):List Value:=[strV x.n.name,.bool x.n.span.any,.slice x.oa x.om x.oc,strV x.n.text]
theorem NdY.len (x:NdY):x.cells.length=4:=rfl
theorem NdY.one (x:NdY):∀ v ∈ x.cells,v.oneCell'=true:=by
 intro v hv
 simp only [NdY.cells,List.mem_cons,List.not_mem_nil,or_false] at hv
 rcases hv with rfl | rfl | rfl | rfl <;> rfl
def cfNd (x y:NdY):Int:=cmpL x.n.name y.n.name
theorem cfNd_lt (x y:NdY):ltOf cfNd x y=ltNd x.n y.n:=by
 unfold ltOf cfNd cmpL ltNd
 by_cases h:x.n.name < y.n.name
 ·rw [if_pos h];simp [h]
 ·rw [if_neg h]
  by_cases h2:y.n.name < x.n.name
  ·simp [h,h2]
  ·simp [h,h2]
def NdHeap (w:World) (p:Option Addr) (L:List NdY) (g:Nat) (rest:List Value):Prop:=(L=[])\/(p=some ⟨g,0,none⟩/\w.heap[g]? = some (.cells (L.flatMap NdY.cells++rest).toArray 113 (0,0)))
theorem sort_nds (L:List NdY):(sortR (ltOf cfNd) L).map NdY.n=sortR ltNd (L.map NdY.n):=by
 rw [show ltOf cfNd=fun x y=>ltNd x.n y.n from funext fun x=>funext fun y=>cfNd_lt x y,sortR_map]
set_option maxRecDepth 100000 in
theorem byname_anyM (x y:NdY) (w:World):Calls prog 102 #[.agg x.cells.toArray,.agg y.cells.toArray] w fun e w'=>e=.returned (.int .i64 (cfNd x y))/\Gr w w':=by
 refine calls_hide fun R hR=>?_
 have HC:=zh (compareS_any x.n.name y.n.name)
 unfold cfNd NdY.cells at *
 obtain ⟨⟨nx,⟨ax,ox⟩,tx⟩,xa,xm,xc⟩:=x
 obtain ⟨⟨ny,⟨ay,oy⟩,ty⟩,ya,ym,yc⟩:=y
 dsimp only at *
 unfold strV at *
 generalize (⟨nx.toArray⟩:ByteArray)=A1 at *
 generalize (⟨ny.toArray⟩:ByteArray)=A2 at *
 generalize (⟨tx.toArray⟩:ByteArray)=A3 at *
 generalize (⟨ty.toArray⟩:ByteArray)=A4 at *
 generalize cmpL nx ny=r at *
 go_enter func102,ntmps102
 go_wp2_with fail
 with_reducible refine (HC.out _).mono ?_
 rintro e w2 ⟨rfl,rfl⟩
 go_wp2_with fail
 exact fin hR ⟨rfl,((Gr.refl w).alloc _).alloc _⟩
set_option maxRecDepth 100000 in
theorem insnd_anyM (L:List NdY) (hL:L.length<=1000000) (g cap a b:Nat) (rest:List Value) (w:World) (h:w.heap[g]? = some (.cells (L.flatMap NdY.cells++rest).toArray 113 (0,0))) (hab:a<=b) (hb:b<=L.length)
  (d:List NdY) (hd:insertionSort (ltOf cfNd) L.toArray a b=d.toArray) (hdl:d.length=L.length) :
  Calls prog 223 #[.slice (some ⟨g,0,none⟩) L.length cap,.int .i64 a,.int .i64 b,.func (.func 102) #[] #[]] w fun e w' =>
   e=.returned (.tuple #[])/\w'.heap[g]? = some (.cells (d.flatMap NdY.cells++rest).toArray 113 (0,0))/\Mod (fun p=>p=g) w w':=by
 have hs:L.toArray.size=L.length:=by simp
 have hc:=AnyQ.insertionSortCmpFunc Tryz.insNd 4 (fun w=>isAgg113 w) (fun w=>sizeOf113 w) NdY.cells NdY.len NdY.one cfNd 102 #[] g 0 cap a b L.toArray w (fun _ _=>rfl)
  (fun m os dk _ x y=>(byname_anyM x y _).mono fun e w' ⟨he,hg⟩=>⟨he,hg⟩) (holds_list NdY.cells 4 NdY.len (by omega) h) (lt_of_heap h) hab (by rw [hs];exact hb) (by rw [hs];omega)
 rw [hs] at hc
 refine hc.mono fun e w' ⟨he,n,os,hw⟩=>⟨he,?_⟩
 rw [hd] at hw
 rw [hw]
 exact world_sort NdY.cells 4 NdY.len (by omega) hdl h n os
set_option maxRecDepth 100000 in
theorem insnone_anyM (p:Option Addr) (cap:Nat) (w:World) :
  Calls prog 223 #[.slice p 0 cap,.int .i64 0,.int .i64 0,.func (.func 102) #[] #[]] w fun e w'=>e=.returned (.tuple #[])/\w'=w:=by
 refine calls_hide fun R hR=>?_
 go_enter func223,ntmps223
 go_wp2_with fail
 go_loopw [8] (fun q wr=>q=.int .i64 1/\wr=w) (fun _ _=>0)
 case atStart=>exact ⟨rfl,rfl⟩
 case round =>
  obtain ⟨rfl,rfl⟩:=hrel
  go_wp2_with fail
  go_end0
  exact fin hR ⟨rfl,rfl⟩
set_option maxRecDepth 100000 in
theorem insall_anyM (L:List NdY) (hL:L.length<=20) (p:Option Addr) (g cap:Nat) (rest:List Value) (w:World) (h:NdHeap w p L g rest) :
  Calls prog 223 #[.slice p L.length cap,.int .i64 0,.int .i64 L.length,.func (.func 102) #[] #[]] w fun e w' =>
   e=.returned (.tuple #[])/\NdHeap w' p (sortR (ltOf cfNd) L) g rest/\Mod (fun q=>q=g/\L ≠ []) w w':=by
 rcases h with rfl | ⟨rfl,h⟩
 ·exact (insnone_anyM p cap w).mono fun e w' ⟨he,hw⟩=>⟨he,.inl rfl,by rw [hw];exact Mod.refl _ _⟩
 ·by_cases hn:L=[]
  ·subst hn
   exact (insnone_anyM _ cap w).mono fun e w' ⟨he,hw⟩=>⟨he,.inl rfl,by rw [hw];exact Mod.refl _ _⟩
  ·exact (insnd_anyM L (by omega) g cap 0 L.length rest w h (Nat.zero_le _) (Nat.le_refl _) _ (sort_list (ltOf cfNd) L) (sortR_length _ _)).mono fun e w' ⟨he,hh,hm⟩=>⟨he,.inr ⟨rfl,hh⟩,hm.weaken (fun _ _ e=>⟨e,hn⟩)⟩
set_option maxRecDepth 100000 in
set_option maxHeartbeats 4000000 in
theorem stable_anyM (L:List NdY) (hL:L.length<=20) (p:Option Addr) (g cap:Nat) (rest:List Value) (w:World) (h:NdHeap w p L g rest) :
  Calls prog 161 #[.slice p L.length cap,.int .i64 L.length,.func (.func 102) #[] #[]] w fun e w' =>
   e=.returned (.tuple #[])/\NdHeap w' p (sortR (ltOf cfNd) L) g rest/\Mod (fun q=>q=g/\L ≠ []) w w':=by
 refine calls_hide fun R hR=>?_
 have HI:=zh (insall_anyM L hL p g cap rest w h)
 have hsl:=sortR_length (ltOf cfNd) L
 obtain ⟨z,hz⟩:∃ z:Int,z=(L.length:Int):=⟨_,rfl⟩
 rw [<- hz] at HI ⊢
 by_cases h20:L.length=20
 ·have H2:=zh (fun (W:World) (hW:NdHeap W p (sortR (ltOf cfNd) L) g rest)=>show Calls prog 223 #[.slice p L.length cap,.int .i64 20,.int .i64 20,.func (.func 102) #[] #[]] W fun e w' =>
    e=.returned (.tuple #[])/\NdHeap w' p (sortR (ltOf cfNd) L) g rest/\Mod (fun q=>q=g/\L ≠ []) W w' from by
   have hne:L ≠ []:=by intro e;rw [e] at h20;cases h20
   rcases hW with he | ⟨rfl,hW⟩
   ·rw [he] at hsl;rw [h20] at hsl;cases hsl
   ·have hc:=insnd_anyM (sortR (ltOf cfNd) L) (by omega) g cap 20 20 rest W hW (Nat.le_refl _) (by omega) (sortR (ltOf cfNd) L) (by
     unfold insertionSort
     rw [insOuter,if_neg (by omega)]) rfl
    rw [hsl] at hc
    exact hc.mono fun e w' ⟨he,hh,hm⟩=>⟨he,.inr ⟨rfl,hh⟩,hm.weaken (fun _ _ e=>⟨e,hne⟩)⟩)
  obtain rfl:z=20:=by omega
  rw [h20] at HI H2 ⊢
  clear hz
  generalize sortR (ltOf cfNd) L=S at *
  clear h
  go_enter func161,ntmps161
  go_wp2_with fail
  go_loopw [7,8] (fun a b wr=>(a=.int .i64 0/\b=.int .i64 20/\wr=w)\/(a=.int .i64 20/\b=.int .i64 40/\NdHeap wr p S g rest/\Mod (fun q=>q=g/\L ≠ []) w wr)) (fun a _ _=>20 - (intOf a).toNat)
  case atStart=>exact .inl ⟨rfl,rfl,rfl⟩
  case round =>
   rcases hrel with ⟨rfl,rfl,rfl⟩ | ⟨rfl,rfl,hh,hm⟩
   ·go_wp2_with fail
    with_reducible refine HI.out.mono ?_
    rintro e w2 ⟨rfl,hh,hm⟩
    have HH:=zh hh
    have HM:=zh hm
    clear hh hm
    go_wp2_with fail
    exact ⟨.inr ⟨rfl,rfl,HH.out,HM.out⟩,by decide⟩
   ·have HC:=zh (H2.out wr hh)
    have HM:=zh hm
    clear hh hm H2 HI
    go_wp2_with fail
    with_reducible refine HC.out.mono ?_
    rintro e w2 ⟨rfl,hh,hm⟩
    have HH:=zh hh
    have HM2:=zh (HM.out.trans hm)
    clear hh hm HC HM
    go_wp2_with fail
    go_loopw [6] (fun a wr=>a=.int .i64 20/\wr=w2) (fun _ _=>0)
    case atStart=>exact ⟨rfl,rfl⟩
    case round =>
     obtain ⟨rfl,rfl⟩:=hrel
     go_wp2_with fail
     go_end0
     exact fin hR ⟨rfl,HH.out,HM2.out⟩
 ·have hlt:¬ ((20:Int)<=z):=by omega
  have hlt2:¬ ((20:Int) < z):=by omega
  clear h hz
  generalize L.length=n at *
  generalize sortR (ltOf cfNd) L=S at *
  go_enter func161,ntmps161
  go_wp2_with fail
  go_loopw [7,8] (fun a b wr=>a=.int .i64 0/\b=.int .i64 20/\wr=w) (fun _ _ _=>0)
  case atStart=>exact ⟨rfl,rfl,rfl⟩
  case round =>
   obtain ⟨rfl,rfl,rfl⟩:=hrel
   go_wp2_with fail
   with_reducible refine HI.out.mono ?_
   rintro e w2 ⟨rfl,hh,hm⟩
   have HH:=zh hh
   have HM2:=zh hm
   clear hh hm HI
   go_wp2_with fail
   go_loopw [6] (fun a wr=>a=.int .i64 20/\wr=w2) (fun _ _=>0)
   case atStart=>exact ⟨rfl,rfl⟩
   case round =>
    obtain ⟨rfl,rfl⟩:=hrel
    go_wp2_with fail
    go_end0
    exact fin hR ⟨rfl,HH.out,HM2.out⟩
set_option maxRecDepth 100000 in
theorem sortstable_anyM (L:List NdY) (hL:L.length<=20) (p:Option Addr) (g cap:Nat) (rest:List Value) (w:World) (h:NdHeap w p L g rest) :
  Calls prog 101 #[.slice p L.length cap,.func (.func 102) #[] #[]] w fun e w' =>
   e=.returned (.tuple #[])/\NdHeap w' p (sortR (ltOf cfNd) L) g rest/\Mod (fun q=>q=g/\L ≠ []) w w':=by
 refine calls_hide fun R hR=>?_
 have HC:=zh (stable_anyM L hL p g cap rest w h)
 clear h
 go_enter func101,ntmps101
 go_wp2_with fail
 with_reducible refine HC.out.mono ?_
 rintro e w2 ⟨rfl,hh,hm⟩
 have HH:=zh hh
 have HM:=zh hm
 clear hh hm HC
 go_wp2_with fail
 go_end0
 exact fin hR ⟨rfl,HH.out,HM.out⟩
def toX (z:NdY):NdX:=⟨z.n,.slice z.oa z.om z.oc⟩
theorem nds_y {w:World}:∀ (ys:List NdX),(∀ y ∈ ys,OrsAt w y.ov y.n.span.ors)->∃ L:List NdY,L.map toX=ys
 | [],_=>⟨[],rfl⟩
 | y :: ys,h=>by
  obtain ⟨L,hL⟩:=nds_y ys (fun z hz=>h z (by simp [hz]))
  obtain ⟨zs,-,-,hz⟩:=h y (by simp)
  obtain ⟨a,c,e⟩:=hz.len
  exact ⟨⟨y.n,a,_,c⟩ :: L,by rw [List.map_cons,hL];unfold toX;dsimp only;rw [<- e]⟩
theorem toX_flat (L:List NdY):(L.map toX).flatMap NdX.cells=L.flatMap NdY.cells:=by
 rw [List.flatMap_map]
 rfl
def ltPx (x y:PnX):Bool:=decide (x.p.name < y.p.name)
theorem pn_head (g o n c k:Nat) (hk:k<=n) (hn:n<=c) (W:World):(Instr.sliceAt 42 (.slice (some ⟨g,o,none⟩) n c) none (some (.int .i64 (k:Int))) (some (.int .i64 (k:Int)))).run prog W=.ok (.slice (some ⟨g,o,none⟩) k k) W:=by
 have h1:(0:Int)<=(k:Int):=Int.natCast_nonneg _
 have h2:(k:Int)<=(c:Int):=by omega
 go_simp
theorem pn_tail (g o n c k:Nat) (hk:k<=n) (hn:n<=c) (W:World):(Instr.sliceAt 42 (.slice (some ⟨g,o,none⟩) n c) (some (.int .i64 (k:Int))) none none).run prog W=.ok (.slice (some ⟨g,if c=k then o else o+k*37,none⟩) (n - k) (c - k)) W:=by
 have h1:(0:Int)<=(k:Int):=Int.natCast_nonneg _
 have h2:(k:Int)<=(n:Int):=by omega
 have h3:(n:Int)<=(c:Int):=by omega
 go_simp
 split <;> rfl
theorem pn_nil (W:World):(Instr.sliceAt 42 (.slice none 0 0) none (some (.int .i64 ((0:Nat):Int))) (some (.int .i64 ((0:Nat):Int)))).run prog W=.ok (.slice none 0 0) W/\(Instr.sliceAt 42 (.slice none 0 0) (some (.int .i64 ((0:Nat):Int))) none none).run prog W=.ok (.slice none 0 0) W:=⟨by go_simp,by go_simp⟩
theorem pn_parts {w:World} {v:Value} {n:Nat} {xs:List Value} (h:Sl w No 49 v n xs) (hx:xs.length=n*37) {k:Nat} (hk:k<=n) :
  ∃ sv tv,(∀ W:World,(Instr.sliceAt 42 v none (some (.int .i64 (k:Int))) (some (.int .i64 (k:Int)))).run prog W=.ok sv W)/\(∀ W:World,(Instr.sliceAt 42 v (some (.int .i64 (k:Int))) none none).run prog W=.ok tv W) ∧
   ((sv=.slice none 0 0/\k=0/\xs.take (k*37)=[])\/∃ a0,sv=.slice (some a0) k k/\(xs.take (k*37)).length=k*37/\∀ j u,(xs.take (k*37))[j]? = some u->w.cell? (a0.add j)=some u) ∧
   Sl w No 49 tv (n - k) (xs.drop (k*37))/\(xs.drop (k*37)).length=(n - k)*37:=by
 have hld:(xs.drop (k*37)).length=(n - k)*37:=by rw [List.length_drop,hx];omega
 rcases h with ⟨rfl,rfl,rfl⟩ | ⟨g,o,c,cur,fz,rfl,hn,hc,hX,hh,hl,hr⟩
 ·obtain rfl:k=0:=by omega
  exact ⟨.slice none 0 0,.slice none 0 0,fun W=>(pn_nil W).1,fun W=>(pn_nil W).2,.inl ⟨rfl,rfl,rfl⟩,.inl ⟨rfl,rfl,rfl⟩,hld⟩
 ·refine ⟨_,_,pn_head g o n c k hk hn,pn_tail g o n c k hk hn,.inr ⟨_,rfl,by rw [List.length_take,hx];omega,fun j u e=>?_⟩,.inr ⟨g,if c=k then o else o+k*37,c - k,cur,fz,rfl,by omega,by omega,fun f=>f,hh,?_,fun i hi=>?_⟩,hld⟩
  ·have hj:=(List.getElem?_eq_some_iff.1 e).1
   rw [List.length_take] at hj
   rw [List.getElem?_take,if_pos (by omega)] at e
   rw [Addr.add_mid]
   exact cell_ofA hh ((hr j (by omega)).trans e)
  ·rw [hld]
   split
   ·have:n - k=0:=by omega
    rw [this];omega
   ·omega
  ·rw [hld] at hi
   rw [if_neg (by intro e;have:n - k=0:=(by omega);rw [this] at hi;omega),List.getElem?_drop,<- hr (k*37+i) (by omega),Nat.add_assoc]
set_option maxRecDepth 100000 in
theorem pn_new {w:World} {cs:List Value} {o:Oper} {ρ:Operand->Value} (hc:cs.length=37) (x:Operand) (ho:o.op=.buildSlice 42 1 #[(0,x)]) (hx:ρ x=.agg cs.toArray) :
  (execOp ρ o).run prog w=.ok (.value (.slice (some ⟨w.heap.size,0,none⟩) 1 1)) (w.alloc (.cells cs.toArray 49)):=by
 obtain ⟨i0,hi,hz0,hz1,hz2⟩:=info_parts info_pn
 have h:=run_buildSlice (P:=prog) w 42 49 1 #[(0,.agg cs.toArray)] cs.toArray i0 _ underlying42 hi hz0 (by rw [hz1];omega) (by rw [hz1];omega) (by
  rw [hz1]
  have h2:=Great.fill_whole (s:=37) (by decide) [Value.agg cs.toArray] ((Array.range (1*37)).map (pinZero.cells[· % pinZero.cells.size]!)) (fun v hv=>by
   simp at hv
   subst hv
   show cs.toArray.size=37
   simp [hc]) (by simp)
  have h3:[Value.agg cs.toArray].flatMap (fun v=>v.cells.toList)=cs:=by
   show cs.toArray.toList++[]=cs
   simp
  rw [h3] at h2
  exact h2)
 unfold execOp
 simp only [ho,List.map_toArray,List.map_cons,List.map_nil,hx,Sem.run_bind]
 erw [h]
 rfl
set_option maxRecDepth 100000 in
set_option maxHeartbeats 8000000 in
theorem pins_any (L:List PnX) (hL:L.length<=1000000) (v:Value) (w:World) (hv:Sl w No 49 v L.length (L.flatMap PnX.cells)) (hov:∀ y ∈ L,PnOk y) :
  Calls prog 41 #[v] w fun e w'=>∃ v',e=.returned v'/\w'.ownsRow w.heap.size 49 37 v' L.length ((sortR ltPx L).flatMap PnX.cells)/\Mod No w w':=by
 refine calls_hide fun R hR=>?_
 have HV:=zh hv
 have HX1:=zh (show ∀ y ∈ L,(PnX.cells y).length=37 from fun y hy=>PnX.cells_length y (hov y hy).sum)
 have H1L:=zh (show ∀ S:List PnX,(∀ y ∈ S,y ∈ L)->∀ u ∈ S.flatMap PnX.cells,u.oneCell'=true from fun S hS u hu=>by
  obtain ⟨y,hy,hu⟩:=List.mem_flatMap.1 hu
  exact (hov y (hS y hy)).one u hu)
 obtain ⟨va,vc,rfl⟩:=hv.len
 obtain ⟨n,hn⟩:∃ n,n=L.length:=⟨_,rfl⟩
 have HNL:=zh hn
 have HRE:=zh (show ∀ w' v',w'.ownsRow w.heap.size 49 37 v' n ((sortR ltPx (L.take n)).flatMap PnX.cells)->Mod No w w'->R (.returned v') w' from fun w' v' h1 h2=>fin hR ⟨v',rfl,by rw [hn,List.take_length] at h1;exact h1,h2⟩)
 rw [<- hn] at HV
 rw [<- hn]
 have hn2:n<=1000000:=by omega
 obtain ⟨i0,hi0,hz0,hz1,hz2⟩:=info_parts info_pn
 have HI:=zh (And.intro hi0 (And.intro hz0 (And.intro hz1 hz2)))
 clear hi0 hz0 hz1 hz2 hv hov hn hL hR
 go_enter func41,ntmps41
 go_wp2_with fail
 go_loopw [3,4] (fun q3 q4 wr=>∃ (k:Nat) (v:Value),k<=n/\q4=.int .i64 (k:Int)/\q3=v/\wr.ownsRow w.heap.size 49 37 v k ((sortR ltPx (L.take k)).flatMap PnX.cells)/\Mod No w wr) (fun _ q _=>n - (intOf q).toNat)
 case atStart=>exact ⟨0,.slice none 0 0,by omega,rfl,rfl,⟨by simp [sortR],.inl ⟨rfl,rfl⟩⟩,Mod.refl _ _⟩
 case round =>
  obtain ⟨k,v,hk,rfl,rfl,hown,hm⟩:=hrel
  have HM:=zh hm
  have HO:=zh hown
  have hk0:(0:Int)<=(k:Int):=Int.natCast_nonneg _
  obtain ⟨sa,sc,hsv⟩:=own_len hown
  subst hsv
  clear hm hown
  by_cases hlt:k < n
  ·have hk1:(k:Int) < (n:Int):=by omega
   have hlt2:k < L.length:=by rw [<- HNL.out];exact hlt
   obtain ⟨b,o,c,hvs,_⟩:=HV.out.shape (by omega)
   cases hvs
   have HRG0:=zh (Sl.atM HX1.out HV.out hlt2)
   have HST:=zh (sortR_take ltPx L hlt2)
   have HMX:=zh (show ∀ y ∈ sortR ltPx (L.take k),y ∈ L from fun y hy=>List.mem_of_mem_take ((sortR_mem _ _ _).1 hy))
   have hsl:(sortR ltPx (L.take k)).length=k:=by rw [sortR_length,List.length_take];omega
   have HXI:=zh (List.getElem_mem hlt2)
   generalize sortR ltPx (L.take k)=S at *
   generalize L[k]=x at *
   go_wp2_with fail
   have HFS:=zh (show (S.flatMap PnX.cells).length=k*37 from HO.out.1)
   have HC:=zh (HX1.out x HXI.out)
   have H1X:=zh (H1L.out [x] (fun y hy=>by rw [List.mem_singleton.1 hy];exact HXI.out))
   obtain ⟨cx,hcx⟩:∃ cx,cx=PnX.cells x:=⟨_,rfl⟩
   have HXC:=zh (show PnX.cells x=cx from hcx.symm)
   rw [<- hcx] at HC HRG0
   clear hcx
   have HNM:=zh (show ∀ w',Mod No w w'->w'.cell? ⟨b,o+k*37,none⟩=some (strV x.p.name) from fun w' h=>by
    have h2:=(h.rangeAt HRG0.out (fun f=>f)) 0 (strV x.p.name) (by rw [<- HXC.out];rfl)
    rw [Nat.add_zero] at h2
    exact h2)
   generalize wr=wo at *
   go_loopw [5] (fun q wi=>∃ j:Nat,j<=k/\q=.int .i64 (j:Int)/\Mod No wo wi/\∀ i (hi:i < S.length),j<=i->x.p.name < S[i].p.name) (fun q _=>(intOf q).toNat)
   case atStart=>exact ⟨k,by omega,rfl,Mod.refl _ _,fun i hi h=>absurd hi (by omega)⟩
   case round =>
    obtain ⟨j,hj,rfl,hmi,hgt⟩:=hrel
    have HMI:=zh hmi
    have HGT:=zh hgt
    have hj0:(0:Int)<=(j:Int):=Int.natCast_nonneg _
    have HBB:=zh (show ∀ y ∈ S.drop j,ltPx x y=true from fun y hy=>by
     obtain ⟨i,hi,rfl⟩:=List.getElem_of_mem hy
     rw [List.getElem_drop]
     exact decide_eq_true (HGT.out (j+i) (by rw [List.length_drop] at hi;omega) (by omega)))
    clear hmi hgt
    rcases j with _ | m
    ·have hkn:decide ((0:Int) < 0)=false:=by decide
     have hkn2:decide ((0:Nat) < 0)=false:=by decide
     have HAA:=zh (show S.take 0=[]\/∃ C z,S.take 0=C++[z]/\ltPx x z=false from .inl rfl)
     go_upto_region 6 with fail
     go_quiet (fail)
     generalize hw3:World.drewN wr _=w3
     have HM3:=zh (show Mod No wo w3 by rw [<- hw3];exact HMI.out.drewN _)
     clear hw3 hkn hkn2
     have HIS:=zh (insR_scan (p:=ltPx x) (x:=x) (A:=S.take (0)) (B:=S.drop (0)) HBB.out HAA.out)
     rw [List.take_append_drop] at HIS
     obtain ⟨sv,tv,hsv,htv,hsc,hts,hld⟩:=pn_parts (k:=0) (Sl.of_own (X:=No) (own_keepM HO.out (HM3.out.drew) (fun _ _ f=>f)) (fun _ _ f=>f)) HFS.out (by omega)
     have HSV:=zh hsv
     have HTV:=zh htv
     obtain ⟨hi0,hz0,hz1,hz2⟩:=HI.out
     have HFX:=zh (show (S.flatMap PnX.cells).take ((0)*37)++(cx++(S.flatMap PnX.cells).drop ((0)*37))=(sortR ltPx (L.take (k+1))).flatMap PnX.cells by
      rw [HST.out,HIS.out,List.flatMap_append,List.flatMap_cons,flat_takeM (fun y hy=>HX1.out y (HMX.out y hy)),flat_dropM (fun y hy=>HX1.out y (HMX.out y hy)),HXC.out])
     obtain ⟨wD,hwD⟩:∃ y,y=w3.drew:=⟨_,rfl⟩
     rw [<- hwD] at hsc hts
     have HSC:=zh hsc
     have HTS:=zh hts
     have HLD:=zh hld
     have H1D:=zh (show ∀ u ∈ (S.flatMap PnX.cells).drop ((0)*37),u.oneCell'=true from fun u hu=>H1L.out S HMX.out u (List.mem_of_mem_drop hu))
     have HMD:=zh (show Mod No w wD by rw [hwD];exact HM.out.trans HM3.out.drew)
     have HRG:=zh (show ∀ w',Mod No wD w'->w'.rangeAt b (o+k*37) cx from fun w' h=>(HMD.out.trans h).rangeAt HRG0.out (fun f=>f))
     have HBD:=zh HMD.out.size
     have HWD:=zh hwD
     have hS0:=Mod.refl No wD
     generalize hXS:S.flatMap PnX.cells=XS at *
     clear hsv htv hsc hts hld hwD hXS
     go_upto_region 8 with fail
     refine wp_region_T (fun w'=>Mod No wD w') 99 (by kernel_rfl) ?_
     rw [<- HWD.out]
     refine yS 0 32 hS0 ?_
     refine yS 1 33 hS0 ?_
     refine yS 2 34 hS0 ?_
     refine yT 3 (some 35) sv hS0 ?_ ?_
     ·(intro w' hSw;apply yslice3 (HSV.out w') (.tmp 32) (.tmp 33) (.tmp 34) <;> rfl)
     simp only [Act.put,yB,yC,yD]
     refine yS 4 36 hS0 ?_
     refine yS 5 37 hS0 ?_
     refine yS 6 38 hS0 ?_
     refine yT 7 (some 39) (.agg cx.toArray) hS0 ?_ ?_
     ·(intro w' hSw;apply yloadv (run_loadVar_mid w' b (o+k*37) 49 cx _ (HRG.out w' hSw) underlying49 rfl (by rw [HC.out];kernel_rfl)) (.tmp 38) <;> rfl)
     simp only [Act.put,yB,yC,yD]
     refine yS 9 41 hS0 ?_
     refine yS 10 42 hS0 ?_
     refine yT 11 (some 43) tv hS0 ?_ ?_
     ·(intro w' hSw;apply yslice1 (HTV.out w') (.tmp 41) (.tmp 42) <;> rfl)
     simp only [Act.put,yB,yC,yD]
     refine wpAnyT_one 8 rfl (by kernel_rfl) rfl ?_
     intro K hK
     obtain ⟨ga,hga⟩:∃ ga,ga=wD.heap.size:=⟨_,rfl⟩
     obtain ⟨wD_8,hwD_8⟩:∃ y,y=wD.alloc (.cells cx.toArray 49):=⟨_,rfl⟩
     have HGA:=zh (show wD_8.heap[ga]? = some (.cells cx.toArray 49 (0,0)) by rw [hwD_8,hga];exact heap_alloc_new _ _)
     have hmwD_8:Mod No wD wD_8:=by rw [hwD_8];exact (Mod.refl No _).alloc _
     have HGL:=zh (show wD.heap.size<=ga by omega)
     refine wp_value (v:=.slice (some ⟨ga,0,none⟩) 1 1) (w':=wD_8) (by rw [hga,hwD_8];apply pn_new HC.out (.tmp 39) <;> rfl) ?_
     clear hwD_8 hga
     show K (Act.put _ (some 40) _) _
     have hS1:=hS0.trans hmwD_8
     refine hK.out _ _ (fun _=>hS1) ?_
     clear hK K
     refine wpAnyT_one 12 rfl (by kernel_rfl) rfl ?_
     intro K hK
     refine wp_app_sl wD_8 (.tmp 40) (.tmp 43) 42 (by rfl) ga 49 i0 _ 37 96 underlying42 hi0 hz0 hz1 hz2 rfl (by decide) (.slice (some ⟨ga,0,none⟩) 1 1) 1 cx (by rfl) ⟨by rw [HC.out],.inr ⟨ga,1,_,rfl,Nat.le_refl _,HGA.out,Nat.le_refl _,by unfold maxLen;omega,by simp [HC.out],by rw [List.toList_toArray,List.take_of_length_le (by rw [HC.out];decide)]⟩⟩ No 49 tv (k - 0) (XS.drop (0*37)) (by rfl) (HTS.out.kn hS1) HLD.out H1D.out (by unfold maxLen;omega) (by omega) (Nat.le_of_lt (lt_of_heap HGA.out)) ?_
     intro v6 w6 hown hg6 _
     obtain ⟨g6,c6,rfl,hg6a⟩:=own_shape hown (by omega)
     have HO6:=zh hown
     have hm6:Mod No wD w6:=hS1.then (Mod.of_grown (S:=fun q=>q=ga) hg6 (fun q e _=>by cases e;rfl)) (fun q hq e=>by have e:q=ga:=e;have h1:=HGL.out;omega)
     have HB6:=zh (show w.heap.size<=w6.heap.size from Nat.le_trans HBD.out hm6.size)
     clear hown hg6
     show K (Act.put _ (some 44) _) _
     have hS2:=hm6
     refine hK.out _ _ (fun _=>hS2) ?_
     clear hK K
     refine wpAnyT_one 13 rfl (by kernel_rfl) rfl ?_
     intro K hK
     refine wp_app_full w6 (.tmp 35) (.tmp 44) 42 (by rfl) w.heap.size 49 i0 _ 37 96 underlying42 hi0 hz0 hz1 hz2 rfl sv 0 (XS.take (0*37)) (by rfl) (by
      rcases HSC.out with h | ⟨a0,h1,h2,h3⟩
      ·exact .inl h
      ·exact .inr ⟨a0,h1,h2,fun j u e=>hS2.cell (h3 j u e) (fun f=>f)⟩) ⟨g6,0,none⟩ (1+(k - 0)) c6 (cx++XS.drop (0*37)) (by rfl) (by omega) HO6.out.1 (fun j u e=>HO6.out.cells (g:=g6) rfl j u e) (by unfold maxLen;omega) (by omega) HB6.out ?_
     intro v7 w7 hown7 hm7
     have HO7:=zh hown7
     clear hown7
     show K (Act.put _ (some 45) _) _
     have hS3:=hS2.trans hm7
     refine hK.out _ _ (fun _=>hS3) ?_
     clear hK K
     refine yT 14 (some 3) ?_ hS3 ?_ ?_
     rotate_left
     ·(intro w' hSw;go_simp;try with_reducible rfl)
     simp only [Act.put]
     refine wpAnyT_done (by kernel_rfl) ?_ _
     have HMF:=zh hS3
     clear hS0 hS1 hS2 hS3
     go_wp2_with fail
     refine ⟨⟨k+1,v7,by omega,rfl,rfl,?_,HMD.out.trans HMF.out⟩,by show n - ((k:Int)+1).toNat < n - (k:Int).toNat;omega⟩
     have h9:=HO7.out
     rw [HFX.out,show (0)+(1+(k - (0)))=k+1 by omega] at h9
     exact h9
    ·have hms:m < S.length:=by omega
     have hc2:=HNM.out wr (HM.out.trans HMI.out)
     obtain ⟨gs,cs,hvs,hgb⟩:=own_shape HO.out (by omega)
     cases hvs
     have hc1:=(Sl.of_own (X:=No) (own_keepM HO.out HMI.out (fun _ _ f=>f)) (fun _ _ f=>f))
     have hc3:=Sl.atM (fun y hy=>HX1.out y (HMX.out y hy)) hc1 hms 0 (strV S[m].p.name) rfl
     rw [Nat.add_zero,Nat.zero_add] at hc3
     have hkn:decide ((0:Int) < ((m+1:Nat):Int))=true:=decide_eq_true (by omega)
     have hkn2:decide (0 < m+1)=true:=decide_eq_true (by omega)
     have hT1:=str_list x.p.name
     have hT2:=str_list S[m].p.name
     have HEQ:=zh (show x.p.name < S[m].p.name->∀ i (hi:i < S.length),m<=i->x.p.name < S[i].p.name from fun h i hi him=>by
      rcases Nat.lt_or_ge m i with h3 | h3
      ·exact HGT.out i hi (by omega)
      ·obtain rfl:i=m:=by omega
       exact h)
     by_cases hlt3:x.p.name < S[m].p.name
     ·have hbl:Op.bytesLess (⟨S[m].p.name.toArray⟩:ByteArray).toList (⟨x.p.name.toArray⟩:ByteArray).toList=false:=by rw [hT1,hT2,bytesLess_decT];exact decide_eq_false (fun h=>List.lt_asymm h hlt3)
      have hbe:((⟨S[m].p.name.toArray⟩:ByteArray).toList == (⟨x.p.name.toArray⟩:ByteArray).toList)=false:=by
       rw [hT1,hT2]
       rcases hb:(S[m].p.name == x.p.name) with _ | _
       ·rfl
       ·have:=eq_of_beq hb
        rw [this] at hlt3
        exact absurd hlt3 (List.lt_irrefl _)
      have HN:=zh (HEQ.out hlt3)
      unfold strV at *
      generalize (⟨x.p.name.toArray⟩:ByteArray)=X1 at *
      generalize (⟨S[m].p.name.toArray⟩:ByteArray)=X2 at *
      clear hT1 hT2 HEQ hlt3
      go_upto_region 6 with fail
      go_quiet (fail)
      generalize hw3:World.drewN wr _=w3
      have HM3:=zh (show Mod No wo w3 by rw [<- hw3];exact HMI.out.drewN _)
      clear hw3 hkn hkn2 hc2 hc3
      go_wp2_with fail
      exact ⟨⟨m,by omega,rfl,HM3.out,HN.out⟩,by show (m:Int).toNat < ((m+1:Nat):Int).toNat;omega⟩
     ·have hor:Op.bytesLess (⟨S[m].p.name.toArray⟩:ByteArray).toList (⟨x.p.name.toArray⟩:ByteArray).toList=true\/((⟨S[m].p.name.toArray⟩:ByteArray).toList == (⟨x.p.name.toArray⟩:ByteArray).toList)=true:=by
       rw [hT1,hT2,bytesLess_decT]
       by_cases h5:x.p.name=S[m].p.name
       ·right;rw [h5];simp
       ·left;exact decide_eq_true (text_gt hlt3 h5)
      have HOR:=zh hor
      clear hor
      have HAA:=zh (show S.take (m+1)=[]\/∃ C z,S.take (m+1)=C++[z]/\ltPx x z=false from .inr ⟨S.take m,S[m],List.take_succ_eq_append_getElem hms,decide_eq_false hlt3⟩)
      unfold strV at *
      generalize (⟨x.p.name.toArray⟩:ByteArray)=X1 at *
      generalize (⟨S[m].p.name.toArray⟩:ByteArray)=X2 at *
      clear hT1 hT2 HEQ hlt3
      go_upto_region 6 with fail
      go_quiet (fail)
      generalize hw3:World.drewN wr _=w3
      have HM3:=zh (show Mod No wo w3 by rw [<- hw3];exact HMI.out.drewN _)
      clear hw3 hkn hkn2 hc2 hc3
      have HIS:=zh (insR_scan (p:=ltPx x) (x:=x) (A:=S.take (m+1)) (B:=S.drop (m+1)) HBB.out HAA.out)
      rw [List.take_append_drop] at HIS
      obtain ⟨sv,tv,hsv,htv,hsc,hts,hld⟩:=pn_parts (k:=m+1) (Sl.of_own (X:=No) (own_keepM HO.out (HM3.out.drew) (fun _ _ f=>f)) (fun _ _ f=>f)) HFS.out (by omega)
      have HSV:=zh hsv
      have HTV:=zh htv
      obtain ⟨hi0,hz0,hz1,hz2⟩:=HI.out
      have HFX:=zh (show (S.flatMap PnX.cells).take ((m+1)*37)++(cx++(S.flatMap PnX.cells).drop ((m+1)*37))=(sortR ltPx (L.take (k+1))).flatMap PnX.cells by
       rw [HST.out,HIS.out,List.flatMap_append,List.flatMap_cons,flat_takeM (fun y hy=>HX1.out y (HMX.out y hy)),flat_dropM (fun y hy=>HX1.out y (HMX.out y hy)),HXC.out])
      obtain ⟨wD,hwD⟩:∃ y,y=w3.drew:=⟨_,rfl⟩
      rw [<- hwD] at hsc hts
      have HSC:=zh hsc
      have HTS:=zh hts
      have HLD:=zh hld
      have H1D:=zh (show ∀ u ∈ (S.flatMap PnX.cells).drop ((m+1)*37),u.oneCell'=true from fun u hu=>H1L.out S HMX.out u (List.mem_of_mem_drop hu))
      have HMD:=zh (show Mod No w wD by rw [hwD];exact HM.out.trans HM3.out.drew)
      have HRG:=zh (show ∀ w',Mod No wD w'->w'.rangeAt b (o+k*37) cx from fun w' h=>(HMD.out.trans h).rangeAt HRG0.out (fun f=>f))
      have HBD:=zh HMD.out.size
      have HWD:=zh hwD
      have hS0:=Mod.refl No wD
      generalize hXS:S.flatMap PnX.cells=XS at *
      clear hsv htv hsc hts hld hwD hXS
      go_upto_region 8 with fail
      ·exfalso
       rename_i h9
       rcases HOR.out with e | e
       ·exact absurd h9.1 (by rw [e];decide)
       ·exact absurd h9.2 (by rw [e];decide)
      refine wp_region_T (fun w'=>Mod No wD w') 99 (by kernel_rfl) ?_
      rw [<- HWD.out]
      refine yS 0 32 hS0 ?_
      refine yS 1 33 hS0 ?_
      refine yS 2 34 hS0 ?_
      refine yT 3 (some 35) sv hS0 ?_ ?_
      ·(intro w' hSw;apply yslice3 (HSV.out w') (.tmp 32) (.tmp 33) (.tmp 34) <;> rfl)
      simp only [Act.put,yB,yC,yD]
      refine yS 4 36 hS0 ?_
      refine yS 5 37 hS0 ?_
      refine yS 6 38 hS0 ?_
      refine yT 7 (some 39) (.agg cx.toArray) hS0 ?_ ?_
      ·(intro w' hSw;apply yloadv (run_loadVar_mid w' b (o+k*37) 49 cx _ (HRG.out w' hSw) underlying49 rfl (by rw [HC.out];kernel_rfl)) (.tmp 38) <;> rfl)
      simp only [Act.put,yB,yC,yD]
      refine yS 9 41 hS0 ?_
      refine yS 10 42 hS0 ?_
      refine yT 11 (some 43) tv hS0 ?_ ?_
      ·(intro w' hSw;apply yslice1 (HTV.out w') (.tmp 41) (.tmp 42) <;> rfl)
      simp only [Act.put,yB,yC,yD]
      refine wpAnyT_one 8 rfl (by kernel_rfl) rfl ?_
      intro K hK
      obtain ⟨ga,hga⟩:∃ ga,ga=wD.heap.size:=⟨_,rfl⟩
      obtain ⟨wD_8,hwD_8⟩:∃ y,y=wD.alloc (.cells cx.toArray 49):=⟨_,rfl⟩
      have HGA:=zh (show wD_8.heap[ga]? = some (.cells cx.toArray 49 (0,0)) by rw [hwD_8,hga];exact heap_alloc_new _ _)
      have hmwD_8:Mod No wD wD_8:=by rw [hwD_8];exact (Mod.refl No _).alloc _
      have HGL:=zh (show wD.heap.size<=ga by omega)
      refine wp_value (v:=.slice (some ⟨ga,0,none⟩) 1 1) (w':=wD_8) (by rw [hga,hwD_8];apply pn_new HC.out (.tmp 39) <;> rfl) ?_
      clear hwD_8 hga
      show K (Act.put _ (some 40) _) _
      have hS1:=hS0.trans hmwD_8
      refine hK.out _ _ (fun _=>hS1) ?_
      clear hK K
      refine wpAnyT_one 12 rfl (by kernel_rfl) rfl ?_
      intro K hK
      refine wp_app_sl wD_8 (.tmp 40) (.tmp 43) 42 (by rfl) ga 49 i0 _ 37 96 underlying42 hi0 hz0 hz1 hz2 rfl (by decide) (.slice (some ⟨ga,0,none⟩) 1 1) 1 cx (by rfl) ⟨by rw [HC.out],.inr ⟨ga,1,_,rfl,Nat.le_refl _,HGA.out,Nat.le_refl _,by unfold maxLen;omega,by simp [HC.out],by rw [List.toList_toArray,List.take_of_length_le (by rw [HC.out];decide)]⟩⟩ No 49 tv (k - (m+1)) (XS.drop ((m+1)*37)) (by rfl) (HTS.out.kn hS1) HLD.out H1D.out (by unfold maxLen;omega) (by omega) (Nat.le_of_lt (lt_of_heap HGA.out)) ?_
      intro v6 w6 hown hg6 _
      obtain ⟨g6,c6,rfl,hg6a⟩:=own_shape hown (by omega)
      have HO6:=zh hown
      have hm6:Mod No wD w6:=hS1.then (Mod.of_grown (S:=fun q=>q=ga) hg6 (fun q e _=>by cases e;rfl)) (fun q hq e=>by have e:q=ga:=e;have h1:=HGL.out;omega)
      have HB6:=zh (show w.heap.size<=w6.heap.size from Nat.le_trans HBD.out hm6.size)
      clear hown hg6
      show K (Act.put _ (some 44) _) _
      have hS2:=hm6
      refine hK.out _ _ (fun _=>hS2) ?_
      clear hK K
      refine wpAnyT_one 13 rfl (by kernel_rfl) rfl ?_
      intro K hK
      refine wp_app_full w6 (.tmp 35) (.tmp 44) 42 (by rfl) w.heap.size 49 i0 _ 37 96 underlying42 hi0 hz0 hz1 hz2 rfl sv (m+1) (XS.take ((m+1)*37)) (by rfl) (by
       rcases HSC.out with h | ⟨a0,h1,h2,h3⟩
       ·exact .inl h
       ·exact .inr ⟨a0,h1,h2,fun j u e=>hS2.cell (h3 j u e) (fun f=>f)⟩) ⟨g6,0,none⟩ (1+(k - (m+1))) c6 (cx++XS.drop ((m+1)*37)) (by rfl) (by omega) HO6.out.1 (fun j u e=>HO6.out.cells (g:=g6) rfl j u e) (by unfold maxLen;omega) (by omega) HB6.out ?_
      intro v7 w7 hown7 hm7
      have HO7:=zh hown7
      clear hown7
      show K (Act.put _ (some 45) _) _
      have hS3:=hS2.trans hm7
      refine hK.out _ _ (fun _=>hS3) ?_
      clear hK K
      refine yT 14 (some 3) ?_ hS3 ?_ ?_
      rotate_left
      ·(intro w' hSw;go_simp;try with_reducible rfl)
      simp only [Act.put]
      refine wpAnyT_done (by kernel_rfl) ?_ _
      have HMF:=zh hS3
      clear hS0 hS1 hS2 hS3
      go_wp2_with fail
      refine ⟨⟨k+1,v7,by omega,rfl,rfl,?_,HMD.out.trans HMF.out⟩,by show n - ((k:Int)+1).toNat < n - (k:Int).toNat;omega⟩
      have h9:=HO7.out
      rw [HFX.out,show ((m+1))+(1+(k - ((m+1))))=k+1 by omega] at h9
      exact h9
  ·obtain rfl:k=n:=by omega
   have hk1:¬ ((k:Int) < (k:Int)):=by omega
   go_wp2_with fail
   exact HRE.out _ _ HO.out HM.out
end Go.Proofs.YtmppeipgjcjdkaaGreatDoor
