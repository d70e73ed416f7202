/-
  Layers 0 to 14: helps of the laws of indexes. No statement is proved here; no condition.
-/
import Derived.Test.YtgiigemfbebcgaaGreatDoorQ34
import Derived.Test.YtgiigemfbebcgaaGreatDoorQ42
import Derived.Test.YtgiigemfbebcgaaGreatDoorQ41
import Derived.Test.YtgiigemfbebcgaaGreatDoorQ35
import Derived.Test.YtgiigemfbebcgaaGreatDoorQ12
import Derived.Test.YtgiigemfbebcgaaGreatDoorQ32
namespace Go.Proofs.YtgiigemfbebcgaaGreatDoor
open _root_.Go.Proofs.Tryz
open Go.RowKit
def ixI (s:List UInt8):Int:=match indexL s with
 | .inr i=>(i:Int)
 | .inl _=>0
def ixE (s:List UInt8):Int:=match indexL s with
 | .inr _=>65
 | .inl _=>0
def ixR (s:List UInt8):List Rw:=match indexL s with
 | .inr _=>[]
 | .inl st=>st
structure RowsB (w:World) (v:Value) (xs:List RwX):Prop where
 each:∀ x ∈ xs,RwAt w x
 sl:Sl w No 46 v xs.length (xs.flatMap RwX.cells)
theorem RowsB.no {w w':World} {v:Value} {xs:List RwX} (h:RowsB w v xs) (hm:Mod No w w'):RowsB w' v xs :=
 ⟨fun x hx=>(h.each x hx).keep hm (Apart.no _ _),h.sl.kn hm⟩
theorem ixparse_b (s:List UInt8) (hl:s.length<=100000) (w:World) (hgl:Gl w) :
  Calls prog 11 #[strV s] w fun e w'=>(∃ a n c xs,e=.returned (.tuple #[.slice a n c,.int .i64 (ixI s),.int .i64 (ixE s)])/\RowsB w' (.slice a n c) xs/\xs.map RwX.r=ixR s)/\Mod No w w' :=
 (ixparse_any s hl w hgl).mono fun e w' ⟨h,hm⟩=>by
  refine ⟨?_,hm⟩
  unfold IxRes at h
  unfold ixI ixE ixR
  split at h
  ·next i hi=>rw [hi];exact ⟨none,0,0,[],h,⟨fun _ h=>(by cases h),.inl ⟨rfl,rfl,rfl⟩⟩,rfl⟩
  ·next st hi =>
   rw [hi]
   obtain ⟨B,v,xs,he,h1,h2,-⟩:=h
   obtain ⟨a,c,rfl⟩:=own_len h1.own
   exact ⟨a,_,c,xs,he,⟨fun x hx=>(h1.each x hx).at,h1.sl⟩,h2⟩
theorem ixof_b (s:List UInt8) (hl:s.length<=100000) (w:World) :
  Calls prog 12 #[strV s] w fun e w'=>(∃ a n c xs,e=.returned (.tuple #[.slice a n c,.int .i64 (ixI s),.int .i64 (ixE s)])/\RowsB w' (.slice a n c) xs/\xs.map RwX.r=ixR s)/\Mod No w w' :=
 (ixof_any s hl w).mono fun e w' ⟨h,hm⟩=>by
  refine ⟨?_,hm⟩
  unfold IxRef at h
  unfold ixI ixE ixR
  split at h
  ·next i hi=>rw [hi];exact ⟨none,0,0,[],h,⟨fun _ h=>(by cases h),.inl ⟨rfl,rfl,rfl⟩⟩,rfl⟩
  ·next st hi =>
   rw [hi]
   obtain ⟨B,v,xs,he,h1,h2,-⟩:=h
   obtain ⟨a,c,rfl⟩:=own_len h1.own
   exact ⟨a,_,c,xs,he,⟨fun x hx=>(h1.each x hx).at_,h1.sl⟩,h2⟩
set_option maxRecDepth 100000 in
set_option maxHeartbeats 8000000 in
theorem light_any (xs:List SrX) (hx:∀ x ∈ xs,∃ a c,x.nv=.slice a x.r.needs.length c) (v:Value) (lim:Nat) (w:World) (hv:SvX w No v xs.length (xs.flatMap SrX.cells)) :
  Calls prog 8 #[v,.int .i64 (lim:Int)] w fun e w'=>(∃ b,e=.returned (.bool b)/\(b=true ↔ xs.length<=lim/\∀ x ∈ xs,x.r.needs.length<=4))/\Mod No w w':=by
 refine calls_hide fun R hR=>?_
 have hl:=hv.lenle
 obtain ⟨va,vc,rfl⟩:=hv.len
 have HX:=zh hx
 have HV:=zh hv
 obtain ⟨n,hn⟩:∃ n,n=xs.length:=⟨_,rfl⟩
 rw [<- hn] at hl hR ⊢
 have HN:=zh hn
 clear hx hv
 go_enter func8,ntmps8
 by_cases hlim:lim < n
 ·have hg:(lim:Int) < (n:Int):=by omega
  clear hn
  go_wp2_with fail
  exact fin hR ⟨⟨false,rfl,⟨fun h=>by (cases h),fun h=>by omega⟩⟩,Mod.refl _ _⟩
 ·have hg:¬ ((lim:Int) < (n:Int)):=by omega
  clear hn
  go_wp2_with fail
  go_loopw [5] (fun q wr=>∃ k:Nat,k<=n/\q=.int .i64 (k:Int)/\(∀ i (hi:i < xs.length),i < k->xs[i].r.needs.length<=4)/\wr=w) (fun q _=>n - (intOf q).toNat)
  case atStart=>exact ⟨0,by omega,rfl,fun i _ h=>absurd h (by omega),rfl⟩
  case round =>
   obtain ⟨k,hk,rfl,hall,rfl⟩:=hrel
   have HALL:=zh hall
   have hk0:(0:Int)<=(k:Int):=Int.natCast_nonneg _
   clear hall
   by_cases hlt:k < n
   ·have hk1:(k:Int) < (n:Int):=by omega
    have hkl:k < xs.length:=by rw [<- HN.out];exact hlt
    obtain ⟨ib,io,c,hvs,_⟩:=HV.out.shape (by omega)
    have hva:va=some ⟨ib,io,none⟩:=by cases hvs;rfl
    subst hva
    have hc:=(SvX.at SrX.cells_length HV.out hkl rfl) 2 _ rfl
    obtain ⟨a,c2,hnv⟩:=HX.out _ (List.getElem_mem hkl)
    rw [hnv] at hc
    by_cases h4:xs[k].r.needs.length<=4
    ·have h4i:¬ ((4:Int) < (xs[k].r.needs.length:Int)):=by omega
     have HA2:=zh (show ∀ i (hi:i < xs.length),i < k+1->xs[i].r.needs.length<=4 from fun i hi hik=>by
      by_cases he:i=k
      ·subst he;exact h4
      ·exact HALL.out i hi (by omega))
     clear hnv hvs h4
     generalize xs[k].r.needs.length=z at *
     go_wp2_with fail
     exact ⟨⟨k+1,by omega,rfl,HA2.out,trivial⟩,by show n - ((k:Int)+1).toNat < n - (k:Int).toNat;omega⟩
    ·have h4i:(4:Int) < (xs[k].r.needs.length:Int):=by omega
     have HNO:=zh (show ¬ (n<=lim/\∀ x ∈ xs,x.r.needs.length<=4) from fun h=>h4 (h.2 _ (List.getElem_mem hkl)))
     clear hnv hvs h4
     generalize xs[k].r.needs.length=z at *
     go_wp2_with fail
     exact fin hR ⟨⟨false,rfl,⟨fun h=>by (cases h),fun h=>absurd h HNO.out⟩⟩,Mod.refl _ _⟩
   ·obtain rfl:k=n:=by omega
    have hk1:¬ ((k:Int) < (k:Int)):=by omega
    go_wp2_with fail
    exact fin hR ⟨⟨true,rfl,⟨fun _=>⟨by omega,fun x hx=>by
     obtain ⟨i,hi,rfl⟩:=List.getElem_of_mem hx
     exact HALL.out i hi (by rw [HN.out];exact hi)⟩,fun _=>rfl⟩⟩,Mod.refl _ _⟩
theorem map_get {α β:Type} {f:α->β} {xs:List α} {l:List β} (h:xs.map f=l) {k:Nat} (hk:k < l.length):∃ hx:k < xs.length,f (xs[k]'hx)=l[k]:=by
 subst h
 rw [List.length_map] at hk
 exact ⟨hk,(List.getElem_map ..).symm⟩
set_option maxRecDepth 100000 in
set_option maxHeartbeats 16000000 in
theorem span_eq (any:Bool) (l:List (List Bnd)) (va vb:Value) (w:World) (ha:OrsAt w va l) (hb:OrsAt w vb l) :
  Calls prog 88 #[.agg #[.bool any,va],.agg #[.bool any,vb]] w fun e w'=>e=.returned (.bool true)/\Mod No w w':=by
 refine calls_hide fun R hR=>?_
 obtain ⟨xa,hxa,hea,hsa⟩:=ha
 obtain ⟨xb,hxb,heb,hsb⟩:=hb
 have hl:=hsa.lenle
 obtain ⟨aa,oc,rfl⟩:=hsa.len
 obtain ⟨ba,qc,rfl⟩:=hsb.len
 have HXA:=zh hxa
 have HXB:=zh hxb
 have HEA:=zh hea
 have HEB:=zh heb
 obtain ⟨n,hn⟩:∃ n,n=l.length:=⟨_,rfl⟩
 rw [<- hn] at hsa hsb hl ⊢
 have HSA:=zh hsa
 have HSB:=zh hsb
 have HN:=zh hn
 clear hxa hxb hea heb hsa hsb hn
 go_enter func88,ntmps88
 go_upto_region 1 with fail
 have hg2:(w.alloc (.cells #[.bool any,.slice aa n oc] 79)).heap.size=w.heap.size+1:=by show (w.heap.push _).size=_;simp
 obtain ⟨g1,hg1⟩:∃ g,g=w.heap.size:=⟨_,rfl⟩
 have hk1:=heap_alloc_old (.cells #[.bool any,.slice ba n qc] 79) (heap_alloc_new w (.cells #[.bool any,.slice aa n oc] 79))
 have hk2:=heap_alloc_new (w.alloc (.cells #[.bool any,.slice aa n oc] 79)) (.cells #[.bool any,.slice ba n qc] 79)
 have hm2:=((Mod.refl No w).alloc (.cells #[.bool any,.slice aa n oc] 79)).alloc (.cells #[.bool any,.slice ba n qc] 79)
 rw [hg2] at hk2
 rw [<- hg1] at hk1 hk2 ⊢
 generalize World.alloc (w.alloc _) _=w2 at *
 have HB1:=zh hk1
 have HB2:=zh hk2
 have HM2:=zh hm2
 clear hg2 hk1 hk2 hm2 hg1
 have q1:=cell_ofA HB1.out (i:=1) rfl
 have q2:=cell_ofA HB2.out (i:=1) rfl
 have q3:=cell_ofA HB1.out (i:=0) rfl
 have q4:=cell_ofA HB2.out (i:=0) rfl
 go_wp2_with fail
 clear q1 q2 q3 q4
 go_loopw [5,6] (fun q5 q6 wr=>∃ k:Nat,k<=n/\q5=.int .i64 (k:Int)/\Mod No w2 wr) (fun q5 q6 _=>n - (intOf q5).toNat)
 case atStart=>exact ⟨0,by omega,rfl,Mod.refl _ _⟩
 case round =>
  obtain ⟨k,hk,rfl,hm⟩:=hrel
  have HM:=zh hm
  have hk0:(0:Int)<=(k:Int):=Int.natCast_nonneg _
  have q1:=cell_ofA (hm.keep HB1.out (fun f=>f)) (i:=1) rfl
  have q2:=cell_ofA (hm.keep HB2.out (fun f=>f)) (i:=1) rfl
  clear hm
  by_cases hlt:k < n
  ·have hkn:(k:Int) < (n:Int):=by omega
   have hkl:k < l.length:=by rw [<- HN.out];exact hlt
   obtain ⟨oa,oo,c1,hvs,_⟩:=HSA.out.shape (by omega)
   have haa:aa=some ⟨oa,oo,none⟩:=by cases hvs;rfl
   subst haa
   obtain ⟨qa,qo,c2,hvs2,_⟩:=HSB.out.shape (by omega)
   have hba:ba=some ⟨qa,qo,none⟩:=by cases hvs2;rfl
   subst hba
   obtain ⟨hka,e1⟩:=map_get HXA.out hkl
   obtain ⟨hkb,e2⟩:=map_get HXB.out hkl
   have h1:=HSA.out.cellN (i:=k) (by rw [List.length_map];exact hka)
   have h2:=HSB.out.cellN (i:=k) (by rw [List.length_map];exact hkb)
   rw [List.getElem_map] at h1 h2
   obtain ⟨ya,hya,hpa,hba⟩:=HEA.out _ (List.getElem_mem hka)
   obtain ⟨yb,hyb,hpb,hbb⟩:=HEB.out _ (List.getElem_mem hkb)
   rw [e1] at hya hba
   rw [e2] at hyb hbb
   generalize l[k]=L at hya hba hyb hbb e1 e2
   generalize (xa[k]'hka).v=ua at h1 hba
   generalize (xb[k]'hkb).v=ub at h2 hbb
   have hml:=hba.lenle
   obtain ⟨ab0,ac,rfl⟩:=hba.len
   obtain ⟨bb0,bc,rfl⟩:=hbb.len
   obtain ⟨m,hm⟩:∃ m,m=L.length:=⟨_,rfl⟩
   rw [<- hm] at h1 h2 hml hba hbb
   have HML:=zh hm
   have HYA:=zh hya
   have HYB:=zh hyb
   have HPA:=zh hpa
   have HPB:=zh hpb
   have HBA:=zh hba
   have HBB:=zh hbb
   have H1:=zh h1
   have H2:=zh h2
   have q5:=(HM2.out.trans HM.out).cell h1 (fun f=>f)
   have q6:=(HM2.out.trans HM.out).cell h2 (fun f=>f)
   clear h1 h2 hvs hvs2 e1 e2 hm hya hyb hpa hpb hba hbb
   go_upto_region 6 with fail
   go_quiet (fail)
   generalize hw3:World.drewN wr _=w3
   have HM3:=zh (show Mod No w2 w3 by rw [<- hw3];exact HM.out.drewN _)
   clear hw3 q1 q2 q5 q6
   go_wp2_with fail
   go_loopw [6] (fun q6 wr2=>∃ j:Nat,j<=m/\q6=.int .i64 (j:Int)/\Mod No w2 wr2) (fun q6 _=>m - (intOf q6).toNat)
   case atStart=>exact ⟨0,by omega,rfl,HM3.out⟩
   case round =>
    obtain ⟨j,hj,rfl,hm⟩:=hrel
    have HMJ:=zh hm
    have hj0:(0:Int)<=(j:Int):=Int.natCast_nonneg _
    have q1:=cell_ofA (hm.keep HB1.out (fun f=>f)) (i:=1) rfl
    have q5:=(HM2.out.trans hm).cell H1.out (fun f=>f)
    clear hm
    by_cases hjt:j < m
    ·have hjm:(j:Int) < (m:Int):=by omega
     have hjl:j < L.length:=by rw [<- HML.out];exact hjt
     obtain ⟨ab,ao,c3,hvs,_⟩:=HBA.out.shape (by omega)
     have haa:ab0=some ⟨ab,ao,none⟩:=by cases hvs;rfl
     subst haa
     obtain ⟨bb,bo,c4,hvs2,_⟩:=HBB.out.shape (by omega)
     have hbb:bb0=some ⟨bb,bo,none⟩:=by cases hvs2;rfl
     subst hbb
     obtain ⟨hja,e1⟩:=map_get HYA.out hjl
     obtain ⟨hjb,e2⟩:=map_get HYB.out hjl
     have hma:ya.length=m:=by have h:=congrArg List.length HYA.out;rw [List.length_map] at h;rw [h,HML.out]
     have hmb:yb.length=m:=by have h:=congrArg List.length HYB.out;rw [List.length_map] at h;rw [h,HML.out]
     have r1:w.rangeAt ab (ao+j*5) (BndX.cells ya[j]):=Sl.at BndX.cells_length (by rw [<- hma] at HBA;exact HBA.out) hja
     have r2:w.rangeAt bb (bo+j*5) (BndX.cells yb[j]):=Sl.at BndX.cells_length (by rw [<- hmb] at HBB;exact HBB.out) hjb
     have p1:=HPA.out _ (List.getElem_mem hja)
     have p2:=HPB.out _ (List.getElem_mem hjb)
     have he:(ya[j]'hja).b=(yb[j]'hjb).b:=e1.trans e2.symm
     generalize ya[j]=x1 at r1 p1 he
     generalize yb[j]=x2 at r2 p2 he
     obtain ⟨⟨sg,y⟩,pa⟩:=x1
     obtain ⟨b2,pb⟩:=x2
     obtain rfl:(⟨sg,y⟩:Bnd)=b2:=he
     dsimp only at p1 p2
     have R1:=zh r1
     have R2:=zh r2
     have HV0:=zh (fun W (hm:Mod No w W)=>version_eq y pa pb W (p1.kn hm) (p2.kn hm))
     obtain ⟨ZS,hZS⟩:∃ Z:ByteArray,Z=⟨sg.toArray⟩:=⟨_,rfl⟩
     have HZS:=zh hZS
     clear e1 e2 hma hmb r1 r2 p1 p2 hvs hvs2 hZS
     go_upto_region 11 with fail
     obtain ⟨wD,hwD⟩:∃ x,x=wr.drew:=⟨_,rfl⟩
     have HMD:=zh (show Mod No w2 wD by rw [hwD];exact HMJ.out.drew)
     have HSM:=zh (show ∀ w',Mod No wD w'->w'.cell? ⟨g1,1,none⟩=some (.slice (some ⟨oa,oo,none⟩) n oc)/\w'.cell? ⟨g1+1,1,none⟩=some (.slice (some ⟨qa,qo,none⟩) n qc)/\w'.cell? ⟨oa,oo+k,none⟩=some (.slice (some ⟨ab,ao,none⟩) m ac)/\w'.cell? ⟨qa,qo+k,none⟩=some (.slice (some ⟨bb,bo,none⟩) m bc) ∧
       w'.cell? ⟨ab,ao+j*5,none⟩=some (.string ZS)/\w'.cell? ⟨bb,bo+j*5,none⟩=some (.string ZS)/\w'.rangeAt ab (ao+j*5+1) (VrX.cells ⟨y,pa⟩)/\w'.rangeAt bb (bo+j*5+1) (VrX.cells ⟨y,pb⟩) from fun w' h=>by
      have h2:=HMD.out.trans h
      have h3:=HM2.out.trans h2
      refine ⟨cell_ofA (h2.keep HB1.out (fun f=>f)) rfl,cell_ofA (h2.keep HB2.out (fun f=>f)) rfl,h3.cell H1.out (fun f=>f),h3.cell H2.out (fun f=>f),?_,?_,?_,?_⟩
      ·rw [HZS.out];exact h3.cell (R1.out 0 _ rfl) (fun f=>f)
      ·rw [HZS.out];exact h3.cell (R2.out 0 _ rfl) (fun f=>f)
      ·exact h3.rangeAt (rangeAt_part (p:=[strV sg]) (q:=VrX.cells ⟨y,pa⟩) (r:=[]) (by rw [List.append_nil];exact R1.out)) (fun f=>f)
      ·exact h3.rangeAt (rangeAt_part (p:=[strV sg]) (q:=VrX.cells ⟨y,pb⟩) (r:=[]) (by rw [List.append_nil];exact R2.out)) (fun f=>f))
     have HVE:=zh (show ∀ W,Mod No wD W->Calls prog 53 #[.agg #[.int .i64 y.ma,.int .i64 y.mi,.int .i64 y.pa,pa],.agg #[.int .i64 y.ma,.int .i64 y.mi,.int .i64 y.pa,pb]] W fun e w'=>e=.returned (.bool true)/\Mod No W w' from fun W hm=>HV0.out W (HM2.out.trans (HMD.out.trans hm)))
     have HWD:=zh hwD
     have hS0:=Mod.refl No wD
     clear hwD q1 q5
     refine wp_region_T (fun w'=>Mod No wD w') 99 (by kernel_rfl) ?_
     rw [<- HWD.out]
     refine yT 0 (some 51) ?_ hS0 ?_ ?_
     rotate_left
     ·(intro w' hSw;go_simp;try with_reducible rfl)
     simp only [Act.put,yB,yC,yD]
     refine yT 1 (some 52) (.slice (some ⟨oa,oo,none⟩) n oc) hS0 ?_ ?_
     ·(intro w' hSw;have q0:=(HSM.out w' hSw).1;go_simp;try with_reducible rfl)
     simp only [Act.put,yB,yC,yD]
     refine yT 2 (some 53) ?_ hS0 ?_ ?_
     rotate_left
     ·(intro w' hSw;go_simp;try with_reducible rfl)
     simp only [Act.put,yB,yC,yD]
     refine yT 3 (some 54) ?_ hS0 ?_ ?_
     rotate_left
     ·(intro w' hSw;go_simp;try with_reducible rfl)
     simp only [Act.put,yB,yC,yD]
     refine yT 4 (some 55) (.slice (some ⟨ab,ao,none⟩) m ac) hS0 ?_ ?_
     ·(intro w' hSw;have q0:=(HSM.out w' hSw).2.2.1;go_simp;try with_reducible rfl)
     simp only [Act.put,yB,yC,yD]
     refine yT 5 (some 56) ?_ hS0 ?_ ?_
     rotate_left
     ·(intro w' hSw;go_simp;try with_reducible rfl)
     simp only [Act.put,yB,yC,yD]
     refine yT 6 (some 57) ?_ hS0 ?_ ?_
     rotate_left
     ·(intro w' hSw;go_simp;try with_reducible rfl)
     simp only [Act.put,yB,yC,yD]
     refine yT 7 (some 58) ?_ hS0 ?_ ?_
     rotate_left
     ·(intro w' hSw;go_simp;try with_reducible rfl)
     simp only [Act.put,yB,yC,yD]
     refine yT 8 (some 59) (.string ZS) hS0 ?_ ?_
     ·(intro w' hSw;have q0:=(HSM.out w' hSw).2.2.2.2.1;go_simp;try with_reducible rfl)
     simp only [Act.put,yB,yC,yD]
     refine yT 9 (some 60) ?_ hS0 ?_ ?_
     rotate_left
     ·(intro w' hSw;go_simp;try with_reducible rfl)
     simp only [Act.put,yB,yC,yD]
     refine yT 10 (some 61) (.slice (some ⟨qa,qo,none⟩) n qc) hS0 ?_ ?_
     ·(intro w' hSw;have q0:=(HSM.out w' hSw).2.1;go_simp;try with_reducible rfl)
     simp only [Act.put,yB,yC,yD]
     refine yT 11 (some 62) ?_ hS0 ?_ ?_
     rotate_left
     ·(intro w' hSw;go_simp;try with_reducible rfl)
     simp only [Act.put,yB,yC,yD]
     refine yT 12 (some 63) ?_ hS0 ?_ ?_
     rotate_left
     ·(intro w' hSw;go_simp;try with_reducible rfl)
     simp only [Act.put,yB,yC,yD]
     refine yT 13 (some 64) (.slice (some ⟨bb,bo,none⟩) m bc) hS0 ?_ ?_
     ·(intro w' hSw;have q0:=(HSM.out w' hSw).2.2.2.1;go_simp;try with_reducible rfl)
     simp only [Act.put,yB,yC,yD]
     refine yT 14 (some 65) ?_ hS0 ?_ ?_
     rotate_left
     ·(intro w' hSw;go_simp;try with_reducible rfl)
     simp only [Act.put,yB,yC,yD]
     refine yT 15 (some 66) ?_ hS0 ?_ ?_
     rotate_left
     ·(intro w' hSw;go_simp;try with_reducible rfl)
     simp only [Act.put,yB,yC,yD]
     refine yT 16 (some 67) ?_ hS0 ?_ ?_
     rotate_left
     ·(intro w' hSw;go_simp;try with_reducible rfl)
     simp only [Act.put,yB,yC,yD]
     refine yT 17 (some 68) (.string ZS) hS0 ?_ ?_
     ·(intro w' hSw;have q0:=(HSM.out w' hSw).2.2.2.2.2.1;go_simp;try with_reducible rfl)
     simp only [Act.put,yB,yC,yD]
     refine yT 18 (some 69) ?_ hS0 ?_ ?_
     rotate_left
     ·(intro w' hSw;go_simp;try with_reducible rfl)
     simp only [Act.put,yB,yC,yD]
     refine yT 19 (some 70) ?_ hS0 ?_ ?_
     rotate_left
     ·(intro w' hSw;go_simp;try with_reducible rfl)
     simp only [Act.put,yB,yC,yD]
     refine yT 20 (some 71) ?_ hS0 ?_ ?_
     rotate_left
     ·(intro w' hSw;go_simp;try with_reducible rfl)
     simp only [Act.put,yB,yC,yD]
     refine yT 21 (some 72) (.slice (some ⟨oa,oo,none⟩) n oc) hS0 ?_ ?_
     ·(intro w' hSw;have q0:=(HSM.out w' hSw).1;go_simp;try with_reducible rfl)
     simp only [Act.put,yB,yC,yD]
     refine yT 22 (some 73) ?_ hS0 ?_ ?_
     rotate_left
     ·(intro w' hSw;go_simp;try with_reducible rfl)
     simp only [Act.put,yB,yC,yD]
     refine yT 23 (some 74) ?_ hS0 ?_ ?_
     rotate_left
     ·(intro w' hSw;go_simp;try with_reducible rfl)
     simp only [Act.put,yB,yC,yD]
     refine yT 24 (some 75) (.slice (some ⟨ab,ao,none⟩) m ac) hS0 ?_ ?_
     ·(intro w' hSw;have q0:=(HSM.out w' hSw).2.2.1;go_simp;try with_reducible rfl)
     simp only [Act.put,yB,yC,yD]
     refine yT 25 (some 76) ?_ hS0 ?_ ?_
     rotate_left
     ·(intro w' hSw;go_simp;try with_reducible rfl)
     simp only [Act.put,yB,yC,yD]
     refine yT 26 (some 77) ?_ hS0 ?_ ?_
     rotate_left
     ·(intro w' hSw;go_simp;try with_reducible rfl)
     simp only [Act.put,yB,yC,yD]
     refine yT 27 (some 78) ?_ hS0 ?_ ?_
     rotate_left
     ·(intro w' hSw;go_simp;try with_reducible rfl)
     simp only [Act.put,yB,yC,yD]
     refine yT 28 (some 79) (verV y pa) hS0 ?_ ?_
     ·(intro w' hSw;apply yloadv (run_loadVar_mid w' ab (ao+j*5+1) 40 (VrX.cells ⟨y,pa⟩) _ (HSM.out w' hSw).2.2.2.2.2.2.1 underlying40 rfl ver_info) (.tmp 78) <;> rfl)
     simp only [Act.put,yB,yC,yD]
     refine yT 29 (some 80) ?_ hS0 ?_ ?_
     rotate_left
     ·(intro w' hSw;go_simp;try with_reducible rfl)
     simp only [Act.put,yB,yC,yD]
     refine yT 30 (some 81) (.slice (some ⟨qa,qo,none⟩) n qc) hS0 ?_ ?_
     ·(intro w' hSw;have q0:=(HSM.out w' hSw).2.1;go_simp;try with_reducible rfl)
     simp only [Act.put,yB,yC,yD]
     refine yT 31 (some 82) ?_ hS0 ?_ ?_
     rotate_left
     ·(intro w' hSw;go_simp;try with_reducible rfl)
     simp only [Act.put,yB,yC,yD]
     refine yT 32 (some 83) ?_ hS0 ?_ ?_
     rotate_left
     ·(intro w' hSw;go_simp;try with_reducible rfl)
     simp only [Act.put,yB,yC,yD]
     refine yT 33 (some 84) (.slice (some ⟨bb,bo,none⟩) m bc) hS0 ?_ ?_
     ·(intro w' hSw;have q0:=(HSM.out w' hSw).2.2.2.1;go_simp;try with_reducible rfl)
     simp only [Act.put,yB,yC,yD]
     refine yT 34 (some 85) ?_ hS0 ?_ ?_
     rotate_left
     ·(intro w' hSw;go_simp;try with_reducible rfl)
     simp only [Act.put,yB,yC,yD]
     refine yT 35 (some 86) ?_ hS0 ?_ ?_
     rotate_left
     ·(intro w' hSw;go_simp;try with_reducible rfl)
     simp only [Act.put,yB,yC,yD]
     refine yT 36 (some 87) ?_ hS0 ?_ ?_
     rotate_left
     ·(intro w' hSw;go_simp;try with_reducible rfl)
     simp only [Act.put,yB,yC,yD]
     refine yT 37 (some 88) (verV y pb) hS0 ?_ ?_
     ·(intro w' hSw;apply yloadv (run_loadVar_mid w' bb (bo+j*5+1) 40 (VrX.cells ⟨y,pb⟩) _ (HSM.out w' hSw).2.2.2.2.2.2.2 underlying40 rfl ver_info) (.tmp 87) <;> rfl)
     simp only [Act.put,yB,yC,yD]
     refine wpAnyT_oneW 38 rfl (by kernel_rfl) (by rfl) ?_
     intro K hK
     unfold verV
     go_simp
     go_at_call 53
     with_reducible refine (HVE.out _ hS0).mono ?_
     rintro e wE ⟨rfl,hmE⟩
     have HME:=zh hmE
     clear hmE
     show K _ _
     have hS1:=HME.out
     refine hK.out _ _ (fun _=>hS1) ?_
     clear hK K
     refine yT 39 (some 90) ?_ hS1 ?_ ?_
     rotate_left
     ·(intro w' hSw;go_simp;try with_reducible rfl)
     simp only [Act.put,yB,yC,yD]
     refine yT 40 (some 91) ?_ hS1 ?_ ?_
     rotate_left
     ·(intro w' hSw;go_simp;try with_reducible rfl)
     simp only [Act.put]
     refine wpAnyT_done (by kernel_rfl) ?_ _
     clear hS0 hS1
     go_wp2_with fail
     exact ⟨⟨j+1,by omega,rfl,HMD.out.trans HME.out⟩,by show m - ((j:Int)+1).toNat < m - (j:Int).toNat;omega⟩
    ·obtain rfl:j=m:=by omega
     have hjm:¬ ((j:Int) < (j:Int)):=by omega
     go_wp2_with fail
     exact ⟨⟨k+1,by omega,rfl,HMJ.out⟩,by show n - ((k:Int)+1).toNat < n - (k:Int).toNat;omega⟩
  ·obtain rfl:k=n:=by omega
   have hkn:¬ ((k:Int) < (k:Int)):=by omega
   go_wp2_with fail
   exact fin hR ⟨rfl,HM2.out.trans HM.out⟩
theorem span_info:(prog.info? 79).map (·.size)=some 2:=by kernel_rfl
set_option maxRecDepth 100000 in
set_option maxHeartbeats 16000000 in
theorem needs_eq (l:List Nd) (va vb:Value) (w:World) (ha:NdsAt w va l) (hb:NdsAt w vb l) :
  Calls prog 54 #[va,vb] w fun e w'=>e=.returned (.bool true)/\Mod No w w':=by
 refine calls_hide fun R hR=>?_
 obtain ⟨xa,hxa,hea,hsa⟩:=ha
 obtain ⟨xb,hxb,heb,hsb⟩:=hb
 have hl:=hsa.lenle
 obtain ⟨aa,oc,rfl⟩:=hsa.len
 obtain ⟨ba,qc,rfl⟩:=hsb.len
 have hma:xa.length=l.length:=by have h:=congrArg List.length hxa;rw [List.length_map] at h;exact h
 have hmb:xb.length=l.length:=by have h:=congrArg List.length hxb;rw [List.length_map] at h;exact h
 have HXA:=zh hxa
 have HXB:=zh hxb
 have HEA:=zh hea
 have HEB:=zh heb
 obtain ⟨n,hn⟩:∃ n,n=l.length:=⟨_,rfl⟩
 rw [<- hn] at hsa hsb hl hma hmb ⊢
 have HSA:=zh hsa
 have HSB:=zh hsb
 have HN:=zh hn
 have HMA:=zh hma
 have HMB:=zh hmb
 clear hxa hxb hea heb hsa hsb hn hma hmb
 go_enter func54,ntmps54
 go_wp2_with fail
 go_loopw [5] (fun q wr=>∃ k:Nat,k<=n/\q=.int .i64 (k:Int)/\Mod No w wr) (fun q _=>n - (intOf q).toNat)
 case atStart=>exact ⟨0,by omega,rfl,Mod.refl _ _⟩
 case round =>
  obtain ⟨k,hk,rfl,hm⟩:=hrel
  have HM:=zh hm
  have hk0:(0:Int)<=(k:Int):=Int.natCast_nonneg _
  clear hm
  by_cases hlt:k < n
  ·have hk1:(k:Int) < (n:Int):=by omega
   have hkl:k < l.length:=by rw [<- HN.out];exact hlt
   obtain ⟨ab,ao,c1,hvs,_⟩:=HSA.out.shape (by omega)
   have haa:aa=some ⟨ab,ao,none⟩:=by cases hvs;rfl
   subst haa
   obtain ⟨bb,bo,c2,hvs2,_⟩:=HSB.out.shape (by omega)
   have hba:ba=some ⟨bb,bo,none⟩:=by cases hvs2;rfl
   subst hba
   obtain ⟨hja,e1⟩:=map_get HXA.out hkl
   obtain ⟨hjb,e2⟩:=map_get HXB.out hkl
   have r1:w.rangeAt ab (ao+k*4) (NdX.cells xa[k]):=Sl.at NdX.cells_length (by have h:=HSA.out;rw [<- HMA.out] at h;exact h) hja
   have r2:w.rangeAt bb (bo+k*4) (NdX.cells xb[k]):=Sl.at NdX.cells_length (by have h:=HSB.out;rw [<- HMB.out] at h;exact h) hjb
   have p1:=HEA.out _ (List.getElem_mem hja)
   have p2:=HEB.out _ (List.getElem_mem hjb)
   have he:(xa[k]'hja).n=(xb[k]'hjb).n:=e1.trans e2.symm
   generalize xa[k]=x1 at r1 p1 he
   generalize xb[k]=x2 at r2 p2 he
   obtain ⟨⟨nm,⟨any,ors⟩,tx⟩,pa0⟩:=x1
   obtain ⟨b2,pb0⟩:=x2
   obtain rfl:(⟨nm,⟨any,ors⟩,tx⟩:Nd)=b2:=he
   dsimp only at p1 p2
   have HV0:=zh (fun W (hm:Mod No w W)=>span_eq any ors pa0 pb0 W (p1.keep hm (Apart.no _ _)) (p2.keep hm (Apart.no _ _)))
   obtain ⟨pa,pn,pc,hpa⟩:∃ a m c,pa0=.slice a m c:=by obtain ⟨_,-,-,h⟩:=p1;obtain ⟨a,c,h⟩:=h.len;exact ⟨_,_,_,h⟩
   obtain ⟨pb,pm,pd,hpb⟩:∃ a m c,pb0=.slice a m c:=by obtain ⟨_,-,-,h⟩:=p2;obtain ⟨a,c,h⟩:=h.len;exact ⟨_,_,_,h⟩
   subst hpa
   subst hpb
   have R1:=zh r1
   have R2:=zh r2
   obtain ⟨ZN,hZN⟩:∃ Z:ByteArray,Z=⟨nm.toArray⟩:=⟨_,rfl⟩
   obtain ⟨ZT,hZT⟩:∃ Z:ByteArray,Z=⟨tx.toArray⟩:=⟨_,rfl⟩
   have HZN:=zh hZN
   have HZT:=zh hZT
   clear e1 e2 r1 r2 p1 p2 hvs hvs2 hZN hZT
   go_upto_region 6 with fail
   obtain ⟨wD,hwD⟩:∃ x,x=wr.drew:=⟨_,rfl⟩
   have HMD:=zh (show Mod No w wD by rw [hwD];exact HM.out.drew)
   have HSM:=zh (show ∀ w',Mod No wD w'->w'.cell? ⟨ab,ao+k*4,none⟩=some (.string ZN)/\w'.cell? ⟨bb,bo+k*4,none⟩=some (.string ZN)/\w'.cell? ⟨ab,ao+k*4+3,none⟩=some (.string ZT)/\w'.cell? ⟨bb,bo+k*4+3,none⟩=some (.string ZT) ∧
     w'.rangeAt ab (ao+k*4+1) [.bool any,.slice pa pn pc]/\w'.rangeAt bb (bo+k*4+1) [.bool any,.slice pb pm pd] from fun w' h=>by
    have h3:=HMD.out.trans h
    refine ⟨?_,?_,?_,?_,?_,?_⟩
    ·rw [HZN.out];exact h3.cell (R1.out 0 _ rfl) (fun f=>f)
    ·rw [HZN.out];exact h3.cell (R2.out 0 _ rfl) (fun f=>f)
    ·rw [HZT.out];exact h3.cell (R1.out 3 _ rfl) (fun f=>f)
    ·rw [HZT.out];exact h3.cell (R2.out 3 _ rfl) (fun f=>f)
    ·exact h3.rangeAt (rangeAt_part (p:=[strV nm]) (q:=[.bool any,.slice pa pn pc]) (r:=[strV tx]) R1.out) (fun f=>f)
    ·exact h3.rangeAt (rangeAt_part (p:=[strV nm]) (q:=[.bool any,.slice pb pm pd]) (r:=[strV tx]) R2.out) (fun f=>f))
   have HVE:=zh (show ∀ W,Mod No wD W->Calls prog 88 #[.agg #[.bool any,.slice pa pn pc],.agg #[.bool any,.slice pb pm pd]] W fun e w'=>e=.returned (.bool true)/\Mod No W w' from fun W hm=>HV0.out W (HMD.out.trans hm))
   have HWD:=zh hwD
   have hS0:=Mod.refl No wD
   clear hwD
   refine wp_region_T (fun w'=>Mod No wD w') 99 (by kernel_rfl) ?_
   rw [<- HWD.out]
   refine yT 0 (some 17) ?_ hS0 ?_ ?_
   rotate_left
   ·(intro w' hSw;go_simp;try with_reducible rfl)
   simp only [Act.put,yB,yC,yD]
   refine yT 1 (some 18) ?_ hS0 ?_ ?_
   rotate_left
   ·(intro w' hSw;go_simp;try with_reducible rfl)
   simp only [Act.put,yB,yC,yD]
   refine yT 2 (some 19) ?_ hS0 ?_ ?_
   rotate_left
   ·(intro w' hSw;go_simp;try with_reducible rfl)
   simp only [Act.put,yB,yC,yD]
   refine yT 3 (some 20) ?_ hS0 ?_ ?_
   rotate_left
   ·(intro w' hSw;go_simp;try with_reducible rfl)
   simp only [Act.put,yB,yC,yD]
   refine yT 4 (some 21) (.string ZN) hS0 ?_ ?_
   ·(intro w' hSw;have q0:=(HSM.out w' hSw).1;go_simp;try with_reducible rfl)
   simp only [Act.put,yB,yC,yD]
   refine yT 5 (some 22) ?_ hS0 ?_ ?_
   rotate_left
   ·(intro w' hSw;go_simp;try with_reducible rfl)
   simp only [Act.put,yB,yC,yD]
   refine yT 6 (some 23) ?_ hS0 ?_ ?_
   rotate_left
   ·(intro w' hSw;go_simp;try with_reducible rfl)
   simp only [Act.put,yB,yC,yD]
   refine yT 7 (some 24) ?_ hS0 ?_ ?_
   rotate_left
   ·(intro w' hSw;go_simp;try with_reducible rfl)
   simp only [Act.put,yB,yC,yD]
   refine yT 8 (some 25) ?_ hS0 ?_ ?_
   rotate_left
   ·(intro w' hSw;go_simp;try with_reducible rfl)
   simp only [Act.put,yB,yC,yD]
   refine yT 9 (some 26) (.string ZN) hS0 ?_ ?_
   ·(intro w' hSw;have q0:=(HSM.out w' hSw).2.1;go_simp;try with_reducible rfl)
   simp only [Act.put,yB,yC,yD]
   refine yT 10 (some 27) ?_ hS0 ?_ ?_
   rotate_left
   ·(intro w' hSw;go_simp;try with_reducible rfl)
   simp only [Act.put,yB,yC,yD]
   refine yT 11 (some 28) ?_ hS0 ?_ ?_
   rotate_left
   ·(intro w' hSw;go_simp;try with_reducible rfl)
   simp only [Act.put,yB,yC,yD]
   refine yT 12 (some 29) ?_ hS0 ?_ ?_
   rotate_left
   ·(intro w' hSw;go_simp;try with_reducible rfl)
   simp only [Act.put,yB,yC,yD]
   refine yT 13 (some 30) ?_ hS0 ?_ ?_
   rotate_left
   ·(intro w' hSw;go_simp;try with_reducible rfl)
   simp only [Act.put,yB,yC,yD]
   refine yT 14 (some 31) ?_ hS0 ?_ ?_
   rotate_left
   ·(intro w' hSw;go_simp;try with_reducible rfl)
   simp only [Act.put,yB,yC,yD]
   refine yT 15 (some 32) ?_ hS0 ?_ ?_
   rotate_left
   ·(intro w' hSw;go_simp;try with_reducible rfl)
   simp only [Act.put,yB,yC,yD]
   refine yT 16 (some 33) (.string ZT) hS0 ?_ ?_
   ·(intro w' hSw;have q0:=(HSM.out w' hSw).2.2.1;go_simp;try with_reducible rfl)
   simp only [Act.put,yB,yC,yD]
   refine yT 17 (some 34) ?_ hS0 ?_ ?_
   rotate_left
   ·(intro w' hSw;go_simp;try with_reducible rfl)
   simp only [Act.put,yB,yC,yD]
   refine yT 18 (some 35) ?_ hS0 ?_ ?_
   rotate_left
   ·(intro w' hSw;go_simp;try with_reducible rfl)
   simp only [Act.put,yB,yC,yD]
   refine yT 19 (some 36) ?_ hS0 ?_ ?_
   rotate_left
   ·(intro w' hSw;go_simp;try with_reducible rfl)
   simp only [Act.put,yB,yC,yD]
   refine yT 20 (some 37) ?_ hS0 ?_ ?_
   rotate_left
   ·(intro w' hSw;go_simp;try with_reducible rfl)
   simp only [Act.put,yB,yC,yD]
   refine yT 21 (some 38) (.string ZT) hS0 ?_ ?_
   ·(intro w' hSw;have q0:=(HSM.out w' hSw).2.2.2.1;go_simp;try with_reducible rfl)
   simp only [Act.put,yB,yC,yD]
   refine yT 22 (some 39) ?_ hS0 ?_ ?_
   rotate_left
   ·(intro w' hSw;go_simp;try with_reducible rfl)
   simp only [Act.put,yB,yC,yD]
   refine yT 23 (some 40) ?_ hS0 ?_ ?_
   rotate_left
   ·(intro w' hSw;go_simp;try with_reducible rfl)
   simp only [Act.put,yB,yC,yD]
   refine yT 24 (some 41) ?_ hS0 ?_ ?_
   rotate_left
   ·(intro w' hSw;go_simp;try with_reducible rfl)
   simp only [Act.put,yB,yC,yD]
   refine yT 25 (some 42) ?_ hS0 ?_ ?_
   rotate_left
   ·(intro w' hSw;go_simp;try with_reducible rfl)
   simp only [Act.put,yB,yC,yD]
   refine yT 26 (some 43) ?_ hS0 ?_ ?_
   rotate_left
   ·(intro w' hSw;go_simp;try with_reducible rfl)
   simp only [Act.put,yB,yC,yD]
   refine yT 27 (some 44) ?_ hS0 ?_ ?_
   rotate_left
   ·(intro w' hSw;go_simp;try with_reducible rfl)
   simp only [Act.put,yB,yC,yD]
   refine yT 28 (some 45) ?_ hS0 ?_ ?_
   rotate_left
   ·(intro w' hSw;go_simp;try with_reducible rfl)
   simp only [Act.put,yB,yC,yD]
   refine yT 29 (some 46) (.agg #[.bool any,.slice pa pn pc]) hS0 ?_ ?_
   ·(intro w' hSw;apply yloadv (run_loadVar_mid w' ab (ao+k*4+1) 79 [.bool any,.slice pa pn pc] _ (HSM.out w' hSw).2.2.2.2.1 underlying79 rfl span_info) (.tmp 45) <;> rfl)
   simp only [Act.put,yB,yC,yD]
   refine yT 30 (some 47) ?_ hS0 ?_ ?_
   rotate_left
   ·(intro w' hSw;go_simp;try with_reducible rfl)
   simp only [Act.put,yB,yC,yD]
   refine yT 31 (some 48) ?_ hS0 ?_ ?_
   rotate_left
   ·(intro w' hSw;go_simp;try with_reducible rfl)
   simp only [Act.put,yB,yC,yD]
   refine yT 32 (some 49) ?_ hS0 ?_ ?_
   rotate_left
   ·(intro w' hSw;go_simp;try with_reducible rfl)
   simp only [Act.put,yB,yC,yD]
   refine yT 33 (some 50) ?_ hS0 ?_ ?_
   rotate_left
   ·(intro w' hSw;go_simp;try with_reducible rfl)
   simp only [Act.put,yB,yC,yD]
   refine yT 34 (some 51) (.agg #[.bool any,.slice pb pm pd]) hS0 ?_ ?_
   ·(intro w' hSw;apply yloadv (run_loadVar_mid w' bb (bo+k*4+1) 79 [.bool any,.slice pb pm pd] _ (HSM.out w' hSw).2.2.2.2.2 underlying79 rfl span_info) (.tmp 50) <;> rfl)
   simp only [Act.put,yB,yC,yD]
   refine wpAnyT_oneW 35 rfl (by kernel_rfl) (by rfl) ?_
   intro K hK
   go_simp
   go_at_call 88
   with_reducible refine (HVE.out _ hS0).mono ?_
   rintro e wE ⟨rfl,hmE⟩
   have HME:=zh hmE
   clear hmE
   show K _ _
   have hS1:=HME.out
   refine hK.out _ _ (fun _=>hS1) ?_
   clear hK K
   refine yT 36 (some 53) ?_ hS1 ?_ ?_
   rotate_left
   ·(intro w' hSw;go_simp;try with_reducible rfl)
   simp only [Act.put,yB,yC,yD]
   refine yT 37 (some 54) ?_ hS1 ?_ ?_
   rotate_left
   ·(intro w' hSw;go_simp;try with_reducible rfl)
   simp only [Act.put]
   refine wpAnyT_done (by kernel_rfl) ?_ _
   clear hS0 hS1
   go_wp2_with fail
   exact ⟨⟨k+1,by omega,rfl,HMD.out.trans HME.out⟩,by show n - ((k:Int)+1).toNat < n - (k:Int).toNat;omega⟩
  ·obtain rfl:k=n:=by omega
   have hk1:¬ ((k:Int) < (k:Int)):=by omega
   go_wp2_with fail
   exact fin hR ⟨rfl,HM.out⟩
theorem range_of {w:World} {b:Nat} {cs:List Value} {t:TypeId} {fz:Nat × Nat} (h:w.heap[b]? = some (.cells cs.toArray t fz)):w.rangeAt b 0 cs:=fun j u hj=>by
 rw [Nat.zero_add]
 exact cell_of h hj
theorem key_info:(prog.info? 43).map (·.size)=some 32:=by kernel_rfl
theorem wpList_valueG {P:Program} {ops:Array Oper} {rest:List Oper} {o:Oper} {a:Act} {w w':World} {Q:Exit->Act->World->Prop} {v:Value} (hw:Region.wanted o (yielded ops a.tmps)=true) (hr:(execOp a.eval o).run P w=.ok (.value v) w') (h:wpList P ops Q rest (a.put o.dst v) w'):wpList P ops Q (o :: rest) a w :=
 wpList_step fun _ hK=>by rw [if_pos hw];exact wp_value hr (hK _ _ h)
theorem wpList_loadG {ops:Array Oper} {rest:List Oper} {o:Oper} {a:Act} {w:World} {Q:Exit->Act->World->Prop} (hw:Region.wanted o (yielded ops a.tmps)=true) (ty:TypeId) (x:Operand) (ho:o.op=.load ty x) (b i:Nat) (hx:a.eval x=.pointer (some ⟨b,i,none⟩)) (cs:List Value) (d:TypeDesc) (hc:w.rangeAt b i cs)
  (hu:prog.underlying ty=some d) (hd:d.isRow=true) (hi:(prog.info? ty).map (·.size)=some cs.length) (h:wpList prog ops Q rest (a.put o.dst (.agg cs.toArray)) w):wpList prog ops Q (o :: rest) a w :=
 wpList_valueG hw (yloadv (run_loadVar_mid w b i ty cs d hc hu hd hi) x ho hx) h
theorem wpList_keyG {ops:Array Oper} {rest:List Oper} {o:Oper} {a:Act} {w:World} {Q:Exit->Act->World->Prop} (hw:Region.wanted o (yielded ops a.tmps)=true) {S:List UInt8} (hS:S.length=32) (x y:Operand) (rt:TypeId) (ho:o.op=.binOp .eql 43 x y rt) (hx:a.eval x=keyV S) (hy:a.eval y=keyV S)
  (h:wpList prog ops Q rest (a.put o.dst (.bool true)) w):wpList prog ops Q (o :: rest) a w :=
 wpList_valueG hw (by have:=yeq (w:=w) hS hS x y rt ho hx hy;rw [decide_eq_true rfl] at this;exact this) h
set_option maxRecDepth 100000 in
set_option maxHeartbeats 16000000 in
theorem row_eq (r:Rw) (pa na pb nb:Value) (w:World) (ha:RwAt w ⟨r,pa,na⟩) (hb:RwAt w ⟨r,pb,nb⟩) :
  Calls prog 17 #[.agg (RwX.cells ⟨r,pa,na⟩).toArray,.agg (RwX.cells ⟨r,pb,nb⟩).toArray] w fun e w'=>e=.returned (.bool true)/\Mod No w w':=by
 refine calls_hide fun R hR=>?_
 have HS:=zh ha.ok.sum
 have HVV:=zh (fun W (hm:Mod No w W)=>version_eq r.v pa pb W (ha.ok.pre.kn hm) (hb.ok.pre.kn hm))
 have HNN:=zh (fun W (hm:Mod No w W)=>needs_eq r.needs na nb W (ha.nds.keep hm (Apart.no _ _)) (hb.nds.keep hm (Apart.no _ _)))
 obtain ⟨pa1,pa2,pa3,hpa⟩:∃ a m c,pa=.slice a m c:=by obtain ⟨a,c,h⟩:=ha.ok.pre.len;exact ⟨_,_,_,h⟩
 obtain ⟨pb1,pb2,pb3,hpb⟩:∃ a m c,pb=.slice a m c:=by obtain ⟨a,c,h⟩:=hb.ok.pre.len;exact ⟨_,_,_,h⟩
 obtain ⟨na1,na2,na3,hna⟩:∃ a m c,na=.slice a m c:=ha.ok.nv
 obtain ⟨nb1,nb2,nb3,hnb⟩:∃ a m c,nb=.slice a m c:=hb.ok.nv
 clear ha hb
 obtain ⟨c1,hc1⟩:∃ c,c=RwX.cells ⟨r,pa,na⟩:=⟨_,rfl⟩
 obtain ⟨c2,hc2⟩:∃ c,c=RwX.cells ⟨r,pb,nb⟩:=⟨_,rfl⟩
 have HC1:=zh hc1
 have HC2:=zh hc2
 rw [<- hc1,<- hc2]
 obtain ⟨ZN,hZN⟩:∃ Z:ByteArray,Z=⟨r.name.toArray⟩:=⟨_,rfl⟩
 have HZN:=zh hZN
 clear hc1 hc2 hZN
 go_enter func17,ntmps17
 go_upto_region 1 with fail
 have hg2:(w.alloc (.cells c1.toArray 46)).heap.size=w.heap.size+1:=by show (w.heap.push _).size=_;simp
 obtain ⟨g1,hg1⟩:∃ g,g=w.heap.size:=⟨_,rfl⟩
 have hk1:=heap_alloc_old (.cells c2.toArray 46) (heap_alloc_new w (.cells c1.toArray 46))
 have hk2:=heap_alloc_new (w.alloc (.cells c1.toArray 46)) (.cells c2.toArray 46)
 have hm2:=((Mod.refl No w).alloc (.cells c1.toArray 46)).alloc (.cells c2.toArray 46)
 rw [hg2] at hk2
 rw [<- hg1] at hk1 hk2 ⊢
 generalize World.alloc (w.alloc _) _=w2 at *
 have HM2:=zh hm2
 obtain ⟨S,hS⟩:∃ S,S=r.sum:=⟨_,rfl⟩
 have HS32:=zh (show S.length=32 by rw [hS];exact HS.out)
 have HF:=zh (show ∀ W,Mod No w2 W->W.cell? ⟨g1,0,none⟩=some (.string ZN)/\W.cell? ⟨g1+1,0,none⟩=some (.string ZN)/\W.rangeAt g1 1 (verCs r.v pa)/\W.rangeAt (g1+1) 1 (verCs r.v pb)/\W.rangeAt g1 5 (bv S)/\W.rangeAt (g1+1) 5 (bv S) ∧
   W.cell? ⟨g1,37,none⟩=some (.int .i64 r.size)/\W.cell? ⟨g1+1,37,none⟩=some (.int .i64 r.size)/\W.cell? ⟨g1,38,none⟩=some na/\W.cell? ⟨g1+1,38,none⟩=some nb from fun W hW=>by
  have a1:=range_of (hW.keep hk1 (fun f=>f))
  have a2:=range_of (hW.keep hk2 (fun f=>f))
  have b1:=a1
  have b2:=a2
  rw [HC1.out] at a1
  rw [HC2.out] at a2
  have d1:=rangeAt_part (p:=[strV r.name]) (q:=verCs r.v pa) (r:=bv r.sum++[.int .i64 r.size,na]) (by rw [List.append_assoc];exact a1)
  have d2:=rangeAt_part (p:=[strV r.name]) (q:=verCs r.v pb) (r:=bv r.sum++[.int .i64 r.size,nb]) (by rw [List.append_assoc];exact a2)
  have d3:=rangeAt_part (p:=strV r.name :: verCs r.v pa) (q:=bv r.sum) (r:=[.int .i64 r.size,na]) (by rw [List.append_assoc];exact a1)
  have d4:=rangeAt_part (p:=strV r.name :: verCs r.v pb) (q:=bv r.sum) (r:=[.int .i64 r.size,nb]) (by rw [List.append_assoc];exact a2)
  rw [hS,HZN.out]
  refine ⟨a1 0 _ rfl,a2 0 _ rfl,d1,d2,d3,d4,?_,?_,?_,?_⟩
  ·have:=a1 37 _ (row_size_get HS.out);rwa [Nat.zero_add] at this
  ·have:=a2 37 _ (row_size_get (x:=⟨r,pb,nb⟩) HS.out);rwa [Nat.zero_add] at this
  ·have:=a1 38 _ (rows_get38' HS.out);rwa [Nat.zero_add] at this
  ·have:=a2 38 _ (rows_get38' (x:=⟨r,pb,nb⟩) HS.out);rwa [Nat.zero_add] at this)
 have HV:=zh (show ∀ W,Mod No w2 W->Calls prog 53 #[.agg (verCs r.v pa).toArray,.agg (verCs r.v pb).toArray] W fun e w'=>e=.returned (.bool true)/\Mod No W w' from fun W hW=>HVV.out W (HM2.out.trans hW))
 have HN:=zh (show ∀ W,Mod No w2 W->Calls prog 54 #[na,nb] W fun e w'=>e=.returned (.bool true)/\Mod No W w' from fun W hW=>HNN.out W (HM2.out.trans hW))
 have HL4:=zh (show (verCs r.v pa).length=4/\(verCs r.v pb).length=4 from ⟨rfl,rfl⟩)
 obtain ⟨V1,hV1⟩:∃ V,V=verCs r.v pa:=⟨_,rfl⟩
 obtain ⟨V2,hV2⟩:∃ V,V=verCs r.v pb:=⟨_,rfl⟩
 rw [<- hV1,<- hV2] at HV HL4
 have HF:=zh (by have h:=HF.out;rw [<- hV1,<- hV2] at h;exact h)
 have HI4:=zh (show (prog.info? 40).map (·.size)=some V1.length/\(prog.info? 40).map (·.size)=some V2.length from ⟨by rw [HL4.out.1];exact ver_info,by rw [HL4.out.2];exact ver_info⟩)
 have HI5:=zh (show (prog.info? 43).map (·.size)=some (bv S).length by rw [bv_length,HS32.out];exact key_info)
 clear hg2 hk1 hk2 hm2 hg1 hS hV1 hV2 HVV HNN HC1 HC2 HZN HS HL4
 generalize r.size=sz at *
 obtain ⟨f1,f2,-,-,-,-,f3,f4,f5,f6⟩:=HF.out _ (Mod.refl _ w2)
 have HG:=zh (HF.out _ (Mod.refl _ w2))
 rw [hna] at f5
 rw [hnb] at f6
 go_wp2_with (first
  |(refine wpList_loadG rfl 40 _ rfl g1 1 rfl V1 _ HG.out.2.2.1 underlying40 rfl HI4.out.1 ?_)
  |(refine wpList_loadG rfl 40 _ rfl (g1+1) 1 rfl V2 _ HG.out.2.2.2.1 underlying40 rfl HI4.out.2 ?_))
 with_reducible refine (HV.out _ (Mod.refl _ w2)).mono ?_
 rintro e w3 ⟨rfl,hm3⟩
 have HM3:=zh hm3
 clear HG f1 f2 f3 f4 f5 f6 hm3
 obtain ⟨-,-,-,-,-,-,f3,f4,f5,f6⟩:=HF.out _ HM3.out
 have HG:=zh (HF.out _ HM3.out)
 rw [hna] at f5
 rw [hnb] at f6
 go_wp2_with (first
  |(refine wpList_loadG rfl 43 _ rfl g1 5 rfl (bv S) _ HG.out.2.2.2.2.1 underlying43 rfl HI5.out ?_)
  |(refine wpList_loadG rfl 43 _ rfl (g1+1) 5 rfl (bv S) _ HG.out.2.2.2.2.2.1 underlying43 rfl HI5.out ?_)
  |(refine wpList_keyG rfl HS32.out _ _ _ rfl rfl rfl ?_))
 with_reducible refine (show Calls prog 54 #[.slice na1 na2 na3,.slice nb1 nb2 nb3] w3 _ from by rw [<- hna,<- hnb];exact HN.out _ HM3.out).mono ?_
 rintro e w4 ⟨rfl,hm4⟩
 have HM4:=zh hm4
 clear HG f3 f4 f5 f6 hm4
 go_wp2_with fail
 exact fin hR ⟨rfl,(HM2.out.trans HM3.out).trans HM4.out⟩
set_option maxRecDepth 100000 in
set_option maxHeartbeats 16000000 in
theorem rows_eq (xa xb:List RwX) (hab:xa.map RwX.r=xb.map RwX.r) (va vb:Value) (w:World) (ha:∀ x ∈ xa,RwAt w x) (hb:∀ x ∈ xb,RwAt w x) (hva:Sl w No 46 va xa.length (xa.flatMap RwX.cells)) (hvb:Sl w No 46 vb xb.length (xb.flatMap RwX.cells)) :
  Calls prog 13 #[va,vb] w fun e w'=>e=.returned (.bool true)/\Mod No w w':=by
 refine calls_hide fun R hR=>?_
 have hl:=hva.lenle
 obtain ⟨aa,ac,rfl⟩:=hva.len
 obtain ⟨ba,bc,rfl⟩:=hvb.len
 have hlen:xb.length=xa.length:=by have h:=congrArg List.length hab;rw [List.length_map,List.length_map] at h;exact h.symm
 have HA:=zh ha
 have HB:=zh hb
 have HSA:=zh hva
 have HSB:=zh hvb
 have HAB:=zh hab
 have HL2:=zh hlen
 rw [hlen]
 obtain ⟨n,hn⟩:∃ n,n=xa.length:=⟨_,rfl⟩
 rw [<- hn] at hl ⊢
 have HN:=zh hn
 clear ha hb hva hvb hab hlen hn
 go_enter func13,ntmps13
 go_wp2_with fail
 go_loopw [5] (fun q wr=>∃ k:Nat,k<=n/\q=.int .i64 (k:Int)/\Mod No w wr) (fun q _=>n - (intOf q).toNat)
 case atStart=>exact ⟨0,by omega,rfl,Mod.refl _ _⟩
 case round =>
  obtain ⟨k,hk,rfl,hm⟩:=hrel
  have HM:=zh hm
  have hk0:(0:Int)<=(k:Int):=Int.natCast_nonneg _
  clear hm
  by_cases hlt:k < n
  ·have hk1:(k:Int) < (n:Int):=by omega
   have hka:k < xa.length:=by rw [<- HN.out];exact hlt
   have hkb:k < xb.length:=by rw [HL2.out];exact hka
   obtain ⟨ab,ao,c1,hvs,_⟩:=HSA.out.shape (by omega)
   have haa:aa=some ⟨ab,ao,none⟩:=by cases hvs;rfl
   subst haa
   obtain ⟨bb,bo,c2,hvs2,_⟩:=HSB.out.shape (by omega)
   have hba:ba=some ⟨bb,bo,none⟩:=by cases hvs2;rfl
   subst hba
   have h1:w.rangeAt ab (ao+k*39) (RwX.cells xa[k]):=Sl.atM (fun x hx=>RwX.cells_length x (HA.out x hx).ok.sum) HSA.out hka
   have h2:w.rangeAt bb (bo+k*39) (RwX.cells xb[k]):=Sl.atM (fun x hx=>RwX.cells_length x (HB.out x hx).ok.sum) HSB.out hkb
   have he:xa[k].r=xb[k].r:=by
    have h:(xa.map RwX.r)[k]'(by rw [List.length_map];exact hka)=(xb.map RwX.r)[k]'(by rw [List.length_map];exact hkb):=by simp only [HAB.out]
    rw [List.getElem_map,List.getElem_map] at h
    exact h
   have e1:=HA.out _ (List.getElem_mem hka)
   have e2:=HB.out _ (List.getElem_mem hkb)
   generalize xa[k]=x1 at h1 he e1
   generalize xb[k]=x2 at h2 he e2
   obtain ⟨r,pa,na⟩:=x1
   obtain ⟨r2,pb,nb⟩:=x2
   obtain rfl:r=r2:=he
   have HV0:=zh (fun W (hm:Mod No w W)=>row_eq r pa na pb nb W (e1.keep hm (Apart.no _ _)) (e2.keep hm (Apart.no _ _)))
   have HI:=zh (show (prog.info? 46).map (·.size)=some (RwX.cells ⟨r,pa,na⟩).length/\(prog.info? 46).map (·.size)=some (RwX.cells ⟨r,pb,nb⟩).length from ⟨by rw [RwX.cells_length _ e1.ok.sum];exact row_info,by rw [RwX.cells_length _ e2.ok.sum];exact row_info⟩)
   generalize RwX.cells ⟨r,pa,na⟩=C1 at *
   generalize RwX.cells ⟨r,pb,nb⟩=C2 at *
   have H1:=zh h1
   have H2:=zh h2
   clear h1 h2 e1 e2 hvs hvs2
   go_upto_region 6 with fail
   obtain ⟨wD,hwD⟩:∃ x,x=wr.drew:=⟨_,rfl⟩
   have HMD:=zh (show Mod No w wD by rw [hwD];exact HM.out.drew)
   have HSM:=zh (show ∀ w',Mod No wD w'->w'.rangeAt ab (ao+k*39) C1/\w'.rangeAt bb (bo+k*39) C2 from fun w' h =>
    ⟨(HMD.out.trans h).rangeAt H1.out (fun f=>f),(HMD.out.trans h).rangeAt H2.out (fun f=>f)⟩)
   have HVE:=zh (show ∀ W,Mod No wD W->Calls prog 17 #[.agg C1.toArray,.agg C2.toArray] W fun e w'=>e=.returned (.bool true)/\Mod No W w' from fun W hm=>HV0.out W (HMD.out.trans hm))
   have HWD:=zh hwD
   have hS0:=Mod.refl No wD
   clear hwD
   refine wp_region_T (fun w'=>Mod No wD w') 99 (by kernel_rfl) ?_
   rw [<- HWD.out]
   refine yT 0 (some 17) ?_ hS0 ?_ ?_
   rotate_left
   ·(intro w' hSw;go_simp;try with_reducible rfl)
   simp only [Act.put,yB,yC,yD]
   refine yT 1 (some 18) ?_ hS0 ?_ ?_
   rotate_left
   ·(intro w' hSw;go_simp;try with_reducible rfl)
   simp only [Act.put,yB,yC,yD]
   refine yT 2 (some 19) ?_ hS0 ?_ ?_
   rotate_left
   ·(intro w' hSw;go_simp;try with_reducible rfl)
   simp only [Act.put,yB,yC,yD]
   refine yT 3 (some 20) (.agg C1.toArray) hS0 ?_ ?_
   ·(intro w' hSw;apply yloadv (run_loadVar_mid w' ab (ao+k*39) 46 C1 _ (HSM.out w' hSw).1 underlying46 rfl HI.out.1) (.tmp 19) <;> rfl)
   simp only [Act.put,yB,yC,yD]
   refine yT 4 (some 21) ?_ hS0 ?_ ?_
   rotate_left
   ·(intro w' hSw;go_simp;try with_reducible rfl)
   simp only [Act.put,yB,yC,yD]
   refine yT 5 (some 22) ?_ hS0 ?_ ?_
   rotate_left
   ·(intro w' hSw;go_simp;try with_reducible rfl)
   simp only [Act.put,yB,yC,yD]
   refine yT 6 (some 23) ?_ hS0 ?_ ?_
   rotate_left
   ·(intro w' hSw;go_simp;try with_reducible rfl)
   simp only [Act.put,yB,yC,yD]
   refine yT 7 (some 24) (.agg C2.toArray) hS0 ?_ ?_
   ·(intro w' hSw;apply yloadv (run_loadVar_mid w' bb (bo+k*39) 46 C2 _ (HSM.out w' hSw).2 underlying46 rfl HI.out.2) (.tmp 23) <;> rfl)
   simp only [Act.put,yB,yC,yD]
   refine wpAnyT_one 8 rfl (by kernel_rfl) rfl ?_
   intro K hK
   go_simp
   go_at_call 17
   with_reducible refine (HVE.out _ hS0).mono ?_
   rintro e wE ⟨rfl,hmE⟩
   have HME:=zh hmE
   clear hmE
   show K _ _
   have hS1:=HME.out
   refine hK.out _ _ (fun _=>hS1) ?_
   clear hK K
   refine yT 9 (some 26) ?_ hS1 ?_ ?_
   rotate_left
   ·(intro w' hSw;go_simp;try with_reducible rfl)
   simp only [Act.put]
   refine wpAnyT_done (by kernel_rfl) ?_ _
   clear hS0 hS1
   go_wp2_with fail
   exact ⟨⟨k+1,by omega,rfl,HMD.out.trans HME.out⟩,by show n - ((k:Int)+1).toNat < n - (k:Int).toNat;omega⟩
  ·obtain rfl:k=n:=by omega
   have hk1:¬ ((k:Int) < (k:Int)):=by omega
   go_wp2_with fail
   exact fin hR ⟨rfl,HM.out⟩
end Go.Proofs.YtgiigemfbebcgaaGreatDoor
