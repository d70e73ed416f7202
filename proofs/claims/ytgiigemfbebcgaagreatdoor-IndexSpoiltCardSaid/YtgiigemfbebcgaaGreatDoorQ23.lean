/-
  Layers 0 to 14: helps of the laws of indexes. No statement is proved here; no condition.
-/
import Derived.Test.YtgiigemfbebcgaaGreatDoorQ22
import Derived.Test.YtgiigemfbebcgaaGreatDoorQ17
import Derived.Test.YtgiigemfbebcgaaGreatDoorQ07
import Derived.Test.YtgiigemfbebcgaaGreatDoorQ01
import Derived.Test.YtgiigemfbebcgaaGreatDoorQ12
import Derived.Test.YtgiigemfbebcgaaGreatDoorQ02
namespace Go.Proofs.YtgiigemfbebcgaaGreatDoor
open _root_.Go.Proofs.Tryz
open Go.RowKit
def NeedRes (w':World) (o:Option Nd) (e:Ending):Prop:=match o with
 | some n=>∃ oa om oc,e=.returned (.tuple #[.agg #[strV n.name,.bool n.span.any,.slice oa om oc,strV n.text],.bool true])/\OrsAt w' (.slice oa om oc) n.span.ors
 | none=>∃ s1 b oa om oc s2,e=.returned (.tuple #[.agg #[.string s1,.bool b,.slice oa om oc,.string s2],.bool false])
theorem wrap_i64 {x:Int} (h:0<=x/\x<=1000000000):IntKind.i64.wrap x=x:=by
 rw [IntKind.wrap_i64]
 omega
set_option maxRecDepth 100000 in
theorem load_need {w:World} {b:Nat} {v0 v1 v2 v3:Value} (h:w.heap[b]? = some (.cells #[v0,v1,v2,v3] 81 (0,0))) :
  (loadVar 81 ⟨b,0,none⟩).run prog w=.ok (.agg #[v0,v1,v2,v3]) w :=
 run_loadVar_row (P:=prog) w b 81 81 #[v0,v1,v2,v3] (0,0) _ h underlying81 rfl (by kernel_rfl)
theorem head_at32 {l:List UInt8} {k:Nat} (hk:k < l.length) (hno:∀ i (hi:i < l.length),i < k->l[i] ≠ 32) (hc:l[k]=32):32 ∈ l/\headC 32 l=l.take k/\tailC 32 l=l.drop (k+1):=by
 have e:l=l.take k++32 :: l.drop (k+1):=by
  conv=>lhs;rw [<- List.take_append_drop k l]
  rw [List.drop_eq_getElem_cons hk,hc]
 have hn:∀ d ∈ l.take k,d ≠ 32:=fun d hd=>by
  obtain ⟨i,hi,rfl⟩:=List.getElem_of_mem hd
  rw [List.length_take] at hi
  rw [List.getElem_take]
  exact hno _ (by omega) (by omega)
 refine ⟨by rw [e];simp,?_,?_⟩
 ·conv=>lhs;rw [e]
  exact headC_hit _ hn
 ·conv=>lhs;rw [e]
  exact tailC_hit _ hn
set_option maxRecDepth 100000 in
set_option maxHeartbeats 8000000 in
theorem refneed_any (l:List UInt8) (hl:l.length<=1000000) (w:World) :
  Calls prog 48 #[strV l] w fun e w'=>NeedRes w' (needL l) e/\Mod No w w':=by
 refine calls_hide fun R hR=>?_
 have HX:=zh (run_at l)
 have HTO:=zh (str_to l)
 have HFR:=zh (str_from l)
 have HZ:=zh (str_len3 l)
 have HSO:=zh (fun k=>refspan_any (l.drop k) (by rw [List.length_drop];omega))
 have HNA:=zh (fun k=>refname_any (l.take k) (by rw [List.length_take];omega))
 unfold strV at *
 generalize (⟨l.toArray⟩:ByteArray)=Z at *
 have hZs:(Z.size:Int)=(l.length:Int):=by rw [HZ.out]
 go_enter func48,ntmps48
 go_upto_region 1 with fail
 obtain ⟨r2,hr2⟩:∃ g,g=w.heap.size:=⟨_,rfl⟩
 rw [<- hr2]
 generalize hw1:World.alloc w _=w1
 have H21:=zh (show w1.heap[r2]? = some (.cells #[.string ⟨#[]⟩,.bool false,.slice none 0 0,.string ⟨#[]⟩] 81 (0,0)) by rw [<- hw1,hr2];exact heap_alloc_new w _)
 have HM1:=zh (show Mod No w w1 by rw [<- hw1];exact (Mod.refl No w).alloc _)
 have HR:=zh hr2
 clear hw1 hr2
 go_wp2_with fail
 go_loopw [4] (fun q wr=>∃ k:Nat,k<=l.length/\q=.int .i64 (k:Int)/\wr=w1/\∀ i (hi:i < l.length),i < k->l[i] ≠ 32) (fun q _=>l.length - (intOf q).toNat)
 case atStart=>exact ⟨0,by omega,rfl,rfl,fun i _ hi=>absurd hi (by omega)⟩
 case round =>
  obtain ⟨k,hk,rfl,rfl,hno⟩:=hrel
  have hk0:(0:Int)<=(k:Int):=Int.natCast_nonneg _
  by_cases hlt:k < l.length
  ·have hk1:(k:Int) < (Z.size:Int):=by omega
   have hidx:=HX.out k hlt
   by_cases hc:l[k]=32
   ·obtain ⟨h32,hhd,htl⟩:=head_at32 hlt hno hc
    have HND:=zh (show needL l=if nameB (l.take k)=true then (spanL (l.drop (k+1))).map (fun s=>⟨l.take k,s,l.drop (k+1)⟩) else none by
     unfold needL;rw [hhd,htl];simp [h32])
    rw [hc] at hidx
    have hto:=HTO.out k
    have hfr:=HFR.out (k+1)
    have HSP:=zh (HSO.out (k+1))
    have HNM:=zh (HNA.out k)
    generalize hH:l.take k=hd at *
    generalize hT:l.drop (k+1)=tl at *
    have HHT:=zh (And.intro hH hT)
    have hk2:(k:Int)<=(Z.size:Int):=by omega
    have hk3:(k:Int)+1<=(Z.size:Int):=by omega
    clear hno hc h32 hhd htl HSO HNA HX HTO HFR hH hT hlt
    have HDT:=zh (show ∀ H T:ByteArray,H=⟨hd.toArray⟩->T=⟨tl.toArray⟩->True from fun _ _ _ _=>trivial)
    clear HDT
    generalize hHe:(⟨hd.toArray⟩:ByteArray)=H at *
    generalize hTe:(⟨tl.toArray⟩:ByteArray)=T at *
    have HHE:=zh (And.intro hHe hTe)
    clear hHe hTe
    go_wp2_with fail
    with_reducible refine (HSP.out _).mono ?_
    rintro e w2 ⟨hv,hm2⟩
    have HM2:=zh (HM1.out.trans hm2)
    have H22:=zh (hm2.keep H21.out (fun f=>f))
    clear hm2 HM1 H21 HSP
    rcases hv with ⟨hn,rfl⟩ | ⟨⟨an,os⟩,ov,hsp,rfl,hor⟩
    ·have HFAIL:=zh (show ∀ (w':World) (nb:Bool),NeedRes w' (needL l) (.returned (.tuple #[.agg #[.string H,.bool false,.slice none 0 0,.string T],.bool false])) from fun w' _=>by
      rw [HND.out,hn]
      simp only [Option.map_none,ite_self]
      exact ⟨_,_,_,_,_,_,rfl⟩)
     have HO2:=zh (show OrsAt w2 (.slice none 0 0) [] from ⟨[],rfl,(fun x hx=>by cases hx),.inl ⟨rfl,rfl,rfl⟩⟩)
     have hk4:(k:Int)+1<=(l.length:Int):=by omega
     have hk5:(0:Int)<=(k:Int)+1:=by omega
     have hk6:(k:Int)<=(l.length:Int):=by omega
     have hwk:IntKind.i64.wrap ((k:Int)+1)=(k:Int)+1:=wrap_i64 (by omega)
     go_upto_region 6 with fail
     obtain ⟨gv,hgv⟩:∃ g,g=w2.heap.size:=⟨_,rfl⟩
     rw [<- hgv]
     obtain ⟨wA,hwA⟩:∃ z,z=(w2.alloc (.cells #[.bool false,.slice none 0 0] 79)).drew:=⟨_,rfl⟩
     have hm2A:Mod No w2 wA:=by rw [hwA];exact ((Mod.refl No w2).alloc _).drew
     have HMA:=zh (HM2.out.trans hm2A)
     have HR2:=zh (hm2A.keep H22.out (fun f=>f))
     have HOA:=zh (OrsAt.keep HO2.out hm2A (Apart.no _ _))
     have hV:wA.heap[gv]? = some (.cells #[.bool false,.slice none 0 0] 79 (0,0)):=by rw [hwA,hgv];exact heap_alloc_new w2 _
     have hne:r2 < gv:=by rw [hgv];exact lt_of_heap H22.out
     have HSM:=zh (show ∀ w',Mod (fun p=>p=r2) wA w'->w'.cell? ⟨gv,0,none⟩=some (.bool false)/\w'.cell? ⟨gv,1,none⟩=some (.slice none 0 0) from fun w' hm =>
      ⟨cell_ofA (hm.keep hV (fun e=>by omega)) rfl,cell_ofA (hm.keep hV (fun e=>by omega)) rfl⟩)
     have hS0:=HSM.out wA (Mod.refl _ _)
     have HWA:=zh hwA
     clear hwA hm2A hgv hV HO2 HM2 H22
     refine wp_region_T (fun w'=>w'.cell? ⟨gv,0,none⟩=some (.bool false)/\w'.cell? ⟨gv,1,none⟩=some (.slice none 0 0)) 99 (by kernel_rfl) ?_
     rw [<- HWA.out]
     clear HWA
     refine yT 0 (some 25) ?_ hS0 ?_ ?_
     rotate_left
     ·(intro w' hSw;obtain ⟨q0,q1⟩:=hSw;go_simp;try with_reducible rfl)
     simp only [Act.put,yB,yC,yD]
     refine yT 1 (some 26) ?_ hS0 ?_ ?_
     rotate_left
     ·(intro w' hSw;obtain ⟨q0,q1⟩:=hSw;go_simp;try with_reducible rfl)
     simp only [Act.put,yB,yC,yD]
     refine yT 2 (some 27) ?_ hS0 ?_ ?_
     rotate_left
     ·(intro w' hSw;obtain ⟨q0,q1⟩:=hSw;go_simp;try with_reducible rfl)
     simp only [Act.put,yB,yC,yD]
     refine yT 3 (some 28) ?_ hS0 ?_ ?_
     rotate_left
     ·(intro w' hSw;obtain ⟨q0,q1⟩:=hSw;go_simp;try with_reducible rfl)
     simp only [Act.put,yB,yC,yD]
     refine yT 4 (some 29) ?_ hS0 ?_ ?_
     rotate_left
     ·(intro w' hSw;obtain ⟨q0,q1⟩:=hSw;go_simp;try with_reducible rfl)
     simp only [Act.put,yB,yC,yD]
     refine yT 5 (some 30) ?_ hS0 ?_ ?_
     rotate_left
     ·(intro w' hSw;obtain ⟨q0,q1⟩:=hSw;go_simp;try with_reducible rfl)
     simp only [Act.put,yB,yC,yD]
     refine yT 6 (some 31) ?_ hS0 ?_ ?_
     rotate_left
     ·(intro w' hSw;obtain ⟨q0,q1⟩:=hSw;go_simp;try with_reducible rfl)
     simp only [Act.put,yB,yC,yD]
     refine yT 7 (some 32) ?_ hS0 ?_ ?_
     rotate_left
     ·(intro w' hSw;obtain ⟨q0,q1⟩:=hSw;go_simp;try with_reducible rfl)
     simp only [Act.put,yB,yC,yD]
     refine yT 8 (some 33) ?_ hS0 ?_ ?_
     rotate_left
     ·(intro w' hSw;obtain ⟨q0,q1⟩:=hSw;go_simp;try with_reducible rfl)
     simp only [Act.put,yB,yC,yD]
     refine yT 9 (some 34) ?_ hS0 ?_ ?_
     rotate_left
     ·(intro w' hSw;obtain ⟨q0,q1⟩:=hSw;go_simp;try with_reducible rfl)
     simp only [Act.put,yB,yC,yD]
     refine yT 10 (some 35) ?_ hS0 ?_ ?_
     rotate_left
     ·(intro w' hSw;obtain ⟨q0,q1⟩:=hSw;go_simp;try with_reducible rfl)
     simp only [Act.put,yB,yC,yD]
     refine yT 11 (some 36) ?_ hS0 ?_ ?_
     rotate_left
     ·(intro w' hSw;obtain ⟨q0,q1⟩:=hSw;go_simp;try with_reducible rfl)
     simp only [Act.put,yB,yC,yD]
     refine wpAnyT_takeV 12 (some 37) undef rfl rfl (by kernel_rfl) (fun _ _ _ h=>h) hS0 (Or.inr ⟨by rfl,rfl⟩) ?_
     simp only [Act.put,yB,yC,yD]
     refine wpAnyT_takeV 13 (some 38) undef rfl rfl (by kernel_rfl) (fun _ _ _ h=>h) hS0 (Or.inr ⟨by rfl,rfl⟩) ?_
     simp only [Act.put,yB,yC,yD]
     refine wpAnyT_takeV 14 (some 39) undef rfl rfl (by kernel_rfl) (fun _ _ _ h=>h) hS0 (Or.inr ⟨by rfl,rfl⟩) ?_
     simp only [Act.put,yB,yC,yD]
     refine wpAnyT_takeV 15 (some 40) undef rfl rfl (by kernel_rfl) (fun _ _ _ h=>h) hS0 (Or.inr ⟨by rfl,rfl⟩) ?_
     simp only [Act.put,yB,yC,yD]
     refine yT 16 (some 41) ?_ hS0 ?_ ?_
     rotate_left
     ·(intro w' hSw;obtain ⟨q0,q1⟩:=hSw;go_simp;try with_reducible rfl)
     simp only [Act.put,yB,yC,yD]
     refine wpAnyT_one 17 rfl (by kernel_rfl) rfl ?_
     intro K hK
     obtain ⟨⟨c0,c1,c2,c3⟩,f0,f1,f2,f3⟩:=cells4 HR2.out
     go_simp
     show K _ _
     have hS1:=HSM.out _ (Mod.set4 (S:=fun p=>p=r2) (b:=r2) (Mod.refl _ wA) (fun _=>rfl) (.string H) (.bool false) (.slice none 0 0) (.string T))
     refine hK.out _ _ (fun _=>hS1) ?_
     clear hK K
     refine yT 18 (some 3) ?_ hS1 ?_ ?_
     rotate_left
     ·(intro w' hSw;obtain ⟨q0,q1⟩:=hSw;go_simp;try with_reducible rfl)
     simp only [Act.put]
     refine wpAnyT_done (by kernel_rfl) ?_ _
     go_wp2_with fail
     have k2:=set4 HR2.out (.string H) (.bool false) (.slice none 0 0) (.string T)
     have hl:=load_need k2
     have HMz:=zh (HMA.out.set4 (b:=r2) (fun h=>by have:=HR.out;omega) (.string H) (.bool false) (.slice none 0 0) (.string T))
     exact bodyPost_ret (v:=.tuple #[.agg #[.string H,.bool false,.slice none 0 0,.string T],.bool false]) (by simp [results,results48,asAddr,hl]) rfl (fin hR ⟨HFAIL.out _ true,HMz.out⟩)
    ·obtain ⟨xs,hx1,hx2,hx3⟩:=hor
     obtain ⟨oa,oc,rfl⟩:=hx3.len
     dsimp only at *
     have HO2:=zh (show OrsAt w2 (.slice oa os.length oc) os from ⟨xs,hx1,hx2,hx3⟩)
     have HFIN:=zh (show ∀ w',OrsAt w' (.slice oa os.length oc) os->NeedRes w' (needL l) (.returned (.tuple #[.agg #[.string H,.bool an,.slice oa os.length oc,.string T],.bool (nameB hd)])) from fun w' ho=>by
      rw [HND.out,hsp]
      rcases nameB hd with _ | _
      ·exact ⟨_,_,_,_,_,_,rfl⟩
      ·refine ⟨oa,os.length,oc,?_,ho⟩
       rw [<- HHE.out.1,<- HHE.out.2])
     obtain ⟨om,hom⟩:∃ om,om=os.length:=⟨_,rfl⟩
     rw [<- hom] at HO2 HFIN ⊢
     clear hx1 hx2 hx3 hsp HND hom
     generalize nameB hd=nb at *
     have hk4:(k:Int)+1<=(l.length:Int):=by omega
     have hk5:(0:Int)<=(k:Int)+1:=by omega
     have hk6:(k:Int)<=(l.length:Int):=by omega
     have hwk:IntKind.i64.wrap ((k:Int)+1)=(k:Int)+1:=wrap_i64 (by omega)
     go_upto_region 6 with fail
     obtain ⟨gv,hgv⟩:∃ g,g=w2.heap.size:=⟨_,rfl⟩
     rw [<- hgv]
     obtain ⟨wA,hwA⟩:∃ z,z=(w2.alloc (.cells #[.bool an,.slice oa om oc] 79)).drew:=⟨_,rfl⟩
     have hm2A:Mod No w2 wA:=by rw [hwA];exact ((Mod.refl No w2).alloc _).drew
     have HMA:=zh (HM2.out.trans hm2A)
     have HR2:=zh (hm2A.keep H22.out (fun f=>f))
     have HOA:=zh (OrsAt.keep HO2.out hm2A (Apart.no _ _))
     have hV:wA.heap[gv]? = some (.cells #[.bool an,.slice oa om oc] 79 (0,0)):=by rw [hwA,hgv];exact heap_alloc_new w2 _
     have hne:r2 < gv:=by rw [hgv];exact lt_of_heap H22.out
     have HSM:=zh (show ∀ w',Mod (fun p=>p=r2) wA w'->w'.cell? ⟨gv,0,none⟩=some (.bool an)/\w'.cell? ⟨gv,1,none⟩=some (.slice oa om oc) from fun w' hm =>
      ⟨cell_ofA (hm.keep hV (fun e=>by omega)) rfl,cell_ofA (hm.keep hV (fun e=>by omega)) rfl⟩)
     have hS0:=HSM.out wA (Mod.refl _ _)
     have HWA:=zh hwA
     clear hwA hm2A hgv hV HO2 HM2 H22
     refine wp_region_T (fun w'=>w'.cell? ⟨gv,0,none⟩=some (.bool an)/\w'.cell? ⟨gv,1,none⟩=some (.slice oa om oc)) 99 (by kernel_rfl) ?_
     rw [<- HWA.out]
     clear HWA
     refine yT 0 (some 25) ?_ hS0 ?_ ?_
     rotate_left
     ·(intro w' hSw;obtain ⟨q0,q1⟩:=hSw;go_simp;try with_reducible rfl)
     simp only [Act.put,yB,yC,yD]
     refine yT 1 (some 26) ?_ hS0 ?_ ?_
     rotate_left
     ·(intro w' hSw;obtain ⟨q0,q1⟩:=hSw;go_simp;try with_reducible rfl)
     simp only [Act.put,yB,yC,yD]
     refine yT 2 (some 27) ?_ hS0 ?_ ?_
     rotate_left
     ·(intro w' hSw;obtain ⟨q0,q1⟩:=hSw;go_simp;try with_reducible rfl)
     simp only [Act.put,yB,yC,yD]
     refine yT 3 (some 28) ?_ hS0 ?_ ?_
     rotate_left
     ·(intro w' hSw;obtain ⟨q0,q1⟩:=hSw;go_simp;try with_reducible rfl)
     simp only [Act.put,yB,yC,yD]
     refine yT 4 (some 29) ?_ hS0 ?_ ?_
     rotate_left
     ·(intro w' hSw;obtain ⟨q0,q1⟩:=hSw;go_simp;try with_reducible rfl)
     simp only [Act.put,yB,yC,yD]
     refine yT 5 (some 30) ?_ hS0 ?_ ?_
     rotate_left
     ·(intro w' hSw;obtain ⟨q0,q1⟩:=hSw;go_simp;try with_reducible rfl)
     simp only [Act.put,yB,yC,yD]
     refine yT 6 (some 31) ?_ hS0 ?_ ?_
     rotate_left
     ·(intro w' hSw;obtain ⟨q0,q1⟩:=hSw;go_simp;try with_reducible rfl)
     simp only [Act.put,yB,yC,yD]
     refine yT 7 (some 32) ?_ hS0 ?_ ?_
     rotate_left
     ·(intro w' hSw;obtain ⟨q0,q1⟩:=hSw;go_simp;try with_reducible rfl)
     simp only [Act.put,yB,yC,yD]
     refine yT 8 (some 33) ?_ hS0 ?_ ?_
     rotate_left
     ·(intro w' hSw;obtain ⟨q0,q1⟩:=hSw;go_simp;try with_reducible rfl)
     simp only [Act.put,yB,yC,yD]
     refine yT 9 (some 34) ?_ hS0 ?_ ?_
     rotate_left
     ·(intro w' hSw;obtain ⟨q0,q1⟩:=hSw;go_simp;try with_reducible rfl)
     simp only [Act.put,yB,yC,yD]
     refine yT 10 (some 35) ?_ hS0 ?_ ?_
     rotate_left
     ·(intro w' hSw;obtain ⟨q0,q1⟩:=hSw;go_simp;try with_reducible rfl)
     simp only [Act.put,yB,yC,yD]
     refine yT 11 (some 36) ?_ hS0 ?_ ?_
     rotate_left
     ·(intro w' hSw;obtain ⟨q0,q1⟩:=hSw;go_simp;try with_reducible rfl)
     simp only [Act.put,yB,yC,yD]
     refine yT 12 (some 37) ?_ hS0 ?_ ?_
     rotate_left
     ·(intro w' hSw;obtain ⟨q0,q1⟩:=hSw;go_simp;try with_reducible rfl)
     simp only [Act.put,yB,yC,yD]
     refine yT 13 (some 38) ?_ hS0 ?_ ?_
     rotate_left
     ·(intro w' hSw;obtain ⟨q0,q1⟩:=hSw;go_simp;try with_reducible rfl)
     simp only [Act.put,yB,yC,yD]
     refine yT 14 (some 39) ?_ hS0 ?_ ?_
     rotate_left
     ·(intro w' hSw;obtain ⟨q0,q1⟩:=hSw;go_simp;try with_reducible rfl)
     simp only [Act.put,yB,yC,yD]
     refine wpAnyT_oneW 15 rfl (by kernel_rfl) (by rfl) ?_
     intro K hK
     go_simp
     go_at_call 45
     with_reducible refine (HNM.out _).mono ?_
     rintro e wB ⟨rfl,hB⟩
     rw [hB]
     clear hB wB
     show K _ _
     have hS1:=hS0
     refine hK.out _ _ (fun _=>hS1) ?_
     clear hK K
     refine yT 16 (some 41) ?_ hS1 ?_ ?_
     rotate_left
     ·(intro w' hSw;obtain ⟨q0,q1⟩:=hSw;go_simp;try with_reducible rfl)
     simp only [Act.put,yB,yC,yD]
     refine wpAnyT_one 17 rfl (by kernel_rfl) rfl ?_
     intro K hK
     obtain ⟨⟨c0,c1,c2,c3⟩,f0,f1,f2,f3⟩:=cells4 HR2.out
     go_simp
     show K _ _
     have hS2:=HSM.out _ (Mod.set4 (S:=fun p=>p=r2) (b:=r2) (Mod.refl _ wA) (fun _=>rfl) (.string H) (.bool an) (.slice oa om oc) (.string T))
     refine hK.out _ _ (fun _=>hS2) ?_
     clear hK K
     refine yT 18 (some 3) ?_ hS2 ?_ ?_
     rotate_left
     ·(intro w' hSw;obtain ⟨q0,q1⟩:=hSw;go_simp;try with_reducible rfl)
     simp only [Act.put]
     refine wpAnyT_done (by kernel_rfl) ?_ _
     go_wp2_with fail
     have k2:=set4 HR2.out (.string H) (.bool an) (.slice oa om oc) (.string T)
     have hl:=load_need k2
     have HMz:=zh (HMA.out.set4 (b:=r2) (fun h=>by have:=HR.out;omega) (.string H) (.bool an) (.slice oa om oc) (.string T))
     have HOz:=zh (OrsAt.keep HOA.out (Mod.set4 (S:=fun p=>p=r2) (b:=r2) (Mod.refl _ wA) (fun _=>rfl) (.string H) (.bool an) (.slice oa om oc) (.string T)) (fun q cur fz e hq hc hm=>by
      have e2:q=r2:=hq
      subst e2
      rw [HR2.out] at hc;cases hc;simp at hm))
     exact bodyPost_ret (v:=.tuple #[.agg #[.string H,.bool an,.slice oa om oc,.string T],.bool nb]) (by simp [results,results48,asAddr,hl]) rfl (fin hR ⟨HFIN.out _ HOz.out,HMz.out⟩)
   ·have hne:((l[k].toNat:Int) == 32)=false:=by
     have:l[k].toNat ≠ 32:=fun e=>hc (by rw [<- UInt8.toNat_inj];exact e)
     simp;omega
    have HN:=zh (show ∀ i (hi:i < l.length),i < k+1->l[i] ≠ 32 from fun i hi hik=>by
     rcases Nat.lt_or_ge i k with h3 | h3
     ·exact hno i hi h3
     ·obtain rfl:i=k:=by omega
      exact hc)
    clear hno hc
    generalize l[k].toNat=z at *
    go_wp2_with fail
    exact ⟨⟨k+1,by omega,rfl,trivial,HN.out⟩,by show l.length - ((k:Int)+1).toNat < l.length - (k:Int).toNat;omega⟩
  ·have HND:=zh (show needL l=none by
    unfold needL
    rw [if_neg]
    rintro ⟨h,-⟩
    obtain ⟨i,hi,e⟩:=List.getElem_of_mem h
    exact hno i hi (by omega) e)
   clear hno
   obtain ⟨⟨c0,c1,c2,c3⟩,f0,f1,f2,f3⟩:=cells4 H21.out
   go_wp2_with fail
   have k2:=set4 H21.out (.string ⟨#[]⟩) (.bool false) (.slice none 0 0) (.string ⟨#[]⟩)
   have hl:=load_need k2
   have HMz:=zh (HM1.out.set4 (b:=r2) (fun h=>by have:=HR.out;omega) (.string ⟨#[]⟩) (.bool false) (.slice none 0 0) (.string ⟨#[]⟩))
   exact bodyPost_ret (v:=.tuple #[.agg #[.string ⟨#[]⟩,.bool false,.slice none 0 0,.string ⟨#[]⟩],.bool false]) (by simp [results,results48,asAddr,hl]) rfl (fin hR ⟨by rw [HND.out];exact ⟨_,_,_,_,_,_,rfl⟩,HMz.out⟩)
structure N3 (w0 w:World) (gx gy gz:Nat) (x0 x1 x2:Value):Prop where
 hx:w.heap[gx]? = some (.cells #[x0,x1,x2,.slice none 0 0] 40 (0,0))
 hy:w.heap[gy]? = some (.cells #[.int .i64 0,.int .i64 0,.int .i64 0,.slice none 0 0] 40 (0,0))
 hz:w.heap[gz]? = some (.cells #[.pointer (some ⟨gx,0,none⟩),.pointer (some ⟨gx,1,none⟩),.pointer (some ⟨gx,2,none⟩)] 200 (0,0))
 hm:Mod No w0 w
 lt:w0.heap.size<=gx/\gx < gy/\gy < gz
theorem N3.set {w0 w:World} {gx gy gz:Nat} {x0 x1 x2:Value} (h:N3 w0 w gx gy gz x0 x1 x2) (i:Nat) (v:Value) {y0 y1 y2:Value} (hs:(#[x0,x1,x2,.slice none 0 0]:Array Value).setIfInBounds i v=#[y0,y1,y2,.slice none 0 0]):N3 w0 (w.setCell ⟨gx,i,none⟩ v) gx gy gz y0 y1 y2:=by
 obtain ⟨h1,h2,h3⟩:=h.lt
 refine ⟨?_,?_,?_,h.hm.setCell (fun h=>by dsimp only at h;omega) _,h.lt⟩
 ·rw [heap_setCell h.hx,hs]
 ·rw [heap_setCell_ne _ (by dsimp only;omega)];exact h.hy
 ·rw [heap_setCell_ne _ (by dsimp only;omega)];exact h.hz
theorem N3.cells {w0 w:World} {gx gy gz:Nat} {x0 x1 x2:Value} (h:N3 w0 w gx gy gz x0 x1 x2) :
  (w.cell? ⟨gx,0,none⟩=some x0/\w.cell? ⟨gx,1,none⟩=some x1/\w.cell? ⟨gx,2,none⟩=some x2/\w.cell? ⟨gx,3,none⟩=some (.slice none 0 0)) ∧
  (w.frozen? ⟨gx,0,none⟩=false/\w.frozen? ⟨gx,1,none⟩=false/\w.frozen? ⟨gx,2,none⟩=false) ∧
  (w.cell? ⟨gz,0,none⟩=some (.pointer (some ⟨gx,0,none⟩))/\w.cell? ⟨gz,1,none⟩=some (.pointer (some ⟨gx,1,none⟩))/\w.cell? ⟨gz,2,none⟩=some (.pointer (some ⟨gx,2,none⟩))) :=
 ⟨⟨cell_ofA h.hx rfl,cell_ofA h.hx rfl,cell_ofA h.hx rfl,cell_ofA h.hx rfl⟩,⟨frozen_of _ h.hx,frozen_of _ h.hx,frozen_of _ h.hx⟩,cell_ofA h.hz rfl,cell_ofA h.hz rfl,cell_ofA h.hz rfl⟩
set_option maxRecDepth 100000 in
set_option maxHeartbeats 8000000 in
theorem next_any (v:Ver) (pv:Value) (p:Nat) (hp:p < 3) (hv:VerOk v) (w:World) :
  Calls prog 185 #[verV v pv,.int .i64 (p:Int)] w fun e w'=>e=.returned (verV (nextV v p) (.slice none 0 0))/\Mod No w w':=by
 refine calls_hide fun R hR=>?_
 obtain ⟨a,b,c,pre⟩:=v
 obtain ⟨⟨ha0,ha1⟩,⟨hb0,hb1⟩,⟨hc0,hc1⟩⟩:=hv
 dsimp only at ha0 ha1 hb0 hb1 hc0 hc1
 have hwa:=wrap_small (x:=a+1) (by omega)
 have hwb:=wrap_small (x:=b+1) (by omega)
 have hwc:=wrap_small (x:=c+1) (by omega)
 have HNX:=zh (show nextV ⟨a,b,c,pre⟩ p=if p=0 then (if a < 999999999 then ⟨a+1,0,0,[]⟩ else ⟨a,b,c,[]⟩) else if p=1 then (if b < 999999999 then ⟨a,b+1,0,[]⟩ else ⟨a,b,c,[]⟩) else (if c < 999999999 then ⟨a,b,c+1,[]⟩ else ⟨a,b,c,[]⟩) from rfl)
 unfold verV at *
 dsimp only at *
 go_enter func185,ntmps185
 go_upto_region 1 with fail
 obtain ⟨gx,hgx⟩:∃ g,g=w.heap.size:=⟨_,rfl⟩
 obtain ⟨gy,hgy⟩:∃ g,g=gx+1:=⟨_,rfl⟩
 rw [<- hgx,<- hgy]
 obtain ⟨wA,hwA⟩:∃ z,z=(w.alloc (.cells #[.int .i64 a,.int .i64 b,.int .i64 c,pv] 40)).alloc (.cells #[.int .i64 0,.int .i64 0,.int .i64 0,.slice none 0 0] 40):=⟨_,rfl⟩
 have hx1:wA.heap[gx]? = some (.cells #[.int .i64 a,.int .i64 b,.int .i64 c,pv] 40 (0,0)):=by rw [hwA,hgx];exact heap_alloc_old _ (heap_alloc_new w _)
 have hy1:wA.heap[gy]? = some (.cells #[.int .i64 0,.int .i64 0,.int .i64 0,.slice none 0 0] 40 (0,0)):=by
  rw [hwA,hgy,hgx]
  have h1:=heap_alloc_new (w.alloc (.cells #[.int .i64 a,.int .i64 b,.int .i64 c,pv] 40)) (.cells #[.int .i64 0,.int .i64 0,.int .i64 0,.slice none 0 0] 40)
  rw [show (w.alloc (.cells #[.int .i64 a,.int .i64 b,.int .i64 c,pv] 40)).heap.size=w.heap.size+1 by simp] at h1
  exact h1
 have HMA:=zh (show Mod No w wA by rw [hwA];exact ((Mod.refl No w).alloc _).alloc _)
 have HGX:=zh (show w.heap.size<=gx by omega)
 have HGY:=zh (show gx < gy by omega)
 rw [<- hwA]
 have HX1:=zh hx1
 have HY1:=zh hy1
 obtain ⟨⟨a0,a1,a2,a3⟩,f0,f1,f2,f3⟩:=cells4 hx1
 clear hwA hgx hgy hx1 hy1
 go_upto_region 2 with fail
 clear a0 a1 a2 a3 f0 f1 f2 f3
 have HX2:=zh (show (wA.setCell ⟨gx,3,none⟩ (.slice none 0 0)).heap[gx]? = some (.cells #[.int .i64 a,.int .i64 b,.int .i64 c,.slice none 0 0] 40 (0,0)) by rw [heap_setCell HX1.out];rfl)
 have HY2:=zh (show (wA.setCell ⟨gx,3,none⟩ (.slice none 0 0)).heap[gy]? = some (.cells #[.int .i64 0,.int .i64 0,.int .i64 0,.slice none 0 0] 40 (0,0)) by rw [heap_setCell_ne _ (by have:=HGY.out;dsimp only;omega)];exact HY1.out)
 have HM2:=zh (show Mod No w (wA.setCell ⟨gx,3,none⟩ (.slice none 0 0)) from HMA.out.setCell (fun h=>by have:=HGX.out;dsimp only at h;omega) _)
 generalize wA.setCell ⟨gx,3,none⟩ (.slice none 0 0)=wB at *
 clear HX1 HY1 HMA
 go_upto_region 3 with fail
 obtain ⟨gz,hgz⟩:∃ g,g=wB.heap.size:=⟨_,rfl⟩
 rw [<- hgz]
 have HN3:=zh (show N3 w (wB.alloc (.cells #[.pointer (some ⟨gx,0,none⟩),.pointer (some ⟨gx,1,none⟩),.pointer (some ⟨gx,2,none⟩)] 200)) gx gy gz (.int .i64 a) (.int .i64 b) (.int .i64 c) from
  ⟨heap_alloc_old _ HX2.out,heap_alloc_old _ HY2.out,by rw [hgz];exact heap_alloc_new wB _,HM2.out.alloc _,HGX.out,HGY.out,by rw [hgz];exact lt_of_heap HY2.out⟩)
 generalize wB.alloc _=wC at *
 clear HX2 HY2 HM2 hgz
 match p,hp with
 | 0,_ =>
  have hnx:=HNX.out
  rw [if_pos rfl] at hnx
  clear HNX
  obtain ⟨⟨c0,c1,c2,c3⟩,⟨f0,f1,f2⟩,z0,z1,z2⟩:=HN3.out.cells
  by_cases h:a < 999999999
  ·rw [if_pos h] at hnx
   have h':¬ (999999999:Int)<=a:=by omega
   have HN:=zh hnx
   clear hnx
   go_upto_region 8 with fail
   have HD3:=zh (HN3.out.set 0 (.int .i64 (a+1)) (y0:=.int .i64 (a+1)) (y1:=.int .i64 b) (y2:=.int .i64 c) rfl)
   generalize wC.setCell ⟨gx,0,none⟩ (.int .i64 (a+1))=wD at *
   clear HN3 c0 c1 c2 c3 f0 f1 f2 z0 z1 z2 h h'
   go_wp2_with fail
   go_loopw [40] (fun q wr=>(q=.int .i64 0/\N3 w wr gx gy gz (.int .i64 (a+1)) (.int .i64 b) (.int .i64 c))\/(q=.int .i64 1/\N3 w wr gx gy gz (.int .i64 (a+1)) (.int .i64 0) (.int .i64 c))\/(q=.int .i64 2/\N3 w wr gx gy gz (.int .i64 (a+1)) (.int .i64 0) (.int .i64 0))) (fun q _=>2 - (intOf q).toNat)
   case atStart=>exact .inl ⟨rfl,HD3.out⟩
   case round =>
    rcases hrel with ⟨rfl,hj⟩ | ⟨rfl,hj⟩ | ⟨rfl,hj⟩
    ·obtain ⟨⟨c0,c1,c2,c3⟩,⟨f0,f1,f2⟩,z0,z1,z2⟩:=hj.cells
     have HJ:=zh (hj.set 1 (.int .i64 0) (y0:=.int .i64 (a+1)) (y1:=.int .i64 0) (y2:=.int .i64 c) rfl)
     clear hj
     go_wp2_with fail
     exact ⟨.inr (.inl ⟨rfl,HJ.out⟩),by show 2 - ((0:Int)+1).toNat < 2 - (0:Int).toNat;decide⟩
    ·obtain ⟨⟨c0,c1,c2,c3⟩,⟨f0,f1,f2⟩,z0,z1,z2⟩:=hj.cells
     have HJ:=zh (hj.set 2 (.int .i64 0) (y0:=.int .i64 (a+1)) (y1:=.int .i64 0) (y2:=.int .i64 0) rfl)
     clear hj
     go_wp2_with fail
     exact ⟨.inr (.inr (⟨rfl,HJ.out⟩)),by show 2 - ((1:Int)+1).toNat < 2 - (1:Int).toNat;decide⟩
    ·have HE3:=zh hj
     clear hj
     obtain ⟨⟨c0,c1,c2,c3⟩,-,-⟩:=HE3.out.cells
     obtain ⟨⟨d0,d1,d2,d3⟩,g0,g1,g2,g3⟩:=cells4 HE3.out.hy
     go_wp2_with fail
     have hl:=load_ver (set4 HE3.out.hy (.int .i64 (a+1)) (.int .i64 0) (.int .i64 0) (.slice none 0 0))
     have HMz:=zh (HE3.out.hm.set4 (b:=gy) (fun h=>by have:=HE3.out.lt;omega) (.int .i64 (a+1)) (.int .i64 0) (.int .i64 0) (.slice none 0 0))
     exact bodyPost_ret (v:=.agg #[.int .i64 (a+1),.int .i64 0,.int .i64 0,.slice none 0 0]) (by simp [results,results185,asAddr,hl]) rfl (fin hR ⟨by rw [HN.out],HMz.out⟩)
  ·rw [if_neg h] at hnx
   have h':(999999999:Int)<=a:=by omega
   have HN:=zh hnx
   have HE3:=HN3
   clear hnx HN3 c0 c1 c2 c3 f0 f1 f2
   obtain ⟨⟨c0,c1,c2,c3⟩,-,-⟩:=HE3.out.cells
   obtain ⟨⟨d0,d1,d2,d3⟩,g0,g1,g2,g3⟩:=cells4 HE3.out.hy
   go_wp2_with fail
   have hl:=load_ver (set4 HE3.out.hy (.int .i64 a) (.int .i64 b) (.int .i64 c) (.slice none 0 0))
   have HMz:=zh (HE3.out.hm.set4 (b:=gy) (fun h=>by have:=HE3.out.lt;omega) (.int .i64 a) (.int .i64 b) (.int .i64 c) (.slice none 0 0))
   exact bodyPost_ret (v:=.agg #[.int .i64 a,.int .i64 b,.int .i64 c,.slice none 0 0]) (by simp [results,results185,asAddr,hl]) rfl (fin hR ⟨by rw [HN.out],HMz.out⟩)
 | 1,_ =>
  have hnx:=HNX.out
  rw [if_neg (by decide),if_pos rfl] at hnx
  clear HNX
  obtain ⟨⟨c0,c1,c2,c3⟩,⟨f0,f1,f2⟩,z0,z1,z2⟩:=HN3.out.cells
  by_cases h:b < 999999999
  ·rw [if_pos h] at hnx
   have h':¬ (999999999:Int)<=b:=by omega
   have HN:=zh hnx
   clear hnx
   go_upto_region 8 with fail
   have HD3:=zh (HN3.out.set 1 (.int .i64 (b+1)) (y0:=.int .i64 a) (y1:=.int .i64 (b+1)) (y2:=.int .i64 c) rfl)
   generalize wC.setCell ⟨gx,1,none⟩ (.int .i64 (b+1))=wD at *
   clear HN3 c0 c1 c2 c3 f0 f1 f2 z0 z1 z2 h h'
   go_wp2_with fail
   go_loopw [40] (fun q wr=>(q=.int .i64 0/\N3 w wr gx gy gz (.int .i64 a) (.int .i64 (b+1)) (.int .i64 c))\/(q=.int .i64 1/\N3 w wr gx gy gz (.int .i64 a) (.int .i64 (b+1)) (.int .i64 0))) (fun q _=>1 - (intOf q).toNat)
   case atStart=>exact .inl ⟨rfl,HD3.out⟩
   case round =>
    rcases hrel with ⟨rfl,hj⟩ | ⟨rfl,hj⟩
    ·obtain ⟨⟨c0,c1,c2,c3⟩,⟨f0,f1,f2⟩,z0,z1,z2⟩:=hj.cells
     have HJ:=zh (hj.set 2 (.int .i64 0) (y0:=.int .i64 a) (y1:=.int .i64 (b+1)) (y2:=.int .i64 0) rfl)
     clear hj
     go_wp2_with fail
     exact ⟨.inr (⟨rfl,HJ.out⟩),by show 1 - ((0:Int)+1).toNat < 1 - (0:Int).toNat;decide⟩
    ·have HE3:=zh hj
     clear hj
     obtain ⟨⟨c0,c1,c2,c3⟩,-,-⟩:=HE3.out.cells
     obtain ⟨⟨d0,d1,d2,d3⟩,g0,g1,g2,g3⟩:=cells4 HE3.out.hy
     go_wp2_with fail
     have hl:=load_ver (set4 HE3.out.hy (.int .i64 a) (.int .i64 (b+1)) (.int .i64 0) (.slice none 0 0))
     have HMz:=zh (HE3.out.hm.set4 (b:=gy) (fun h=>by have:=HE3.out.lt;omega) (.int .i64 a) (.int .i64 (b+1)) (.int .i64 0) (.slice none 0 0))
     exact bodyPost_ret (v:=.agg #[.int .i64 a,.int .i64 (b+1),.int .i64 0,.slice none 0 0]) (by simp [results,results185,asAddr,hl]) rfl (fin hR ⟨by rw [HN.out],HMz.out⟩)
  ·rw [if_neg h] at hnx
   have h':(999999999:Int)<=b:=by omega
   have HN:=zh hnx
   have HE3:=HN3
   clear hnx HN3 c0 c1 c2 c3 f0 f1 f2
   obtain ⟨⟨c0,c1,c2,c3⟩,-,-⟩:=HE3.out.cells
   obtain ⟨⟨d0,d1,d2,d3⟩,g0,g1,g2,g3⟩:=cells4 HE3.out.hy
   go_wp2_with fail
   have hl:=load_ver (set4 HE3.out.hy (.int .i64 a) (.int .i64 b) (.int .i64 c) (.slice none 0 0))
   have HMz:=zh (HE3.out.hm.set4 (b:=gy) (fun h=>by have:=HE3.out.lt;omega) (.int .i64 a) (.int .i64 b) (.int .i64 c) (.slice none 0 0))
   exact bodyPost_ret (v:=.agg #[.int .i64 a,.int .i64 b,.int .i64 c,.slice none 0 0]) (by simp [results,results185,asAddr,hl]) rfl (fin hR ⟨by rw [HN.out],HMz.out⟩)
 | 2,_ =>
  have hnx:=HNX.out
  rw [if_neg (by decide),if_neg (by decide)] at hnx
  clear HNX
  obtain ⟨⟨c0,c1,c2,c3⟩,⟨f0,f1,f2⟩,z0,z1,z2⟩:=HN3.out.cells
  by_cases h:c < 999999999
  ·rw [if_pos h] at hnx
   have h':¬ (999999999:Int)<=c:=by omega
   have HN:=zh hnx
   clear hnx
   go_upto_region 8 with fail
   have HD3:=zh (HN3.out.set 2 (.int .i64 (c+1)) (y0:=.int .i64 a) (y1:=.int .i64 b) (y2:=.int .i64 (c+1)) rfl)
   generalize wC.setCell ⟨gx,2,none⟩ (.int .i64 (c+1))=wD at *
   clear HN3 c0 c1 c2 c3 f0 f1 f2 z0 z1 z2 h h'
   go_wp2_with fail
   go_loopw [40] (fun q wr=>(q=.int .i64 0/\N3 w wr gx gy gz (.int .i64 a) (.int .i64 b) (.int .i64 (c+1)))) (fun q _=>0 - (intOf q).toNat)
   case atStart=>exact ⟨rfl,HD3.out⟩
   case round =>
    obtain ⟨rfl,hj⟩:=hrel
    have HE3:=zh hj
    clear hj
    obtain ⟨⟨c0,c1,c2,c3⟩,-,-⟩:=HE3.out.cells
    obtain ⟨⟨d0,d1,d2,d3⟩,g0,g1,g2,g3⟩:=cells4 HE3.out.hy
    go_wp2_with fail
    have hl:=load_ver (set4 HE3.out.hy (.int .i64 a) (.int .i64 b) (.int .i64 (c+1)) (.slice none 0 0))
    have HMz:=zh (HE3.out.hm.set4 (b:=gy) (fun h=>by have:=HE3.out.lt;omega) (.int .i64 a) (.int .i64 b) (.int .i64 (c+1)) (.slice none 0 0))
    exact bodyPost_ret (v:=.agg #[.int .i64 a,.int .i64 b,.int .i64 (c+1),.slice none 0 0]) (by simp [results,results185,asAddr,hl]) rfl (fin hR ⟨by rw [HN.out],HMz.out⟩)
  ·rw [if_neg h] at hnx
   have h':(999999999:Int)<=c:=by omega
   have HN:=zh hnx
   have HE3:=HN3
   clear hnx HN3 c0 c1 c2 c3 f0 f1 f2
   obtain ⟨⟨c0,c1,c2,c3⟩,-,-⟩:=HE3.out.cells
   obtain ⟨⟨d0,d1,d2,d3⟩,g0,g1,g2,g3⟩:=cells4 HE3.out.hy
   go_wp2_with fail
   have hl:=load_ver (set4 HE3.out.hy (.int .i64 a) (.int .i64 b) (.int .i64 c) (.slice none 0 0))
   have HMz:=zh (HE3.out.hm.set4 (b:=gy) (fun h=>by have:=HE3.out.lt;omega) (.int .i64 a) (.int .i64 b) (.int .i64 c) (.slice none 0 0))
   exact bodyPost_ret (v:=.agg #[.int .i64 a,.int .i64 b,.int .i64 c,.slice none 0 0]) (by simp [results,results185,asAddr,hl]) rfl (fin hR ⟨by rw [HN.out],HMz.out⟩)
set_option maxRecDepth 100000 in
theorem hasprefix_lite (l p:List UInt8) (w:World):Calls prog 175 #[strV l,strV p] w fun e w'=>e=.returned (.bool (decide (l.take p.length=p)))/\w'=w:=by
 refine calls_hide fun R hR=>?_
 have HEX:=zh (str_to l p.length)
 have HZ:=zh (str_len3 l)
 have HP:=zh (str_len3 p)
 have hTP:=str_list p
 have hTT:=str_list (l.take p.length)
 unfold strV at *
 generalize (⟨l.toArray⟩:ByteArray)=Z at *
 generalize (⟨p.toArray⟩:ByteArray)=Q at *
 have hZs:(Z.size:Int)=(l.length:Int):=by rw [HZ.out]
 have hQs:(Q.size:Int)=(p.length:Int):=by rw [HP.out]
 go_enter func175,ntmps175
 by_cases h:p.length<=l.length
 ·have h1:(p.length:Int)<=(l.length:Int):=by omega
  have h0:(0:Int)<=(p.length:Int):=Int.natCast_nonneg _
  have hext:=HEX.out
  go_wp2_with fail
  refine fin hR ⟨bool_ret ?_,rfl⟩
  first
   | rfl
   |(by_cases hh:l.take p.length=p
     ·rw [decide_eq_true hh,hh];simp
     ·rw [decide_eq_false hh];simpa using hh)
 ·have h1:¬ (p.length:Int)<=(l.length:Int):=by omega
  have HF:=zh (show decide (l.take p.length=p)=false from decide_eq_false fun e=>h (by
   have:=congrArg List.length e
   rw [List.length_take] at this
   omega))
  go_wp2_with fail
  refine fin hR ⟨bool_ret ?_,rfl⟩
  rw [HF.out]
set_option maxRecDepth 100000 in
theorem hasprefix_any (l p:List UInt8) (w:World):Calls prog 203 #[strV l,strV p] w fun e w'=>e=.returned (.bool (decide (l.take p.length=p)))/\w'=w:=by
 refine calls_hide fun R hR=>?_
 have HL:=zh (hasprefix_lite l p)
 unfold strV at *
 generalize (⟨l.toArray⟩:ByteArray)=Z at *
 generalize (⟨p.toArray⟩:ByteArray)=Q at *
 go_enter func203,ntmps203
 go_wp2_with fail
 with_reducible refine (HL.out _).mono ?_
 rintro e w1 ⟨rfl,rfl⟩
 go_wp2_with fail
 exact fin hR ⟨rfl,rfl⟩
def signs:List (List UInt8):=[[60,61],[62,61],[60],[62],[61],[94],[126]]
theorem sign_hit {l:List UInt8}:∀ k:Fin 7,(∀ i:Fin 7,i.1 < k.1->l.take (signs.getD i.1 []).length ≠ signs.getD i.1 [])->l.take (signs.getD k.1 []).length=signs.getD k.1 []->signL l=signs.getD k.1 []:=by
 intro k h1 h2
 have g:=fun (i:Nat) (hi:i < 7)=>h1 ⟨i,hi⟩
 obtain ⟨k,hk⟩:=k
 unfold signL
 match k,hk with
 | 0,_=>rw [if_pos (.inl h2)];exact h2
 | 1,_=>rw [if_pos (.inr h2)];exact h2
 | 2,_ =>
  rw [if_neg (by rintro (h | h);exact g 0 (by omega) (Nat.le_of_ble_eq_true rfl) h;exact g 1 (by omega) (Nat.le_of_ble_eq_true rfl) h),if_pos (.inl h2)];exact h2
 | 3,_ =>
  rw [if_neg (by rintro (h | h);exact g 0 (by omega) (Nat.le_of_ble_eq_true rfl) h;exact g 1 (by omega) (Nat.le_of_ble_eq_true rfl) h),if_pos (.inr (.inl h2))];exact h2
 | 4,_ =>
  rw [if_neg (by rintro (h | h);exact g 0 (by omega) (Nat.le_of_ble_eq_true rfl) h;exact g 1 (by omega) (Nat.le_of_ble_eq_true rfl) h),if_pos (.inr (.inr (.inl h2)))];exact h2
 | 5,_ =>
  rw [if_neg (by rintro (h | h);exact g 0 (by omega) (Nat.le_of_ble_eq_true rfl) h;exact g 1 (by omega) (Nat.le_of_ble_eq_true rfl) h),if_pos (.inr (.inr (.inr (.inl h2))))];exact h2
 | 6,_ =>
  rw [if_neg (by rintro (h | h);exact g 0 (by omega) (Nat.le_of_ble_eq_true rfl) h;exact g 1 (by omega) (Nat.le_of_ble_eq_true rfl) h),if_pos (.inr (.inr (.inr (.inr h2))))];exact h2
theorem sign_none {l:List UInt8} (h:∀ i:Fin 7,l.take (signs.getD i.1 []).length ≠ signs.getD i.1 []):signL l=[]:=by
 unfold signL
 rw [if_neg,if_neg]
 ·rintro (h1 | h1 | h1 | h1 | h1)
  ·exact h 2 h1
  ·exact h 3 h1
  ·exact h 4 h1
  ·exact h 5 h1
  ·exact h 6 h1
 ·rintro (h1 | h1)
  ·exact h 0 h1
  ·exact h 1 h1
set_option maxRecDepth 100000 in
set_option maxHeartbeats 4000000 in
theorem signed_any (l:List UInt8) (w:World):Calls prog 184 #[strV l] w fun e w'=>e=.returned (.tuple #[strV (signL l),strV (l.drop (signL l).length)])/\Mod No w w':=by
 refine calls_hide fun R hR=>?_
 have HHP:=zh (hasprefix_any l)
 have HEF:=zh (str_from l)
 have HZ:=zh (str_len3 l)
 have HPL:=zh str_len3
 unfold strV at *
 have hZe:(⟨l.toArray⟩:ByteArray)=⟨(l.drop 0).toArray⟩:=by rw [List.drop_zero]
 have HZE:=zh hZe
 clear hZe
 generalize (⟨l.toArray⟩:ByteArray)=Z at *
 have hZs:(Z.size:Int)=(l.length:Int):=by rw [HZ.out]
 go_enter func184,ntmps184
 go_upto_region 2 with fail
 obtain ⟨g,hg⟩:∃ g,g=w.heap.size:=⟨_,rfl⟩
 rw [<- hg]
 generalize hw1:World.alloc w _=w1
 have HM1:=zh (show Mod No w w1 by rw [<- hw1];exact (Mod.refl No w).alloc _)
 have HSL:=zh (show Sl w1 No 9 (.slice (some ⟨g,0,none⟩) 7 7) 7 (strs signs) by
  rw [<- hw1,hg]
  exact Sl.of_own (own_alloc (w:=w) (e:=9) (xs:=strs signs) (by decide)) (fun _ _ f=>f))
 clear hw1 hg
 go_wp2_with fail
 go_loopw [8] (fun q wr=>∃ k:Nat,k<=7/\q=.int .i64 k/\wr=w1/\∀ i:Fin 7,i.1 < k->l.take (signs.getD i.1 []).length ≠ signs.getD i.1 []) (fun q _=>7 - (intOf q).toNat)
 case atStart=>exact ⟨0,by omega,rfl,rfl,fun i hi=>absurd hi (by omega)⟩
 case round =>
  obtain ⟨k,hk,rfl,rfl,hno⟩:=hrel
  have hk0:(0:Int)<=(k:Int):=Int.natCast_nonneg _
  by_cases hlt:k < 7
  ·have hk1:(k:Int) < 7:=by omega
   have hcell:wr.cell? ⟨g,k,none⟩=some (.string ⟨(signs.getD k []).toArray⟩):=by
    have hl:k < (strs signs).length:=hlt
    have:=HSL.out.cellN (i:=k) hl
    rw [Nat.zero_add] at this
    rw [this]
    have h2:signs.getD k []=signs[k]'hlt:=by rw [List.getD_eq_getElem?_getD,List.getElem?_eq_getElem (show k < signs.length from hlt)];rfl
    rw [h2]
    simp [strs,strV]
    rfl
   have HHIT:=zh (show l.take (signs.getD k []).length=signs.getD k []->signL l=signs.getD k [] from fun h=>sign_hit ⟨k,hlt⟩ hno h)
   have HN:=zh (show l.take (signs.getD k []).length ≠ signs.getD k []->∀ i:Fin 7,i.1 < k+1->l.take (signs.getD i.1 []).length ≠ signs.getD i.1 [] from fun h i hi=>by
    rcases Nat.lt_or_ge i.1 k with h3 | h3
    ·exact hno i h3
    ·have:i.1=k:=by omega
     rw [this];exact h)
   clear hno
   generalize signs.getD k []=x at *
   go_wp2_with fail
   with_reducible refine (HHP.out x _).mono ?_
   rintro e w2 ⟨rfl,rfl⟩
   by_cases hb:l.take x.length=x
   ·rw [decide_eq_true hb]
    have hxl:x.length<=l.length:=by
     have:=congrArg List.length hb
     rw [List.length_take] at this
     omega
    have hx1:(x.length:Int)<=(Z.size:Int):=by omega
    have hx0:(0:Int)<=(x.length:Int):=Int.natCast_nonneg _
    have hext:=HEF.out x.length
    have hxs:((⟨x.toArray⟩:ByteArray).size:Int)=(x.length:Int):=by rw [HPL.out]
    have HSG:=zh (HHIT.out hb)
    clear HHIT HN hb
    go_upto_region 5 with fail
    go_quiet (fail)
    go_wp2_with fail
    exact fin hR ⟨(by rw [HSG.out];try rfl),HM1.out.drewN _⟩
   ·rw [decide_eq_false hb]
    have HN2:=zh (HN.out hb)
    clear HHIT HN hb
    go_wp2_with fail
    exact ⟨⟨k+1,by omega,rfl,trivial,HN2.out⟩,by show 7 - ((k:Int)+1).toNat < 7 - (k:Int).toNat;omega⟩
  ·have HNO:=zh (sign_none (l:=l) (fun i=>hno i (by omega)))
   clear hno
   go_wp2_with fail
   refine fin hR ⟨?_,HM1.out⟩
   rw [HNO.out]
   show _=Ending.returned (.tuple #[.string ⟨#[]⟩,.string ⟨(l.drop 0).toArray⟩])
   rw [<- HZE.out]
   rfl
end Go.Proofs.YtgiigemfbebcgaaGreatDoor
