/-
  Layers 0 to 14: helps of the laws of indexes. No statement is proved here; no condition.
-/
import Derived.Test.YtmppeipgjcjdkaaGreatDoorX08
import Derived.Test.YtmppeipgjcjdkaaGreatDoorX15
import Derived.Test.YtmppeipgjcjdkaaGreatDoorX17
namespace Go.Proofs.YtmppeipgjcjdkaaGreatDoor
open _root_.Go.Proofs.Tryz
open Go.RowKit
set_option maxRecDepth 100000 in
set_option maxHeartbeats 4000000 in
theorem heldpin_any (x:PnX) (f:FlX) (fa:Option Addr) (fm fc:Nat) (hfv:f.v=.slice fa fm fc) (fb:Nat) (w:World) (hn:x.p.name.length<=1000000) (hfb:w.heap[fb]? = some (.cells (FlX.cells f).toArray 51 (0,0))) :
  Calls prog 50 #[.agg (PnX.cells x).toArray,.pointer (some ⟨fb,0,none⟩)] w fun e w'=>e=.returned (.bool (withinB f.f.path x.p.name))/\Mod No w w':=by
 refine calls_hide fun R hR=>?_
 have HCM:=zh (pathin_any f.f.path x.p.name hn)
 have HC:=zh (show PnX.cells x=strV x.p.name :: (verCs x.p.v x.pv++bv x.p.sum) from rfl)
 have HFB:=zh hfb
 clear hn hfb
 generalize PnX.cells x=cs at *
 generalize withinB f.f.path x.p.name=r at *
 obtain ⟨⟨nm,⟨v0,v1,v2,vp⟩,sm⟩,pv⟩:=x
 obtain ⟨⟨fp,fd,fbs⟩,fv⟩:=f
 dsimp only at *
 subst hfv
 unfold FlX.cells strV verCs at *
 dsimp only at *
 generalize (⟨nm.toArray⟩:ByteArray)=A1 at *
 generalize (⟨fp.toArray⟩:ByteArray)=A2 at *
 go_enter func50,ntmps50
 go_upto_region 1 with fail
 obtain ⟨gx,hgx⟩:∃ g,g=w.heap.size:=⟨_,rfl⟩
 rw [<- hgx]
 generalize hw1:World.alloc w _=w1
 have hx1:w1.heap[gx]? = some (.cells cs.toArray 49 (0,0)):=by rw [<- hw1,hgx];exact heap_alloc_new w _
 have hm1:Mod No w w1:=by rw [<- hw1];exact (Mod.refl No w).alloc _
 have n0:=cell_ofA (hm1.keep HFB.out (fun f=>f)) (i:=0) rfl
 have c0:w1.cell? ⟨gx,0,none⟩=some (.string A1):=cell_of hx1 (by rw [HC.out];rfl)
 have HM:=zh hm1
 clear hw1 hgx hx1 hm1 HC HFB
 go_wp2_with fail
 with_reducible refine (HCM.out _).mono ?_
 rintro e w2 ⟨rfl,h2⟩
 rw [h2]
 clear h2 HCM
 go_wp2_with fail
 exact fin hR ⟨rfl,HM.out⟩
set_option maxRecDepth 100000 in
set_option maxHeartbeats 4000000 in
theorem heldfile_any (f:FlX) (fa:Option Addr) (fm fc:Nat) (hfv:f.v=.slice fa fm fc) (xs:List PnX) (hxs:xs.length<=1000000) (pb:Nat) (pv:Value) (w:World) (hok:∀ x ∈ xs,PnS w x/\x.p.name.length<=1000000) (hpv:Sl w No 49 pv xs.length (xs.flatMap PnX.cells)) (hpb:w.heap[pb]? = some (.cells #[pv] 42 (0,0))) :
  Calls prog 48 #[.agg (FlX.cells f).toArray,.pointer (some ⟨pb,0,none⟩)] w fun e w'=>e=.returned (.bool (!(xs.any fun x=>withinB f.f.path x.p.name)))/\Mod No w w':=by
 refine calls_hide fun R hR=>?_
 have HA:=zh (fun (W1:World) (fb:Nat) (hm1:Mod No w W1) (hfb:W1.heap[fb]? = some (.cells (FlX.cells f).toArray 51 (0,0)))=>containsfunc_pns 50 #[.pointer (some ⟨fb,0,none⟩)] (fun _ _=>rfl) (fun x=>withinB f.f.path x.p.name) xs hxs (fun x hx=>PnX.cells_length x (hok x hx).1.sum) pv W1 (hpv.kn hm1) (fun i hi W hm =>
  heldpin_any xs[i] f fa fm fc hfv fb W (hok _ (List.getElem_mem hi)).2 (hm.keep hfb (fun f=>f))))
 obtain ⟨va,vc,rfl⟩:=hpv.len
 have HPB:=zh hpb
 clear hpv hok hpb
 generalize (xs.any fun x=>withinB f.f.path x.p.name)=r at *
 generalize xs.length=m at *
 obtain ⟨⟨fp,fd,fbs⟩,fv⟩:=f
 dsimp only at *
 subst hfv
 unfold FlX.cells strV at *
 dsimp only at *
 generalize (⟨fp.toArray⟩:ByteArray)=A2 at *
 go_enter func48,ntmps48
 go_upto_region 1 with fail
 obtain ⟨gx,hgx⟩:∃ g,g=w.heap.size:=⟨_,rfl⟩
 rw [<- hgx]
 generalize hw1:World.alloc w _=w1
 have hm1:Mod No w w1:=by rw [<- hw1];exact (Mod.refl No w).alloc _
 have HAW:=zh (HA.out w1 gx hm1 (by rw [<- hw1,hgx];exact heap_alloc_new w _))
 have c0:=cell_ofA (hm1.keep HPB.out (fun f=>f)) (i:=0) rfl
 have HM:=zh hm1
 clear hw1 hgx hm1 HA HPB
 go_wp2_with fail
 with_reducible refine HAW.out.mono ?_
 rintro e w2 ⟨rfl,hm2⟩
 have HM2:=zh (HM.out.trans hm2)
 clear hm2 HAW HM c0
 go_wp2_with fail
 exact fin hR ⟨rfl,HM2.out⟩
theorem lkOf_names {s:List UInt8} {ps:List Pn} (h:lkOf s=some ps):∀ p ∈ ps,p.name.length<=1000000:=by
 have hg:∀ (l:List (List UInt8)) (out ps:List Pn),(∀ p ∈ out,p.name.length<=1000000)->pinsG out l=some ps->∀ p ∈ ps,p.name.length<=1000000:=by
  intro l
  induction l with
  | nil=>intro out ps ho he;cases he;exact ho
  | cons x l ih =>
   intro out ps ho he
   rw [pinsG] at he
   cases hp:pinL x with
   | none=>rw [hp] at he;cases he
   | some p =>
    rw [hp] at he
    dsimp only at he
    split at he
    ·refine ih _ _ (fun q hq=>?_) he
     rcases List.mem_append.1 hq with hq | hq
     ·exact ho q hq
     ·obtain rfl:=List.mem_singleton.1 hq
      unfold pinL at hp
      split at hp
      ·rename_i a b c _
       split at hp
       ·rename_i hn
        obtain ⟨v,-,hp⟩:=Option.bind_eq_some_iff.1 hp
        obtain ⟨k,-,rfl⟩:=Option.map_eq_some_iff.1 hp
        unfold nameB at hn
        simp only [Bool.and_eq_true,decide_eq_true_eq] at hn
        have:=hn.1.1.2
        dsimp only
        omega
       ·cases hp
      ·cases hp
    ·cases he
 unfold lkOf at h
 split at h
 ·cases h
 ·split at h
  ·cases h
  ·split at h
   ·exact hg _ [] ps (fun p hp=>by cases hp) h
   ·cases h
set_option maxRecDepth 100000 in
set_option maxHeartbeats 8000000 in
theorem held_any (m l:List UInt8) (hm:m.length<=1000000) (hl:l.length<=1000000) (ka:Option Addr) (kn kc:Nat) (fs:List FlX) (tv:Value) (hfn:fs.length<=1000000) (hfv:∀ f ∈ fs,∃ a n c,f.v=.slice a n c) (w:World) (hgl:Gl w) (ht:SvX w No tv fs.length (fs.flatMap FlX.cells)) :
  Calls prog 16 #[.agg #[strV m,strV l,.slice ka kn kc,tv]] w fun e w'=>e=.returned (.bool (heldB m l (fs.map fun f=>f.f.path)))/\Mod No w w':=by
 refine calls_hide fun R hR=>?_
 have HMP:=zh (fun W (hW:Mod No w W)=>mparse_any m hm W (hgl.stay hW (fun f=>f)))
 have HLP:=zh (fun W (hW:Mod No w W)=>lparse_any l hl W (hgl.stay hW (fun f=>f)))
 have HCF:=zh (fun (xs:List PnX) (hxs:xs.length<=1000000) (pb:Nat) (pv:Value) (W:World) (hW:Mod No w W) (hok:∀ x ∈ xs,PnS W x/\x.p.name.length<=1000000) (hpv:Sl W No 49 pv xs.length (xs.flatMap PnX.cells)) (hpb:W.heap[pb]? = some (.cells #[pv] 42 (0,0))) =>
  containsfunc_fls 48 #[.pointer (some ⟨pb,0,none⟩)] (fun _ _=>rfl) (fun f=>!(xs.any fun x=>withinB f.f.path x.p.name)) fs hfn (fun f _=>FlX.cells_length f) tv W (ht.kn hW) (fun i hi W2 hm2=>by
   obtain ⟨a,n,c,e⟩:=hfv fs[i] (List.getElem_mem hi)
   exact heldfile_any fs[i] a n c e xs hxs pb pv W2 (fun x hx=>⟨(hok x hx).1.keep hm2,(hok x hx).2⟩) (hpv.kn hm2) (hm2.keep hpb (fun f=>f))))
 have HB:=zh (show heldB m l (fs.map fun f=>f.f.path)=if m=[]/\l=[] then (fs.map fun f=>f.f.path).isEmpty else match mfOf m,lkOf l with
  | some m,some ps=>m.needs.all (metB ps) && (fs.map fun f=>f.f.path).all fun x=>ps.any fun p=>withinB x p.name
  | _,_=>false from rfl)
 obtain ⟨ta,tc,rfl⟩:=ht.len
 have hem:m=[] ↔ m.isEmpty=true:=by simp
 have hT1:=str_list m
 have hT2:=str_list l
 clear ht hfv hgl
 generalize heldB m l (fs.map fun f=>f.f.path)=r at *
 obtain ⟨fn,hfe⟩:∃ n,n=fs.length:=⟨_,rfl⟩
 rw [<- hfe] at HCF ⊢
 have HFE:=zh hfe
 clear hfe hfn
 unfold strV at *
 generalize (⟨m.toArray⟩:ByteArray)=M1 at *
 generalize (⟨l.toArray⟩:ByteArray)=L1 at *
 go_enter func16,ntmps16
 go_upto_region 1 with fail
 obtain ⟨gx,hgx⟩:∃ g,g=w.heap.size:=⟨_,rfl⟩
 rw [<- hgx]
 generalize hw1:World.alloc w _=w1
 have h0:w1.heap[gx]? = some (.cells #[.string M1,.string L1,.slice ka kn kc,.slice ta fn tc] 38 (0,0)):=by rw [<- hw1,hgx];exact heap_alloc_new w _
 have hm1:Mod No w w1:=by rw [<- hw1];exact (Mod.refl No w).alloc _
 have H0:=zh h0
 have HM1:=zh hm1
 have a0:w1.cell? ⟨gx,0,none⟩=some (.string M1):=cell_ofA h0 rfl
 have a1:w1.cell? ⟨gx,1,none⟩=some (.string L1):=cell_ofA h0 rfl
 have a3:w1.cell? ⟨gx,3,none⟩=some (.slice ta fn tc):=cell_ofA h0 rfl
 clear hw1 h0 hm1 hgx hem
 by_cases hml:m=[]/\l=[]
 ·obtain ⟨rfl,rfl⟩:=hml
  have HR:=zh (show r=decide (fn=0) by
   rw [HB.out,if_pos ⟨rfl,rfl⟩,HFE.out]
   cases fs <;> simp)
  clear HB HMP HLP HCF
  go_wp2_with fail
  refine fin hR ⟨bool_ret ?_,HM1.out⟩
  rw [HR.out]
  by_cases h:fn=0
  ·subst h;simp
  ·rw [decide_eq_false h];simp;omega
 rw [if_neg hml] at HB
 have hcond:m.isEmpty=false\/(m.isEmpty=true/\l.isEmpty=false):=by
  by_cases h:m=[]
  ·by_cases h2:l=[]
   ·exact absurd ⟨h,h2⟩ hml
   ·exact .inr ⟨by simpa using h,by simpa using h2⟩
  ·exact .inl (by simpa using h)
 have HMW:=zh (HMP.out w1 HM1.out)
 clear hml HMP
 rcases hcond with hc1 | ⟨hc1,hc2⟩
 ·go_wp2_with fail
  with_reducible refine HMW.out.mono ?_
  rintro e w2 ⟨hres,hm2⟩
  have HM2:=zh (HM1.out.trans hm2)
  have H02:=zh (hm2.keep H0.out (fun f=>f))
  clear hc1 a0 a1 a3 hT1 hT2 HMW H0
  obtain ⟨gm,hgm⟩:∃ g,g=w2.heap.size:=⟨_,rfl⟩
  unfold MfRes at hres
  cases hmf:mfOf m with
  | none =>
   rw [hmf] at hres HB
   obtain ⟨i,rfl⟩:=hres
   unfold mftZ
   obtain ⟨w3,hw3⟩:∃ w3,w3=w2.alloc (.cells #[.string ⟨#[]⟩,.int .i64 0,.int .i64 0,.int .i64 0,.slice none 0 0,.slice none 0 0] 104):=⟨_,rfl⟩
   have m3:Mod No w2 w3:=by rw [hw3];exact (Mod.refl No w2).alloc _
   have HW3:=zh hw3
   have HM3:=zh (HM2.out.trans m3)
   have b1:w3.cell? ⟨gx,1,none⟩=some (.string L1):=cell_ofA (m3.keep H02.out (fun f=>f)) rfl
   have HLW:=zh (HLP.out w3 HM3.out)
   have HR:=zh (show r=false from HB.out)
   clear hm2 m3 hw3 HLP HB hmf HCF
   go_upto_region 4 with fail
   rw [<- HW3.out]
   go_wp2_with fail
   with_reducible refine HLW.out.mono ?_
   rintro e w4 ⟨hlk,hm4⟩
   obtain ⟨oa,on,oc,i2,i3,hee⟩:∃ (oa:Option Addr) (on oc:Nat) (i2 i3:Int),e=.returned (.tuple #[.slice oa on oc,.int .i64 i2,.int .i64 i3]):=by
    unfold LkRes at hlk
    cases hl2:lkOf l with
    | none=>rw [hl2] at hlk;obtain ⟨i,h⟩:=hlk;exact ⟨_,_,_,_,_,h⟩
    | some ps=>rw [hl2] at hlk;obtain ⟨xs,v,-,h,h2,-⟩:=hlk;obtain ⟨a,c,e⟩:=h2.len;exact ⟨_,_,_,_,_,by rw [h,e]⟩
   subst hee
   have HM4:=zh (HM3.out.trans hm4)
   have HM5:=zh (HM4.out.alloc (.cells #[.slice oa on oc] 42))
   clear hm4 HLW b1 hlk
   go_wp2_with fail
   refine fin hR ⟨bool_ret ?_,HM5.out⟩
   rw [HR.out]
  | some mf =>
   rw [hmf] at hres HB
   obtain ⟨v,rfl,pa,pc,na,nc,rfl,hpre,hnds⟩:=hres
   have HOK:=zh (mfOf_ok hmf)
   unfold mftCs strV
   obtain ⟨w3,hw3⟩:∃ w3,w3=w2.alloc (.cells #[.string ⟨mf.name.toArray⟩,.int .i64 mf.v.ma,.int .i64 mf.v.mi,.int .i64 mf.v.pa,.slice pa mf.v.pre.length pc,.slice na mf.needs.length nc] 104):=⟨_,rfl⟩
   have m3:Mod No w2 w3:=by rw [hw3];exact (Mod.refl No w2).alloc _
   have HW3:=zh hw3
   have HM3:=zh (HM2.out.trans m3)
   have HGM:=zh (show w3.heap[gm]? = some (.cells #[.string ⟨mf.name.toArray⟩,.int .i64 mf.v.ma,.int .i64 mf.v.mi,.int .i64 mf.v.pa,.slice pa mf.v.pre.length pc,.slice na mf.needs.length nc] 104 (0,0)) by rw [hw3,hgm];exact heap_alloc_new w2 _)
   have H03:=zh (m3.keep H02.out (fun f=>f))
   have HN3:=zh (hnds.keep m3 (Apart.no _ _))
   have b1:w3.cell? ⟨gx,1,none⟩=some (.string L1):=cell_ofA H03.out rfl
   have HLW:=zh (HLP.out w3 HM3.out)
   have HGE:=zh hgm
   clear hm2 m3 hw3 HLP hmf hpre hnds H02 hgm
   generalize mf.name.toArray=MN at *
   generalize mf.v.pre.length=pn at *
   go_upto_region 4 with fail
   rw [<- HW3.out,<- HGE.out]
   go_wp2_with fail
   with_reducible refine HLW.out.mono ?_
   rintro e w4 ⟨hlk,hm4⟩
   unfold LkRes at hlk
   cases hl2:lkOf l with
   | none =>
    rw [hl2] at hlk HB
    obtain ⟨i,rfl⟩:=hlk
    have HR:=zh (show r=false from HB.out)
    have HM4:=zh (HM3.out.trans hm4)
    have HM5:=zh (HM4.out.alloc (.cells #[.slice none 0 0] 42))
    clear hm4 HLW b1 HB hl2
    go_wp2_with fail
    refine fin hR ⟨bool_ret ?_,HM5.out⟩
    rw [HR.out]
   | some ps =>
    rw [hl2] at hlk HB
    obtain ⟨xs,pv,hxp,rfl,hsl,hpo,hx200⟩:=hlk
    obtain ⟨oa,oc,hpv⟩:=hsl.len
    subst hpv
    have HM4:=zh (HM3.out.trans hm4)
    have HLN:=zh (lkOf_names hl2)
    have HXP:=zh hxp
    obtain ⟨w5,hw5⟩:∃ w5,w5=w4.alloc (.cells #[.slice oa xs.length oc] 42):=⟨_,rfl⟩
    have m5:Mod No w4 w5:=by rw [hw5];exact (Mod.refl No w4).alloc _
    obtain ⟨gp,hgp⟩:∃ g,g=w4.heap.size:=⟨_,rfl⟩
    have HW5:=zh hw5
    have HGP:=zh hgp
    have HM5:=zh (HM4.out.trans m5)
    have HP5:=zh (show w5.heap[gp]? = some (.cells #[.slice oa xs.length oc] 42 (0,0)) by rw [hw5,hgp];exact heap_alloc_new w4 _)
    have HS5:=zh (show Sl w5 No 49 (.slice oa xs.length oc) xs.length (xs.flatMap PnX.cells) from hsl.kn m5)
    have HPO5:=zh (show ∀ x ∈ xs,PnS w5 x from fun x hx=>⟨((hpo x hx).no m5).sum,((hpo x hx).no m5).small,.of ((hpo x hx).no m5).pre⟩)
    have HG5:=zh ((hm4.trans m5).keep HGM.out (fun f=>f))
    have H05:=zh ((hm4.trans m5).keep H03.out (fun f=>f))
    obtain ⟨ys,hys,hyo,hyl⟩:=NdsAt.keep HN3.out (hm4.trans m5) (Apart.no _ _)
    obtain ⟨n,hn⟩:∃ n,n=mf.needs.length:=⟨_,rfl⟩
    have hyn:ys.length=n:=by rw [hn,<- hys,List.length_map]
    rw [<- hn] at hyl HG5
    rw [<- hn]
    have hn20:n<=20:=by have:=HOK.out.few;omega
    have HYS:=zh hys
    have HYO:=zh hyo
    have HYL:=zh hyl
    have HYN:=zh hyn
    have hxl:xs.length<=1000000:=by omega
    have d5:w5.cell? ⟨gm,5,none⟩=some (.slice na n nc):=cell_ofA HG5.out rfl
    have HXF:=zh (HCF.out xs hxl gp (.slice oa xs.length oc))
    have HXL:=zh hxl
    have HRR:=zh (show r=(mf.needs.all (metB ps) && (fs.map fun f=>f.f.path).all fun x=>ps.any fun p=>withinB x p.name) from HB.out)
    obtain ⟨xn,hxn⟩:∃ n,n=xs.length:=⟨_,rfl⟩
    rw [<- hxn] at HXF HS5 HP5 HW5
    rw [<- hxn]
    have HXN:=zh hxn
    clear hm4 m5 hw5 hgp hsl hpo hys hyo hyl hn hl2 hxp HCF HB HLW b1 HN3 HGM H03 hxl hxn
    go_upto_region 5 with fail
    rw [<- HW5.out,<- HGP.out]
    go_wp2_with fail
    go_loopw [46] (fun u wr=>∃ k:Nat,k<=n/\u=.int .i64 (k:Int)/\Mod No w5 wr/\∀ i (hi:i < ys.length),i < k->metB ps ys[i].n=true) (fun u _=>n - (intOf u).toNat)
    case atStart=>exact ⟨0,by omega,rfl,Mod.refl _ _,fun i _ hi=>absurd hi (by omega)⟩
    case round =>
     obtain ⟨k,hk,rfl,hmo,hall⟩:=hrel
     have HMO:=zh hmo
     have HALL:=zh hall
     have hk0:(0:Int)<=(k:Int):=Int.natCast_nonneg _
     clear hmo hall
     by_cases hlt:k < n
     ·have hk1:(k:Int) < (n:Int):=by omega
      have hky:k < ys.length:=by omega
      obtain ⟨b,o,c,hvs,_⟩:=HYL.out.shape (by omega)
      cases hvs
      have hrg:=HMO.out.rangeAt (Sl.at NdX.cells_length HYL.out hky) (fun f=>f)
      have HRG:=zh hrg
      have hyk:=HYO.out ys[k] (List.getElem_mem hky)
      have hsk:=HOK.out.nds ys[k].n (by rw [<- HYS.out];exact List.mem_map.2 ⟨_,List.getElem_mem hky,rfl⟩)
      have HMETF:=zh (fun (h:metB ps ys[k].n=false)=>show r=false by
       rw [HRR.out]
       have:mf.needs.all (metB ps)=false:=by
        rw [<- Bool.not_eq_true]
        intro ha
        have:=List.all_eq_true.1 ha ys[k].n (by rw [<- HYS.out];exact List.mem_map.2 ⟨_,List.getElem_mem hky,rfl⟩)
        rw [h] at this;cases this
       rw [this];rfl)
      have HMETT:=zh (fun (h:metB ps ys[k].n=true)=>show ∀ i (hi:i < ys.length),i < k+1->metB ps ys[i].n=true from fun i hi hik=>by
       rcases Nat.lt_or_ge i k with h3 | h3
       ·exact HALL.out i hi h3
       ·obtain rfl:i=k:=by omega
        exact h)
      have HMT:=zh (fun (W:World) (hW:Mod No w5 W)=>met_any ys[k] xs HXL.out (.slice oa xn oc) W hsk (hyk.keep hW (Apart.no _ _)) (fun x hx=>(HPO5.out x hx).keep hW) (by rw [<- HXN.out];exact HS5.out.kn hW))
      obtain ⟨zs,-,-,hz3⟩:=hyk
      obtain ⟨za,zc,hzv⟩:=hz3.len
      clear hrg hz3 hsk HALL
      generalize ys[k]=y at *
      obtain ⟨⟨yn,⟨ya,yo⟩,yt⟩,yov⟩:=y
      dsimp only at hzv HMT HMETF HMETT
      subst hzv
      generalize yo.length=zm at *
      rw [HXP.out] at HMT
      unfold NdX.cells strV at *
      dsimp only at *
      generalize (⟨yn.toArray⟩:ByteArray)=YA at *
      generalize (⟨yt.toArray⟩:ByteArray)=YT at *
      go_upto_region 10 with (refine wpList_load_mid rfl 113 _ rfl b (o+k*4) rfl [.string YA,.bool ya,.slice za zm zc,.string YT] _ HRG.out (underlying113) rfl (by kernel_rfl) ?_)
      obtain ⟨gb,hgb⟩:∃ g,g=wr.heap.size:=⟨_,rfl⟩
      rw [<- hgb]
      generalize hw6:World.alloc wr _=w6
      have h6:w6.heap[gb]? = some (.cells #[.string YA,.bool ya,.slice za zm zc,.string YT] 113 (0,0)):=by rw [<- hw6,hgb];exact heap_alloc_new wr _
      have hm6:Mod No w5 w6:=by rw [<- hw6];exact HMO.out.alloc _
      obtain ⟨⟨c0,c1,c2,c3⟩,-⟩:=cells4 h6
      have e0:w6.cell? ⟨gp,0,none⟩=some (.slice oa xn oc):=cell_ofA (hm6.keep HP5.out (fun f=>f)) rfl
      have HMW6:=zh (HMT.out w6 hm6)
      have HM6:=zh hm6
      clear hw6 h6 hm6 hgb HMT
      go_wp2_with fail
      with_reducible refine HMW6.out.mono ?_
      rintro e w7 ⟨rfl,hm7⟩
      have HM7:=zh (HM6.out.trans hm7)
      clear hm7 HMW6 c0 c1 c2 c3 e0
      generalize metB ps _=bm at *
      rcases bm with _ | _
      ·have HR:=zh (HMETF.out rfl)
       have HMZ:=zh (HM5.out.trans HM7.out)
       go_wp2_with fail
       refine fin hR ⟨bool_ret ?_,HMZ.out⟩
       rw [HR.out]
      ·have HA:=zh (HMETT.out rfl)
       go_wp2_with fail
       exact ⟨⟨k+1,by omega,rfl,HM7.out,HA.out⟩,by show n - ((k:Int)+1).toNat < n - (k:Int).toNat;omega⟩
     ·obtain rfl:k=n:=by omega
      have hk1:¬ ((k:Int) < (k:Int)):=by omega
      have HNA:=zh (show mf.needs.all (metB ps)=true by
       rw [<- HYS.out,List.all_map,List.all_eq_true]
       intro y hy
       obtain ⟨i,hi,rfl⟩:=List.getElem_of_mem hy
       exact HALL.out i hi (by rw [<- HYN.out];exact hi))
      have HR:=zh (show r = !(fs.any fun f=>!(xs.any fun x=>withinB f.f.path x.p.name)) by
       rw [HRR.out,HNA.out,Bool.true_and,all_not_any (fun f:FlX=>xs.any fun x=>withinB f.f.path x.p.name) fs,Bool.not_not,List.all_map,<- HXP.out]
       congr 1
       funext f
       show (List.map PnX.p xs).any (fun p=>withinB f.f.path p.name)=_
       rw [List.any_map]
       rfl)
      have HCW:=zh (HXF.out wr (HM5.out.trans HMO.out) (fun x hx=>⟨(HPO5.out x hx).keep HMO.out,HLN.out _ (by rw [<- HXP.out];exact List.mem_map.2 ⟨x,hx,rfl⟩)⟩) (HS5.out.kn HMO.out) (HMO.out.keep HP5.out (fun f=>f)))
      have a3:wr.cell? ⟨gx,3,none⟩=some (.slice ta fn tc):=cell_ofA (HMO.out.keep H05.out (fun f=>f)) rfl
      have HMZ:=zh (HM5.out.trans HMO.out)
      clear HXF HRR HNA HALL
      generalize (fs.any fun f=>!(xs.any fun x=>withinB f.f.path x.p.name))=rf at *
      go_wp2_with fail
      with_reducible refine HCW.out.mono ?_
      rintro e w7 ⟨rfl,hm7⟩
      have HM7:=zh (HMZ.out.trans hm7)
      clear hm7 HCW a3
      go_wp2_with fail
      refine fin hR ⟨bool_ret ?_,HM7.out⟩
      rw [HR.out]
 ·go_wp2_with fail
  with_reducible refine HMW.out.mono ?_
  rintro e w2 ⟨hres,hm2⟩
  have HM2:=zh (HM1.out.trans hm2)
  have H02:=zh (hm2.keep H0.out (fun f=>f))
  clear hc1 hc2 a0 a1 a3 hT1 hT2 HMW H0
  obtain ⟨gm,hgm⟩:∃ g,g=w2.heap.size:=⟨_,rfl⟩
  unfold MfRes at hres
  cases hmf:mfOf m with
  | none =>
   rw [hmf] at hres HB
   obtain ⟨i,rfl⟩:=hres
   unfold mftZ
   obtain ⟨w3,hw3⟩:∃ w3,w3=w2.alloc (.cells #[.string ⟨#[]⟩,.int .i64 0,.int .i64 0,.int .i64 0,.slice none 0 0,.slice none 0 0] 104):=⟨_,rfl⟩
   have m3:Mod No w2 w3:=by rw [hw3];exact (Mod.refl No w2).alloc _
   have HW3:=zh hw3
   have HM3:=zh (HM2.out.trans m3)
   have b1:w3.cell? ⟨gx,1,none⟩=some (.string L1):=cell_ofA (m3.keep H02.out (fun f=>f)) rfl
   have HLW:=zh (HLP.out w3 HM3.out)
   have HR:=zh (show r=false from HB.out)
   clear hm2 m3 hw3 HLP HB hmf HCF
   go_upto_region 4 with fail
   rw [<- HW3.out]
   go_wp2_with fail
   with_reducible refine HLW.out.mono ?_
   rintro e w4 ⟨hlk,hm4⟩
   obtain ⟨oa,on,oc,i2,i3,hee⟩:∃ (oa:Option Addr) (on oc:Nat) (i2 i3:Int),e=.returned (.tuple #[.slice oa on oc,.int .i64 i2,.int .i64 i3]):=by
    unfold LkRes at hlk
    cases hl2:lkOf l with
    | none=>rw [hl2] at hlk;obtain ⟨i,h⟩:=hlk;exact ⟨_,_,_,_,_,h⟩
    | some ps=>rw [hl2] at hlk;obtain ⟨xs,v,-,h,h2,-⟩:=hlk;obtain ⟨a,c,e⟩:=h2.len;exact ⟨_,_,_,_,_,by rw [h,e]⟩
   subst hee
   have HM4:=zh (HM3.out.trans hm4)
   have HM5:=zh (HM4.out.alloc (.cells #[.slice oa on oc] 42))
   clear hm4 HLW b1 hlk
   go_wp2_with fail
   refine fin hR ⟨bool_ret ?_,HM5.out⟩
   rw [HR.out]
  | some mf =>
   rw [hmf] at hres HB
   obtain ⟨v,rfl,pa,pc,na,nc,rfl,hpre,hnds⟩:=hres
   have HOK:=zh (mfOf_ok hmf)
   unfold mftCs strV
   obtain ⟨w3,hw3⟩:∃ w3,w3=w2.alloc (.cells #[.string ⟨mf.name.toArray⟩,.int .i64 mf.v.ma,.int .i64 mf.v.mi,.int .i64 mf.v.pa,.slice pa mf.v.pre.length pc,.slice na mf.needs.length nc] 104):=⟨_,rfl⟩
   have m3:Mod No w2 w3:=by rw [hw3];exact (Mod.refl No w2).alloc _
   have HW3:=zh hw3
   have HM3:=zh (HM2.out.trans m3)
   have HGM:=zh (show w3.heap[gm]? = some (.cells #[.string ⟨mf.name.toArray⟩,.int .i64 mf.v.ma,.int .i64 mf.v.mi,.int .i64 mf.v.pa,.slice pa mf.v.pre.length pc,.slice na mf.needs.length nc] 104 (0,0)) by rw [hw3,hgm];exact heap_alloc_new w2 _)
   have H03:=zh (m3.keep H02.out (fun f=>f))
   have HN3:=zh (hnds.keep m3 (Apart.no _ _))
   have b1:w3.cell? ⟨gx,1,none⟩=some (.string L1):=cell_ofA H03.out rfl
   have HLW:=zh (HLP.out w3 HM3.out)
   have HGE:=zh hgm
   clear hm2 m3 hw3 HLP hmf hpre hnds H02 hgm
   generalize mf.name.toArray=MN at *
   generalize mf.v.pre.length=pn at *
   go_upto_region 4 with fail
   rw [<- HW3.out,<- HGE.out]
   go_wp2_with fail
   with_reducible refine HLW.out.mono ?_
   rintro e w4 ⟨hlk,hm4⟩
   unfold LkRes at hlk
   cases hl2:lkOf l with
   | none =>
    rw [hl2] at hlk HB
    obtain ⟨i,rfl⟩:=hlk
    have HR:=zh (show r=false from HB.out)
    have HM4:=zh (HM3.out.trans hm4)
    have HM5:=zh (HM4.out.alloc (.cells #[.slice none 0 0] 42))
    clear hm4 HLW b1 HB hl2
    go_wp2_with fail
    refine fin hR ⟨bool_ret ?_,HM5.out⟩
    rw [HR.out]
   | some ps =>
    rw [hl2] at hlk HB
    obtain ⟨xs,pv,hxp,rfl,hsl,hpo,hx200⟩:=hlk
    obtain ⟨oa,oc,hpv⟩:=hsl.len
    subst hpv
    have HM4:=zh (HM3.out.trans hm4)
    have HLN:=zh (lkOf_names hl2)
    have HXP:=zh hxp
    obtain ⟨w5,hw5⟩:∃ w5,w5=w4.alloc (.cells #[.slice oa xs.length oc] 42):=⟨_,rfl⟩
    have m5:Mod No w4 w5:=by rw [hw5];exact (Mod.refl No w4).alloc _
    obtain ⟨gp,hgp⟩:∃ g,g=w4.heap.size:=⟨_,rfl⟩
    have HW5:=zh hw5
    have HGP:=zh hgp
    have HM5:=zh (HM4.out.trans m5)
    have HP5:=zh (show w5.heap[gp]? = some (.cells #[.slice oa xs.length oc] 42 (0,0)) by rw [hw5,hgp];exact heap_alloc_new w4 _)
    have HS5:=zh (show Sl w5 No 49 (.slice oa xs.length oc) xs.length (xs.flatMap PnX.cells) from hsl.kn m5)
    have HPO5:=zh (show ∀ x ∈ xs,PnS w5 x from fun x hx=>⟨((hpo x hx).no m5).sum,((hpo x hx).no m5).small,.of ((hpo x hx).no m5).pre⟩)
    have HG5:=zh ((hm4.trans m5).keep HGM.out (fun f=>f))
    have H05:=zh ((hm4.trans m5).keep H03.out (fun f=>f))
    obtain ⟨ys,hys,hyo,hyl⟩:=NdsAt.keep HN3.out (hm4.trans m5) (Apart.no _ _)
    obtain ⟨n,hn⟩:∃ n,n=mf.needs.length:=⟨_,rfl⟩
    have hyn:ys.length=n:=by rw [hn,<- hys,List.length_map]
    rw [<- hn] at hyl HG5
    rw [<- hn]
    have hn20:n<=20:=by have:=HOK.out.few;omega
    have HYS:=zh hys
    have HYO:=zh hyo
    have HYL:=zh hyl
    have HYN:=zh hyn
    have hxl:xs.length<=1000000:=by omega
    have d5:w5.cell? ⟨gm,5,none⟩=some (.slice na n nc):=cell_ofA HG5.out rfl
    have HXF:=zh (HCF.out xs hxl gp (.slice oa xs.length oc))
    have HXL:=zh hxl
    have HRR:=zh (show r=(mf.needs.all (metB ps) && (fs.map fun f=>f.f.path).all fun x=>ps.any fun p=>withinB x p.name) from HB.out)
    obtain ⟨xn,hxn⟩:∃ n,n=xs.length:=⟨_,rfl⟩
    rw [<- hxn] at HXF HS5 HP5 HW5
    rw [<- hxn]
    have HXN:=zh hxn
    clear hm4 m5 hw5 hgp hsl hpo hys hyo hyl hn hl2 hxp HCF HB HLW b1 HN3 HGM H03 hxl hxn
    go_upto_region 5 with fail
    rw [<- HW5.out,<- HGP.out]
    go_wp2_with fail
    go_loopw [46] (fun u wr=>∃ k:Nat,k<=n/\u=.int .i64 (k:Int)/\Mod No w5 wr/\∀ i (hi:i < ys.length),i < k->metB ps ys[i].n=true) (fun u _=>n - (intOf u).toNat)
    case atStart=>exact ⟨0,by omega,rfl,Mod.refl _ _,fun i _ hi=>absurd hi (by omega)⟩
    case round =>
     obtain ⟨k,hk,rfl,hmo,hall⟩:=hrel
     have HMO:=zh hmo
     have HALL:=zh hall
     have hk0:(0:Int)<=(k:Int):=Int.natCast_nonneg _
     clear hmo hall
     by_cases hlt:k < n
     ·have hk1:(k:Int) < (n:Int):=by omega
      have hky:k < ys.length:=by omega
      obtain ⟨b,o,c,hvs,_⟩:=HYL.out.shape (by omega)
      cases hvs
      have hrg:=HMO.out.rangeAt (Sl.at NdX.cells_length HYL.out hky) (fun f=>f)
      have HRG:=zh hrg
      have hyk:=HYO.out ys[k] (List.getElem_mem hky)
      have hsk:=HOK.out.nds ys[k].n (by rw [<- HYS.out];exact List.mem_map.2 ⟨_,List.getElem_mem hky,rfl⟩)
      have HMETF:=zh (fun (h:metB ps ys[k].n=false)=>show r=false by
       rw [HRR.out]
       have:mf.needs.all (metB ps)=false:=by
        rw [<- Bool.not_eq_true]
        intro ha
        have:=List.all_eq_true.1 ha ys[k].n (by rw [<- HYS.out];exact List.mem_map.2 ⟨_,List.getElem_mem hky,rfl⟩)
        rw [h] at this;cases this
       rw [this];rfl)
      have HMETT:=zh (fun (h:metB ps ys[k].n=true)=>show ∀ i (hi:i < ys.length),i < k+1->metB ps ys[i].n=true from fun i hi hik=>by
       rcases Nat.lt_or_ge i k with h3 | h3
       ·exact HALL.out i hi h3
       ·obtain rfl:i=k:=by omega
        exact h)
      have HMT:=zh (fun (W:World) (hW:Mod No w5 W)=>met_any ys[k] xs HXL.out (.slice oa xn oc) W hsk (hyk.keep hW (Apart.no _ _)) (fun x hx=>(HPO5.out x hx).keep hW) (by rw [<- HXN.out];exact HS5.out.kn hW))
      obtain ⟨zs,-,-,hz3⟩:=hyk
      obtain ⟨za,zc,hzv⟩:=hz3.len
      clear hrg hz3 hsk HALL
      generalize ys[k]=y at *
      obtain ⟨⟨yn,⟨ya,yo⟩,yt⟩,yov⟩:=y
      dsimp only at hzv HMT HMETF HMETT
      subst hzv
      generalize yo.length=zm at *
      rw [HXP.out] at HMT
      unfold NdX.cells strV at *
      dsimp only at *
      generalize (⟨yn.toArray⟩:ByteArray)=YA at *
      generalize (⟨yt.toArray⟩:ByteArray)=YT at *
      go_upto_region 10 with (refine wpList_load_mid rfl 113 _ rfl b (o+k*4) rfl [.string YA,.bool ya,.slice za zm zc,.string YT] _ HRG.out (underlying113) rfl (by kernel_rfl) ?_)
      obtain ⟨gb,hgb⟩:∃ g,g=wr.heap.size:=⟨_,rfl⟩
      rw [<- hgb]
      generalize hw6:World.alloc wr _=w6
      have h6:w6.heap[gb]? = some (.cells #[.string YA,.bool ya,.slice za zm zc,.string YT] 113 (0,0)):=by rw [<- hw6,hgb];exact heap_alloc_new wr _
      have hm6:Mod No w5 w6:=by rw [<- hw6];exact HMO.out.alloc _
      obtain ⟨⟨c0,c1,c2,c3⟩,-⟩:=cells4 h6
      have e0:w6.cell? ⟨gp,0,none⟩=some (.slice oa xn oc):=cell_ofA (hm6.keep HP5.out (fun f=>f)) rfl
      have HMW6:=zh (HMT.out w6 hm6)
      have HM6:=zh hm6
      clear hw6 h6 hm6 hgb HMT
      go_wp2_with fail
      with_reducible refine HMW6.out.mono ?_
      rintro e w7 ⟨rfl,hm7⟩
      have HM7:=zh (HM6.out.trans hm7)
      clear hm7 HMW6 c0 c1 c2 c3 e0
      generalize metB ps _=bm at *
      rcases bm with _ | _
      ·have HR:=zh (HMETF.out rfl)
       have HMZ:=zh (HM5.out.trans HM7.out)
       go_wp2_with fail
       refine fin hR ⟨bool_ret ?_,HMZ.out⟩
       rw [HR.out]
      ·have HA:=zh (HMETT.out rfl)
       go_wp2_with fail
       exact ⟨⟨k+1,by omega,rfl,HM7.out,HA.out⟩,by show n - ((k:Int)+1).toNat < n - (k:Int).toNat;omega⟩
     ·obtain rfl:k=n:=by omega
      have hk1:¬ ((k:Int) < (k:Int)):=by omega
      have HNA:=zh (show mf.needs.all (metB ps)=true by
       rw [<- HYS.out,List.all_map,List.all_eq_true]
       intro y hy
       obtain ⟨i,hi,rfl⟩:=List.getElem_of_mem hy
       exact HALL.out i hi (by rw [<- HYN.out];exact hi))
      have HR:=zh (show r = !(fs.any fun f=>!(xs.any fun x=>withinB f.f.path x.p.name)) by
       rw [HRR.out,HNA.out,Bool.true_and,all_not_any (fun f:FlX=>xs.any fun x=>withinB f.f.path x.p.name) fs,Bool.not_not,List.all_map,<- HXP.out]
       congr 1
       funext f
       show (List.map PnX.p xs).any (fun p=>withinB f.f.path p.name)=_
       rw [List.any_map]
       rfl)
      have HCW:=zh (HXF.out wr (HM5.out.trans HMO.out) (fun x hx=>⟨(HPO5.out x hx).keep HMO.out,HLN.out _ (by rw [<- HXP.out];exact List.mem_map.2 ⟨x,hx,rfl⟩)⟩) (HS5.out.kn HMO.out) (HMO.out.keep HP5.out (fun f=>f)))
      have a3:wr.cell? ⟨gx,3,none⟩=some (.slice ta fn tc):=cell_ofA (HMO.out.keep H05.out (fun f=>f)) rfl
      have HMZ:=zh (HM5.out.trans HMO.out)
      clear HXF HRR HNA HALL
      generalize (fs.any fun f=>!(xs.any fun x=>withinB f.f.path x.p.name))=rf at *
      go_wp2_with fail
      with_reducible refine HCW.out.mono ?_
      rintro e w7 ⟨rfl,hm7⟩
      have HM7:=zh (HMZ.out.trans hm7)
      clear hm7 HCW a3
      go_wp2_with fail
      refine fin hR ⟨bool_ret ?_,HM7.out⟩
      rw [HR.out]
end Go.Proofs.YtmppeipgjcjdkaaGreatDoor
