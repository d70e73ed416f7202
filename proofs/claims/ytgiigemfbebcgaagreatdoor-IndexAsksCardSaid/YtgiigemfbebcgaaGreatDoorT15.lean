/-
  Layers 0 to 14: helps of the laws of indexes. No statement is proved here; no condition.
-/
import Derived.Test.YtgiigemfbebcgaaGreatDoorT07
import Derived.Test.YtgiigemfbebcgaaGreatDoorT12
import Derived.Test.YtgiigemfbebcgaaGreatDoorT13
import Derived.Test.YtgiigemfbebcgaaGreatDoorT14
import Derived.Test.YtgiigemfbebcgaaGreatDoorT10
namespace Go.Proofs.YtgiigemfbebcgaaGreatDoor
open _root_.Go.Proofs.Tryz
open Go.RowKit Go.Sort
theorem kept_good (l:List SRow) (h4:∀ r ∈ l,r.needs.length<=4):(∀ r ∈ (keptK [] l).map rowK,GoodR r)/\Fresh [] ((keptK [] l).map rowK)/\((keptK [] l).map rowK).length<=l.length:=by
 have h:=made_good smK szK l [] (fun r hr=>by
  have h1:=rowK_facts r (by have:=h4 r hr;omega)
  exact ⟨h1.1,h1.2.1,h1.2.2.1,h1.2.2.2⟩) (fun _ h=>by cases h) trivial
 have e:=kept_made l []
 rw [List.map_nil] at e
 rw [e] at h
 simpa using h
theorem kept_told (l:List SRow) (hl:l.length<=20) (h4:∀ r ∈ l,r.needs.length<=4):indexL (indexT ((keptK [] l).map rowK))=.inl ((keptK [] l).map rowK):=by
 obtain ⟨h1,h2,h3⟩:=kept_good l h4
 have h5:=kept_text l hl h4
 exact index_told h1 h2 (by omega) (by omega)
def kr0:SRow:=⟨0,0,[7],0,0⟩
def kr1:SRow:=⟨0,2,[],0,0⟩
def nameA:List UInt8:=[97]
theorem kr_name:(rowK kr0).name=nameA/\(rowK kr1).name=nameA:=by decide +kernel
theorem kr_ver:(rowK kr0).v=⟨1,0,0,[]⟩/\(rowK kr1).v=⟨2,0,0,[]⟩:=⟨rfl,rfl⟩
theorem kr_needs:(rowK kr0).needs.length=1/\(rowK kr1).needs.length=0:=by decide +kernel
theorem kr_size:(rowK kr0).size < 100/\(rowK kr1).size < 100/\0<=(rowK kr0).size/\0<=(rowK kr1).size:=by decide +kernel
theorem ver01:verC ⟨1,0,0,[]⟩ ⟨2,0,0,[]⟩ = -1:=by decide +kernel
theorem ver11:verC ⟨2,0,0,[]⟩ ⟨2,0,0,[]⟩=0:=by decide +kernel
theorem kr_none:atL [rowK kr0] nameA ⟨2,0,0,[]⟩=none:=by
 unfold atL
 rw [List.findIdx?_cons,if_neg (by rw [kr_ver.1,ver01];simp)]
 rfl
theorem kr_kept:keptK [] [kr0,kr1]=[kr0,kr1]:=by
 have h1:(atL (([]:List SRow).map rowK) (nameK kr0.n) (verK kr0.v)).isSome=false:=rfl
 have e1:keptK [] [kr0,kr1]=keptK [kr0] [kr1]:=by
  rw [keptK,if_neg (by rw [h1];simp)]
  rfl
 have h2:(atL ([kr0].map rowK) (nameK kr1.n) (verK kr1.v)).isSome=false:=by
  rw [show nameK kr1.n=nameA from by decide +kernel,show verK kr1.v=⟨2,0,0,[]⟩ from rfl,List.map_cons,List.map_nil,kr_none]
  rfl
 rw [e1,keptK,if_neg (by rw [h2];simp)]
 rfl
theorem kr_at:atL [rowK kr0,rowK kr1] nameA ⟨2,0,0,[]⟩=some 1:=by
 unfold atL
 rw [List.findIdx?_cons,if_neg (by rw [kr_ver.1,ver01];simp),List.findIdx?_cons,if_pos (by rw [kr_ver.2,ver11,kr_name.2];simp)]
 rfl
theorem kr_needline:indexL [110,101,101,100,32,97,32,42,10]=.inr 1:=by rfl
theorem kr_vers {xs:List RwX} (h:xs.map RwX.r=[rowK kr0,rowK kr1]):(sortR ltVx (versOf nameA xs)).map VrX.v=[⟨2,0,0,[]⟩,⟨1,0,0,[]⟩]:=by
 obtain ⟨x,y,rfl⟩:∃ x y,xs=[x,y]:=by
  match xs,h with
  | [],h=>simp at h
  | [x],h=>simp at h
  | [x,y],_=>exact ⟨x,y,rfl⟩
  | x :: y :: z :: r,h=>simp at h
 simp only [List.map_cons,List.map_nil,List.cons.injEq,and_true] at h
 have e:versOf nameA [x,y]=[⟨x.r.v,x.pv⟩,⟨y.r.v,y.pv⟩]:=by
  unfold versOf
  rw [List.filter_cons,if_pos (by rw [h.1,kr_name.1];simp),List.filter_cons,if_pos (by rw [h.2,kr_name.2];simp)]
  rfl
 rw [e,h.1,h.2,kr_ver.1,kr_ver.2]
 have hl:ltVx ⟨⟨2,0,0,[]⟩,y.pv⟩ ⟨⟨1,0,0,[]⟩,x.pv⟩=true:=by
  unfold ltVx
  rw [ver01]
  rfl
 unfold sortR insR
 simp [hl]
theorem kr_names {out:List (List UInt8)} (ha:Asc out) (h:∀ y,y ∈ out ↔ y ∈ [rowK kr0,rowK kr1].map Rw.name):out=[nameA]:=by
 refine asc_unique _ _ ha (show Asc [nameA] from List.pairwise_singleton _ _) fun y=>?_
 rw [h y]
 simp [kr_name.1,kr_name.2]
structure MG (w w':World):Prop extends Mod No w w' where
 dr:w.drawn<=w'.drawn
theorem MG.refl (w:World):MG w w:=⟨Mod.refl _ _,Nat.le_refl _⟩
theorem MG.trans {a b c:World} (h:MG a b) (k:MG b c):MG a c:=⟨h.toMod.trans k.toMod,Nat.le_trans h.dr k.dr⟩
theorem MG.alloc {a w:World} (h:MG a w) (o:Obj):MG a (w.alloc o):=⟨h.toMod.alloc o,h.dr⟩
theorem MG.drew {a w:World} (h:MG a w):MG a w.drew:=⟨h.toMod.drew,Nat.le_trans h.dr (Nat.le_succ _)⟩
theorem MG.drewN {a w:World} (h:MG a w) (n:Nat):MG a (w.drewN n):=⟨h.toMod.drewN n,Nat.le_trans h.dr (Nat.le_add_right _ _)⟩
theorem MG.gr {w w':World} (h:MG w w'):Gr w w':=by
 obtain ⟨⟨h1,h2,h3,h4,h5⟩,h6⟩:=h
 refine ⟨w'.drawn - w.drawn,w'.heap.extract w.heap.size w'.heap.size,?_⟩
 obtain ⟨hp,tp,dr,os,ou⟩:=w'
 dsimp only at *
 subst h1
 subst h2
 subst h3
 show _=World.mk _ _ _ _ _
 congr 1
 ·show hp=w.heap++hp.extract w.heap.size hp.size
  apply Array.ext
  ·simp;omega
  ·intro i hi1 hi2
   by_cases h:i < w.heap.size
   ·rw [Array.getElem_append_left h]
    have h7:=h5 i h (fun f=>f)
    rw [Array.getElem?_eq_getElem hi1,Array.getElem?_eq_getElem h] at h7
    exact Option.some.inj h7
   ·rw [Array.getElem_append_right (by omega)]
    rw [Array.getElem_extract]
    congr 1
    omega
 ·show dr=w.drawn+(dr - w.drawn)
  omega
set_option maxRecDepth 100000 in
set_option maxHeartbeats 4000000 in
theorem marks_gr (a b:List UInt8) (ha:a.length<=1000000) (hb:b.length<=1000000) (w:World) :
  Calls prog 95 #[strV a,strV b] w fun e w'=>e=.returned (.int .i64 (markC a b))/\MG w w':=by
 refine calls_hide fun R hR=>?_
 have HDA:=zh (digits_any a ha)
 have HDB:=zh (digits_any b hb)
 have HCS:=zh (compareS_any a b)
 have HCN:=zh (compareN_any (a.length:Int) (b.length:Int))
 have HOR:=zh (show ∀ w:World,Calls prog 92 #[.slice (some ⟨w.heap.size,0,none⟩) 2 2] (w.alloc (.cells #[.int .i64 (cmpN a.length b.length),.int .i64 (cmpL a b)] 3)) fun e w'=>e=.returned (.int .i64 (orI [cmpN a.length b.length,cmpL a b]))/\w'=w.alloc (.cells #[.int .i64 (cmpN a.length b.length),.int .i64 (cmpL a b)] 3) from fun w=>or_any [cmpN a.length b.length,cmpL a b] (by simp) _ _ (ints_sl w [cmpN a.length b.length,cmpL a b] (by simp)))
 have HM:markC a b=if digitsB a && digitsB b then orI [cmpN a.length b.length,cmpL a b] else if digitsB a then -1 else if digitsB b then 1 else cmpL a b:=rfl
 have HMH:=zh HM
 clear HM
 unfold strV at *
 have hza:((⟨a.toArray⟩:ByteArray).size:Int)=(a.length:Int):=by rw [str_len3]
 have hzb:((⟨b.toArray⟩:ByteArray).size:Int)=(b.length:Int):=by rw [str_len3]
 generalize (⟨a.toArray⟩:ByteArray)=A at *
 generalize (⟨b.toArray⟩:ByteArray)=B at *
 generalize cmpN a.length b.length=cn at *
 generalize cmpL a b=cl at *
 generalize digitsB a=da at *
 generalize digitsB b=db at *
 go_enter func95,ntmps95
 go_wp2_with fail
 with_reducible refine (HDA.out _).mono ?_
 rintro e w1 ⟨rfl,rfl⟩
 go_wp2_with fail
 with_reducible refine (HDB.out _).mono ?_
 rintro e w1 ⟨rfl,rfl⟩
 rcases da with _ | _
 ·rcases db with _ | _
  ·go_wp2_with fail
   with_reducible refine (HCS.out _).mono ?_
   rintro e w1 ⟨rfl,rfl⟩
   go_wp2_with fail
   exact fin hR ⟨by rw [HMH.out];rfl,MG.refl _⟩
  ·go_wp2_with fail
   exact fin hR ⟨by rw [HMH.out];rfl,MG.refl _⟩
 ·rcases db with _ | _
  ·go_wp2_with fail
   exact fin hR ⟨by rw [HMH.out];rfl,MG.refl _⟩
  ·go_wp2_with fail
   with_reducible refine (HCN.out _).mono ?_
   rintro e w1 ⟨rfl,rfl⟩
   go_wp2_with fail
   with_reducible refine (HCS.out _).mono ?_
   rintro e w1 ⟨rfl,rfl⟩
   go_wp2_with fail
   with_reducible refine (HOR.out _).mono ?_
   rintro e w2 ⟨rfl,rfl⟩
   go_wp2_with fail
   exact fin hR ⟨by rw [HMH.out];rfl,(MG.refl _).alloc _⟩
set_option maxRecDepth 100000 in
set_option maxHeartbeats 4000000 in
theorem compmarks_gr (xs ys:List (List UInt8)) (hx:xs.length<=1000000) (hy:ys.length<=1000000) (hxl:∀ x ∈ xs,x.length<=1000000) (hyl:∀ y ∈ ys,y.length<=1000000) (v u:Value) (w:World) (hv:SvX w No v xs.length (strs xs)) (hu:SvX w No u ys.length (strs ys)) :
  Calls prog 94 #[v,u,.func (.func 95) #[] #[]] w fun e w'=>e=.returned (.int .i64 (preC xs ys))/\MG w w':=by
 refine calls_hide fun R hR=>?_
 obtain ⟨va,vc,rfl⟩:=hv.len
 obtain ⟨ua,uc,rfl⟩:=hu.len
 have HV:=zh hv
 have HU:=zh hu
 have HMK:=zh (fun i (hi:i < xs.length) (hj:i < ys.length)=>marks_gr xs[i] ys[i] (hxl _ (List.getElem_mem hi)) (hyl _ (List.getElem_mem hj)))
 clear hv hu hxl hyl
 have eg:∀ args w,(callFunc 95 args).run prog w=.ok (.enter 95 args) w:=fun _ _=>rfl
 go_enter func94,ntmps94
 go_wp2_with fail
 go_loopw [13] (fun q wr=>∃ k:Nat,k<=xs.length/\k<=ys.length/\q=.int .i64 k/\MG w wr/\∀ i (h1:i < xs.length) (h2:i < ys.length),i < k->markC xs[i] ys[i]=0) (fun q _=>xs.length - (intOf q).toNat)
 case atStart=>exact ⟨0,by omega,by omega,rfl,MG.refl _,fun i _ _ hi=>absurd hi (by omega)⟩
 case round =>
  obtain ⟨k,hk,hky,rfl,hmod,hno⟩:=hrel
  have HM:=zh hmod
  have HNO:=zh hno
  have hk0:(0:Int)<=(k:Int):=Int.natCast_nonneg _
  clear hmod hno
  by_cases hlt:k < xs.length
  ·have hk1:(k:Int) < (xs.length:Int):=by omega
   obtain ⟨b,o,c,hvs,_⟩:=HV.out.shape (by omega)
   cases hvs
   have hcell:=HM.out.cell (HV.out.cellN (i:=k) (by rw [strs_length];exact hlt)) (fun f=>f)
   rw [show (strs xs)[k]'(by rw [strs_length];exact hlt)=.string ⟨xs[k].toArray⟩ from by simp [strs,strV]] at hcell
   by_cases hly:k < ys.length
   ·have hk2:(k:Int) < (ys.length:Int):=by omega
    obtain ⟨b2,o2,c2,hus,_⟩:=HU.out.shape (by omega)
    cases hus
    have hcell2:=HM.out.cell (HU.out.cellN (i:=k) (by rw [strs_length];exact hly)) (fun f=>f)
    rw [show (strs ys)[k]'(by rw [strs_length];exact hly)=.string ⟨ys[k].toArray⟩ from by simp [strs,strV]] at hcell2
    have HC:=zh (HMK.out k hlt hly)
    have HN:=zh (show markC xs[k] ys[k]=0->∀ i (h1:i < xs.length) (h2:i < ys.length),i < k+1->markC xs[i] ys[i]=0 from fun h i h1 h2 hik=>by
     rcases Nat.lt_or_ge i k with h3 | h3
     ·exact HNO.out i h1 h2 h3
     ·obtain rfl:i=k:=by omega
      exact h)
    have HH:=zh (show markC xs[k] ys[k] ≠ 0->preC xs ys=markC xs[k] ys[k] from fun h=>preC_hit hlt hly HNO.out h)
    clear HNO
    go_wp2_with fail
    with_reducible refine (HC.out _).mono ?_
    rintro e w2 ⟨rfl,hm2⟩
    have HM2:=zh (HM.out.trans hm2)
    clear hm2
    generalize markC xs[k] ys[k]=mk at *
    by_cases h0:mk=0
    ·subst h0
     have hn:=HN.out rfl
     have HN2:=zh hn
     clear hn HN HH
     go_wp2_with fail
     exact ⟨⟨k+1,by omega,by omega,rfl,HM2.out,HN2.out⟩,by show xs.length - ((k:Int)+1).toNat < xs.length - (k:Int).toNat;omega⟩
    ·have h0b:(mk != 0)=true:=by simpa using h0
     have HH2:=zh (HH.out h0)
     clear HN HH
     go_wp2_with fail
     exact fin hR ⟨(by rw [HH2.out];try rfl),HM2.out⟩
   ·have hk2:(ys.length:Int)<=(k:Int):=by omega
    have HE:=zh (preC_end (k:=k) hk hky (.inr (by omega)) HNO.out)
    have hc:cmpN (xs.length:Int) (ys.length:Int)=1:=by unfold cmpN;rw [if_neg (by omega),if_pos (by omega)]
    rw [hc] at HE
    clear HNO
    go_wp2_with fail
    exact fin hR ⟨(by rw [HE.out];try rfl),HM.out⟩
  ·have HE:=zh (preC_end (k:=k) hk hky (.inl (by omega)) HNO.out)
   clear HNO
   by_cases hly:xs.length < ys.length
   ·have hl2:(xs.length:Int) < (ys.length:Int):=by omega
    have hc:cmpN (xs.length:Int) (ys.length:Int) = -1:=if_pos hl2
    rw [hc] at HE
    go_wp2_with fail
    exact fin hR ⟨(by rw [HE.out];try rfl),HM.out⟩
   ·have hl2:¬ (xs.length:Int) < (ys.length:Int):=by omega
    have hc:cmpN (xs.length:Int) (ys.length:Int)=0:=by unfold cmpN;rw [if_neg hl2,if_neg (by omega)]
    rw [hc] at HE
    go_wp2_with fail
    exact fin hR ⟨(by rw [HE.out];try rfl),HM.out⟩
set_option maxRecDepth 100000 in
set_option maxHeartbeats 8000000 in
theorem vercmp_gr (a b:Ver) (ha:Small a) (hb:Small b) (pa pb:Value) (w:World) (hpa:SvX w No pa a.pre.length (strs a.pre)) (hpb:SvX w No pb b.pre.length (strs b.pre)) :
  Calls prog 59 #[verV a pa,verV b pb] w fun e w'=>e=.returned (.int .i64 (verC a b))/\MG w w':=by
 refine calls_hide fun R hR=>?_
 obtain ⟨a0,a1,a2,as'⟩:=a
 obtain ⟨b0,b1,b2,bs'⟩:=b
 obtain ⟨va,vc,rfl⟩:=hpa.len
 obtain ⟨ua,uc,rfl⟩:=hpb.len
 have HPA:=zh hpa
 have HPB:=zh hpb
 have HCN:=zh compareN_any
 have HOR:=zh (show ∀ w:World,Calls prog 92 #[.slice (some ⟨w.heap.size,0,none⟩) 3 3] (w.alloc (.cells #[.int .i64 (cmpN a0 b0),.int .i64 (cmpN a1 b1),.int .i64 (cmpN a2 b2)] 3)) fun e w'=>e=.returned (.int .i64 (orI [cmpN a0 b0,cmpN a1 b1,cmpN a2 b2]))/\w'=w.alloc (.cells #[.int .i64 (cmpN a0 b0),.int .i64 (cmpN a1 b1),.int .i64 (cmpN a2 b2)] 3) from fun w=>or_any [cmpN a0 b0,cmpN a1 b1,cmpN a2 b2] (by simp) _ _ (ints_sl w [cmpN a0 b0,cmpN a1 b1,cmpN a2 b2] (by simp)))
 have HCM:=zh (fun (w:World) h1 h2=>compmarks_gr as' bs' ha.len hb.len ha.each hb.each (.slice va as'.length vc) (.slice ua bs'.length uc) w h1 h2)
 have HVC:=zh (show verC ⟨a0,a1,a2,as'⟩ ⟨b0,b1,b2,bs'⟩=if orI [cmpN a0 b0,cmpN a1 b1,cmpN a2 b2]=0 then if as'=[]\/bs'=[] then cmpN bs'.length as'.length else preC as' bs' else orI [cmpN a0 b0,cmpN a1 b1,cmpN a2 b2] from rfl)
 clear hpa hpb ha hb
 unfold verV at *
 dsimp only at *
 go_enter func59,ntmps59
 go_upto_region 1 with fail
 obtain ⟨gx,hgx⟩:∃ g,g=w.heap.size:=⟨_,rfl⟩
 obtain ⟨gy,hgy⟩:∃ g,g=gx+1:=⟨_,rfl⟩
 rw [<- hgx,<- hgy]
 obtain ⟨wA,hwA⟩:∃ z,z=((w.alloc (.cells #[.int .i64 a0,.int .i64 a1,.int .i64 a2,.slice va as'.length vc] 40)).alloc (.cells #[.int .i64 b0,.int .i64 b1,.int .i64 b2,.slice ua bs'.length uc] 40)).drew:=⟨_,rfl⟩
 have hx1:wA.heap[gx]? = some (.cells #[.int .i64 a0,.int .i64 a1,.int .i64 a2,.slice va as'.length vc] 40 (0,0)):=by rw [hwA,hgx];exact ((MG.refl _).alloc _).drew.keep (heap_alloc_new w _) (fun f=>f)
 have hy1:wA.heap[gy]? = some (.cells #[.int .i64 b0,.int .i64 b1,.int .i64 b2,.slice ua bs'.length uc] 40 (0,0)):=by
  rw [hwA,hgy,hgx]
  have h1:=heap_alloc_new (w.alloc (.cells #[.int .i64 a0,.int .i64 a1,.int .i64 a2,.slice va as'.length vc] 40)) (.cells #[.int .i64 b0,.int .i64 b1,.int .i64 b2,.slice ua bs'.length uc] 40)
  rw [show (w.alloc (.cells #[.int .i64 a0,.int .i64 a1,.int .i64 a2,.slice va as'.length vc] 40)).heap.size=w.heap.size+1 by simp] at h1
  exact h1
 have HMA:=zh (show MG w wA by rw [hwA];exact (((MG.refl w).alloc _).alloc _).drew)
 have HWA:=zh hwA
 clear hwA hgx hgy
 have HSM:=zh (show ∀ w',MG wA w'->w'.cell? ⟨gx,0,none⟩=some (.int .i64 a0)/\w'.cell? ⟨gx,1,none⟩=some (.int .i64 a1)/\w'.cell? ⟨gx,2,none⟩=some (.int .i64 a2)/\w'.cell? ⟨gy,0,none⟩=some (.int .i64 b0)/\w'.cell? ⟨gy,1,none⟩=some (.int .i64 b1)/\w'.cell? ⟨gy,2,none⟩=some (.int .i64 b2) from fun w' hm =>
  ⟨cell_ofA (hm.keep hx1 (fun f=>f)) rfl,cell_ofA (hm.keep hx1 (fun f=>f)) rfl,cell_ofA (hm.keep hx1 (fun f=>f)) rfl,cell_ofA (hm.keep hy1 (fun f=>f)) rfl,cell_ofA (hm.keep hy1 (fun f=>f)) rfl,cell_ofA (hm.keep hy1 (fun f=>f)) rfl⟩)
 have hS0:=HSM.out wA (MG.refl _)
 have HX1:=zh hx1
 have HY1:=zh hy1
 clear hx1 hy1
 refine wp_region_T (fun w'=>w'.cell? ⟨gx,0,none⟩=some (.int .i64 a0)/\w'.cell? ⟨gx,1,none⟩=some (.int .i64 a1)/\w'.cell? ⟨gx,2,none⟩=some (.int .i64 a2)/\w'.cell? ⟨gy,0,none⟩=some (.int .i64 b0)/\w'.cell? ⟨gy,1,none⟩=some (.int .i64 b1)/\w'.cell? ⟨gy,2,none⟩=some (.int .i64 b2)) 99 (by kernel_rfl) ?_
 rw [<- HWA.out]
 clear HWA
 refine yT 0 (some 6) ?_ hS0 ?_ ?_
 rotate_left
 ·(intro w' hSw;obtain ⟨c0,c1,c2,c3,c4,c5⟩:=hSw;go_simp;try with_reducible rfl)
 simp only [Act.put,yB,yC,yD]
 refine yT 1 (some 7) ?_ hS0 ?_ ?_
 rotate_left
 ·(intro w' hSw;obtain ⟨c0,c1,c2,c3,c4,c5⟩:=hSw;go_simp;try with_reducible rfl)
 simp only [Act.put,yB,yC,yD]
 refine yT 2 (some 8) ?_ hS0 ?_ ?_
 rotate_left
 ·(intro w' hSw;obtain ⟨c0,c1,c2,c3,c4,c5⟩:=hSw;go_simp;try with_reducible rfl)
 simp only [Act.put,yB,yC,yD]
 refine yT 3 (some 9) ?_ hS0 ?_ ?_
 rotate_left
 ·(intro w' hSw;obtain ⟨c0,c1,c2,c3,c4,c5⟩:=hSw;go_simp;try with_reducible rfl)
 simp only [Act.put,yB,yC,yD]
 refine yT 5 (some 11) ?_ hS0 ?_ ?_
 rotate_left
 ·(intro w' hSw;obtain ⟨c0,c1,c2,c3,c4,c5⟩:=hSw;go_simp;try with_reducible rfl)
 simp only [Act.put,yB,yC,yD]
 refine yT 6 (some 12) ?_ hS0 ?_ ?_
 rotate_left
 ·(intro w' hSw;obtain ⟨c0,c1,c2,c3,c4,c5⟩:=hSw;go_simp;try with_reducible rfl)
 simp only [Act.put,yB,yC,yD]
 refine yT 7 (some 13) ?_ hS0 ?_ ?_
 rotate_left
 ·(intro w' hSw;obtain ⟨c0,c1,c2,c3,c4,c5⟩:=hSw;go_simp;try with_reducible rfl)
 simp only [Act.put,yB,yC,yD]
 refine yT 8 (some 14) ?_ hS0 ?_ ?_
 rotate_left
 ·(intro w' hSw;obtain ⟨c0,c1,c2,c3,c4,c5⟩:=hSw;go_simp;try with_reducible rfl)
 simp only [Act.put,yB,yC,yD]
 refine yT 10 (some 16) ?_ hS0 ?_ ?_
 rotate_left
 ·(intro w' hSw;obtain ⟨c0,c1,c2,c3,c4,c5⟩:=hSw;go_simp;try with_reducible rfl)
 simp only [Act.put,yB,yC,yD]
 refine yT 11 (some 17) ?_ hS0 ?_ ?_
 rotate_left
 ·(intro w' hSw;obtain ⟨c0,c1,c2,c3,c4,c5⟩:=hSw;go_simp;try with_reducible rfl)
 simp only [Act.put,yB,yC,yD]
 refine yT 12 (some 18) ?_ hS0 ?_ ?_
 rotate_left
 ·(intro w' hSw;obtain ⟨c0,c1,c2,c3,c4,c5⟩:=hSw;go_simp;try with_reducible rfl)
 simp only [Act.put,yB,yC,yD]
 refine yT 13 (some 19) ?_ hS0 ?_ ?_
 rotate_left
 ·(intro w' hSw;obtain ⟨c0,c1,c2,c3,c4,c5⟩:=hSw;go_simp;try with_reducible rfl)
 simp only [Act.put,yB,yC,yD]
 refine wpAnyT_one 4 rfl (by kernel_rfl) rfl ?_
 intro K hK
 go_simp
 go_at_call 93
 with_reducible refine (HCN.out a0 b0 _).mono ?_
 rintro e wB ⟨rfl,hB⟩
 rw [hB]
 clear hB wB
 show K _ _
 have hS1:=hS0
 refine hK.out _ _ (fun _=>hS1) ?_
 clear hK K
 refine wpAnyT_one 9 rfl (by kernel_rfl) rfl ?_
 intro K hK
 go_simp
 go_at_call 93
 with_reducible refine (HCN.out a1 b1 _).mono ?_
 rintro e wB ⟨rfl,hB⟩
 rw [hB]
 clear hB wB
 show K _ _
 have hS2:=hS0
 refine hK.out _ _ (fun _=>hS2) ?_
 clear hK K
 refine wpAnyT_one 14 rfl (by kernel_rfl) rfl ?_
 intro K hK
 go_simp
 go_at_call 93
 with_reducible refine (HCN.out a2 b2 _).mono ?_
 rintro e wB ⟨rfl,hB⟩
 rw [hB]
 clear hB wB
 show K _ _
 have hS3:=hS0
 refine hK.out _ _ (fun _=>hS3) ?_
 clear hK K
 refine wpAnyT_one 15 rfl (by kernel_rfl) rfl ?_
 intro K hK
 go_simp
 show K _ _
 have hS4:=HSM.out (wA.alloc (.cells #[.int .i64 (cmpN a0 b0),.int .i64 (cmpN a1 b1),.int .i64 (cmpN a2 b2)] 3)) ((MG.refl wA).alloc _)
 refine hK.out _ _ (fun _=>hS4) ?_
 clear hK K
 refine wpAnyT_one 16 rfl (by kernel_rfl) rfl ?_
 intro K hK
 go_simp
 go_at_call 92
 with_reducible refine (HOR.out wA).mono ?_
 rintro e wB ⟨rfl,hB⟩
 rw [hB]
 clear hB wB
 show K _ _
 have hS5:=HSM.out (wA.alloc (.cells #[.int .i64 (cmpN a0 b0),.int .i64 (cmpN a1 b1),.int .i64 (cmpN a2 b2)] 3)) ((MG.refl wA).alloc _)
 refine hK.out _ _ (fun _=>hS5) ?_
 clear hK K
 refine yT 17 (some 5) ?_ hS5 ?_ ?_
 rotate_left
 ·(intro w' hSw;obtain ⟨c0,c1,c2,c3,c4,c5⟩:=hSw;go_simp;try with_reducible rfl)
 simp only [Act.put]
 refine wpAnyT_done (by kernel_rfl) ?_ _
 obtain ⟨wC,hwC⟩:∃ z,z=wA.alloc (.cells #[.int .i64 (cmpN a0 b0),.int .i64 (cmpN a1 b1),.int .i64 (cmpN a2 b2)] 3):=⟨_,rfl⟩
 have HMC:=zh (show MG w wC by rw [hwC];exact HMA.out.alloc _)
 have hX:=heap_alloc_old (.cells #[.int .i64 (cmpN a0 b0),.int .i64 (cmpN a1 b1),.int .i64 (cmpN a2 b2)] 3) HX1.out
 have hY:=heap_alloc_old (.cells #[.int .i64 (cmpN a0 b0),.int .i64 (cmpN a1 b1),.int .i64 (cmpN a2 b2)] 3) HY1.out
 rw [<- hwC] at hX hY
 have HPA2:=zh (HPA.out.keep (S:=No) HMC.out.toMod (fun _ _ _ f=>f.elim))
 have HPB2:=zh (HPB.out.keep (S:=No) HMC.out.toMod (fun _ _ _ f=>f.elim))
 have cx:=cell_ofA (i:=3) hX rfl
 have cy:=cell_ofA (i:=3) hY rfl
 have HXY:=zh (show ∀ w',MG wC w'->w'.cell? ⟨gx,3,none⟩=some (.slice va as'.length vc)/\w'.cell? ⟨gy,3,none⟩=some (.slice ua bs'.length uc) from fun w' hm=>⟨hm.cell cx (fun f=>f),hm.cell cy (fun f=>f)⟩)
 rw [<- hwC]
 clear hwC hX hY HSM hS0 HX1 HY1 HPA HPB HMA HOR
 generalize orI [cmpN a0 b0,cmpN a1 b1,cmpN a2 b2]=o at *
 by_cases ho:o=0
 ·subst ho
  have hvc:=HVC.out
  rw [if_pos rfl] at hvc
  clear HVC
  by_cases he:as'=[]\/bs'=[]
  ·rw [if_pos he] at hvc
   have hle:as'.length=0\/bs'.length=0:=he.imp (fun h=>by rw [h];rfl) (fun h=>by rw [h];rfl)
   rw [<- cmp_sub hle] at hvc
   have HV5:=zh hvc
   clear hvc HCM he HPA2 HPB2
   generalize as'.length=la at *
   generalize bs'.length=lb at *
   by_cases hla:la=0
   ·subst hla
    go_upto_region 5 with fail
    go_quiet (first | (go_at_call 93;refine Calls.quiet_of_same (HCN.out _ _ _)))
    go_wp2_with fail
    exact fin hR ⟨(by rw [HV5.out];try rfl),HMC.out.drewN _⟩
   ·have e1:((la:Int) == 0)=false:=by simpa using hla
    obtain rfl:=hle.resolve_left hla
    go_upto_region 5 with fail
    go_quiet (first | (go_at_call 93;refine Calls.quiet_of_same (HCN.out _ _ _)))
    go_wp2_with fail
    exact fin hR ⟨(by rw [HV5.out];try rfl),HMC.out.drewN _⟩
  ·rw [if_neg he] at hvc
   have HV6:=zh hvc
   have e1:((as'.length:Int) == 0)=false:=by
    rw [beq_eq_false_iff_ne]
    intro h
    exact he (.inl (List.eq_nil_of_length_eq_zero (by omega)))
   have e2:((bs'.length:Int) == 0)=false:=by
    rw [beq_eq_false_iff_ne]
    intro h
    exact he (.inr (List.eq_nil_of_length_eq_zero (by omega)))
   have HC6:=zh (HCM.out wC HPA2.out HPB2.out)
   clear hvc HCM he
   go_wp2_with fail
   with_reducible refine HC6.out.mono ?_
   rintro e w2 ⟨rfl,hm2⟩
   have HM2:=zh (HMC.out.trans hm2)
   clear hm2
   go_wp2_with fail
   exact fin hR ⟨(by rw [HV6.out];try rfl),HM2.out⟩
 ·have hvc:=HVC.out
  rw [if_neg ho] at hvc
  have HV7:=zh hvc
  have hob:(o != 0)=true:=by simpa using ho
  clear hvc HVC
  go_wp2_with fail
  exact fin hR ⟨(by rw [HV7.out];try rfl),HMC.out⟩
set_option maxRecDepth 100000 in
theorem vless_any (x y:VrX) (w:World) (hx:Small x.v/\Sl w No 9 x.pv x.v.pre.length (strs x.v.pre)) (hy:Small y.v/\Sl w No 9 y.pv y.v.pre.length (strs y.v.pre)) :
  Calls prog 58 #[.agg x.cells.toArray,.agg y.cells.toArray] w fun e w'=>e=.returned (.int .i64 (verC y.v x.v))/\MG w w':=by
 refine calls_hide fun R hR=>?_
 obtain ⟨xa,xc,hxp⟩:=hx.2.len
 obtain ⟨ya,yc,hyp⟩:=hy.2.len
 have HC:=zh (fun W (hm:Mod No w W)=>vercmp_gr y.v x.v hy.1 hx.1 y.pv x.pv W (.of (hy.2.kn hm)) (.of (hx.2.kn hm)))
 unfold VrX.cells verV at *
 obtain ⟨⟨x0,x1,x2,xp⟩,xv⟩:=x
 obtain ⟨⟨y0,y1,y2,yp⟩,yv⟩:=y
 dsimp only at *
 subst hxp
 subst hyp
 clear hx hy
 go_enter func58,ntmps58
 go_wp2_with fail
 with_reducible refine (HC.out _ (((Mod.refl No w).alloc _).alloc _)).mono ?_
 rintro e w2 ⟨rfl,hm⟩
 have HM:=zh ((((MG.refl w).alloc _).alloc _).trans hm)
 clear hm HC
 go_wp2_with fail
 exact fin hR ⟨rfl,HM.out⟩
set_option maxRecDepth 100000 in
theorem insnoneV_any (p:Option Addr) (cap:Nat) (w:World) :
  Calls prog 127 #[.slice p 0 cap,.int .i64 0,.int .i64 0,.func (.func 58) #[] #[]] w fun e w'=>e=.returned (.tuple #[])/\w'=w:=by
 refine calls_hide fun R hR=>?_
 go_enter func127,ntmps127
 go_wp2_with fail
 go_loopw [8] (fun q wr=>q=.int .i64 1/\wr=w) (fun _ _=>0)
 case atStart=>exact ⟨rfl,rfl⟩
 case round =>
  obtain ⟨rfl,rfl⟩:=hrel
  go_wp2_with fail
  go_end0
  exact fin hR ⟨rfl,rfl⟩
def VrHeap (w:World) (p:Option Addr) (L:List VrX) (g:Nat) (rest:List Value):Prop:=(L=[])\/(p=some ⟨g,0,none⟩/\w.heap[g]? = some (.cells (L.flatMap VrX.cells++rest).toArray 40 (0,0))/\∀ x ∈ L,Small x.v/\Sl w (fun q=>q=g) 9 x.pv x.v.pre.length (strs x.v.pre))
abbrev VMem (L:List VrX):={x:VrX // x ∈ L}
def cfVr {L:List VrX} (x y:VMem L):Int:=verC y.1.v x.1.v
def SortsTo (L:List VrX) (a b:Nat) (d:List VrX):Prop:=∀ _i:Inhabited (VMem L),∃ d':List (VMem L),insertionSort (ltOf (cfVr (L:=L))) L.attach.toArray a b=d'.toArray/\d'.map Subtype.val=d/\d'.length=L.length
theorem sortsTo_all (L:List VrX):SortsTo L 0 L.length (sortR ltVx L):=fun _=>⟨sortR (ltOf cfVr) L.attach,by
  have h:=sort_list (ltOf (cfVr (L:=L))) L.attach
  rw [List.length_attach] at h
  exact h,by
  have h:=sortR_map (fun x:VMem L=>x.1) ltVx L.attach
  have e:L.attach.map (fun x:VMem L=>x.1)=L:=List.attach_map_subtype_val L
  rw [e] at h
  exact h,by rw [sortR_length,List.length_attach]⟩
theorem sortsTo_none (L:List VrX) (n:Nat):SortsTo L n n L:=fun _=>⟨L.attach,by
  unfold insertionSort
  rw [insOuter,if_neg (by omega)],List.attach_map_subtype_val L,List.length_attach⟩
set_option maxRecDepth 100000 in
theorem insvr_any (L:List VrX) (hL:L.length<=1000000) (g cap a b:Nat) (rest:List Value) (w:World) (h:w.heap[g]? = some (.cells (L.flatMap VrX.cells++rest).toArray 40 (0,0))) (hp:∀ x ∈ L,Small x.v/\Sl w (fun q=>q=g) 9 x.pv x.v.pre.length (strs x.v.pre)) (hne:L ≠ []) (hab:a<=b) (hb:b<=L.length)
  (d:List VrX) (hd:SortsTo L a b d) :
  Calls prog 127 #[.slice (some ⟨g,0,none⟩) L.length cap,.int .i64 a,.int .i64 b,.func (.func 58) #[] #[]] w fun e w' =>
   e=.returned (.tuple #[])/\w'.heap[g]? = some (.cells (d.flatMap VrX.cells++rest).toArray 40 (0,0))/\(∀ x ∈ d,Small x.v/\Sl w' (fun q=>q=g) 9 x.pv x.v.pre.length (strs x.v.pre))/\Mod (fun p=>p=g) w w':=by
 ·obtain ⟨z,hz⟩:=List.exists_mem_of_ne_nil L hne
  letI I:Inhabited (VMem L):=⟨⟨z,hz⟩⟩
  obtain ⟨d',hd1,hd2,hlen⟩:=hd I
  have hs:L.attach.toArray.size=L.length:=by simp
  have hfl:∀ e:List (VMem L),e.flatMap (fun x=>x.1.cells)=(e.map Subtype.val).flatMap VrX.cells:=fun e=>by rw [List.flatMap_map]
  have hh:w.heap[g]? = some (.cells (L.attach.flatMap (fun x=>x.1.cells)++rest).toArray 40 (0,0)):=by rw [hfl,List.attach_map_subtype_val];exact h
  have hlen4:∀ x:VMem L,(x.1.cells).length=4:=fun x=>VrX.cells_length x.1
  have hc:=AnyQ.insertionSortCmpFunc Tryz.insVr 4 (fun w=>isAgg40 w) (fun w=>sizeOf40 w) (fun x:VMem L=>x.1.cells) hlen4 (fun x=>vr_one x.1 (by obtain ⟨p,c,e⟩:=(hp x.1 x.2).2.len;exact ⟨p,_,c,e⟩)) cfVr 58 #[] g 0 cap a b L.attach.toArray w (fun _ _=>rfl)
   (fun m os dk hdk x y=>by
    have hm:Mod (fun p=>p=g) w (sortWorldK (fun x:VMem L=>x.1.cells) 4 w g 0 m dk os):=by
     have h8:=(world_sort (fun x:VMem L=>x.1.cells) 4 hlen4 (by omega) (L:=L.attach) (d:=dk.toList) (rest:=rest) (by rw [Array.length_toList,hdk,hs,List.length_attach]) hh m os).2
     exact h8
    have hk:∀ u:VMem L,Small u.1.v/\Sl (sortWorldK (fun x:VMem L=>x.1.cells) 4 w g 0 m dk os) No 9 u.1.pv u.1.v.pre.length (strs u.1.v.pre):=fun u=>⟨(hp u.1 u.2).1,((hp u.1 u.2).2.keep hm (fun k cur fz hk hn=>absurd hk hn)).shrink (fun _ _ f=>f.elim)⟩
    exact (vless_any x.1 y.1 _ (hk x) (hk y)).mono fun e w' ⟨he,hg⟩=>⟨he,hg.gr⟩) (holds_list (fun x:VMem L=>x.1.cells) 4 hlen4 (by omega) hh) (lt_of_heap h) hab (by rw [hs];exact hb) (by rw [hs];omega)
  rw [hs] at hc
  refine hc.mono fun e w' ⟨he,n,os,hw⟩=>⟨he,?_⟩
  rw [hd1] at hw
  subst hw
  obtain ⟨h1,h2⟩:=world_sort (fun x:VMem L=>x.1.cells) 4 hlen4 (by omega) (L:=L.attach) (d:=d') (rest:=rest) (by rw [hlen,List.length_attach]) hh n os
  rw [hfl,hd2] at h1
  refine ⟨h1,fun x hx=>?_,h2⟩
  rw [<- hd2] at hx
  obtain ⟨u,-,rfl⟩:=List.mem_map.1 hx
  exact ⟨(hp u.1 u.2).1,(hp u.1 u.2).2.keep h2 (fun k cur fz hk hn=>absurd hk hn)⟩
set_option maxRecDepth 100000 in
theorem insallV_any (L:List VrX) (hL:L.length<=20) (p:Option Addr) (g cap:Nat) (rest:List Value) (w:World) (h:VrHeap w p L g rest) :
  Calls prog 127 #[.slice p L.length cap,.int .i64 0,.int .i64 L.length,.func (.func 58) #[] #[]] w fun e w' =>
   e=.returned (.tuple #[])/\VrHeap w' p (sortR ltVx L) g rest/\Mod (fun q=>q=g/\L ≠ []) w w':=by
 rcases h with rfl | ⟨rfl,h,hp⟩
 ·exact (insnoneV_any p cap w).mono fun e w' ⟨he,hw⟩=>⟨he,.inl rfl,by rw [hw];exact Mod.refl _ _⟩
 ·by_cases hn:L=[]
  ·subst hn
   exact (insnoneV_any _ cap w).mono fun e w' ⟨he,hw⟩=>⟨he,.inl rfl,by rw [hw];exact Mod.refl _ _⟩
  ·exact (insvr_any L (by omega) g cap 0 L.length rest w h hp hn (Nat.zero_le _) (Nat.le_refl _) _ (sortsTo_all L)).mono fun e w' ⟨he,hh,hq,hm⟩=>⟨he,.inr ⟨rfl,hh,hq⟩,hm.weaken (fun _ _ e=>⟨e,hn⟩)⟩
set_option maxRecDepth 100000 in
set_option maxHeartbeats 4000000 in
theorem stableV_any (L:List VrX) (hL:L.length<=20) (p:Option Addr) (g cap:Nat) (rest:List Value) (w:World) (h:VrHeap w p L g rest) :
  Calls prog 91 #[.slice p L.length cap,.int .i64 L.length,.func (.func 58) #[] #[]] w fun e w' =>
   e=.returned (.tuple #[])/\VrHeap w' p (sortR ltVx L) g rest/\Mod (fun q=>q=g/\L ≠ []) w w':=by
 refine calls_hide fun R hR=>?_
 have HI:=zh (insallV_any L hL p g cap rest w h)
 have hsl:=sortR_length ltVx L
 obtain ⟨z,hz⟩:∃ z:Int,z=(L.length:Int):=⟨_,rfl⟩
 rw [<- hz] at HI ⊢
 by_cases h20:L.length=20
 ·have H2:=zh (fun (W:World) (hW:VrHeap W p (sortR ltVx L) g rest)=>show Calls prog 127 #[.slice p L.length cap,.int .i64 20,.int .i64 20,.func (.func 58) #[] #[]] W fun e w' =>
    e=.returned (.tuple #[])/\VrHeap w' p (sortR ltVx L) g rest/\Mod (fun q=>q=g/\L ≠ []) W w' from by
   have hne:L ≠ []:=by intro e;rw [e] at h20;cases h20
   rcases hW with he | ⟨rfl,hW,hp⟩
   ·rw [he] at hsl;rw [h20] at hsl;cases hsl
   ·have hc:=insvr_any (sortR ltVx L) (by omega) g cap 20 20 rest W hW hp (by intro e;rw [e] at hsl;rw [h20] at hsl;cases hsl) (Nat.le_refl _) (by omega) (sortR ltVx L) (sortsTo_none _ _)
    rw [hsl] at hc
    exact hc.mono fun e w' ⟨he,hh,hq,hm⟩=>⟨he,.inr ⟨rfl,hh,hq⟩,hm.weaken (fun _ _ e=>⟨e,hne⟩)⟩)
  obtain rfl:z=20:=by omega
  rw [h20] at HI H2 ⊢
  clear hz
  generalize sortR ltVx L=S at *
  clear h
  go_enter func91,ntmps91
  go_wp2_with fail
  go_loopw [7,8] (fun a b wr=>(a=.int .i64 0/\b=.int .i64 20/\wr=w)\/(a=.int .i64 20/\b=.int .i64 40/\VrHeap wr p S g rest/\Mod (fun q=>q=g/\L ≠ []) w wr)) (fun a _ _=>20 - (intOf a).toNat)
  case atStart=>exact .inl ⟨rfl,rfl,rfl⟩
  case round =>
   rcases hrel with ⟨rfl,rfl,rfl⟩ | ⟨rfl,rfl,hh,hm⟩
   ·go_wp2_with fail
    with_reducible refine HI.out.mono ?_
    rintro e w2 ⟨rfl,hh,hm⟩
    have HH:=zh hh
    have HM:=zh hm
    clear hh hm
    go_wp2_with fail
    exact ⟨.inr ⟨rfl,rfl,HH.out,HM.out⟩,by decide⟩
   ·have HC:=zh (H2.out wr hh)
    have HM:=zh hm
    clear hh hm H2 HI
    go_wp2_with fail
    with_reducible refine HC.out.mono ?_
    rintro e w2 ⟨rfl,hh,hm⟩
    have HH:=zh hh
    have HM2:=zh (HM.out.trans hm)
    clear hh hm HC HM
    go_wp2_with fail
    go_loopw [6] (fun a wr=>a=.int .i64 20/\wr=w2) (fun _ _=>0)
    case atStart=>exact ⟨rfl,rfl⟩
    case round =>
     obtain ⟨rfl,rfl⟩:=hrel
     go_wp2_with fail
     go_end0
     exact fin hR ⟨rfl,HH.out,HM2.out⟩
 ·have hlt:¬ ((20:Int)<=z):=by omega
  have hlt2:¬ ((20:Int) < z):=by omega
  clear h hz
  generalize L.length=n at *
  generalize sortR ltVx L=S at *
  go_enter func91,ntmps91
  go_wp2_with fail
  go_loopw [7,8] (fun a b wr=>a=.int .i64 0/\b=.int .i64 20/\wr=w) (fun _ _ _=>0)
  case atStart=>exact ⟨rfl,rfl,rfl⟩
  case round =>
   obtain ⟨rfl,rfl,rfl⟩:=hrel
   go_wp2_with fail
   with_reducible refine HI.out.mono ?_
   rintro e w2 ⟨rfl,hh,hm⟩
   have HH:=zh hh
   have HM2:=zh hm
   clear hh hm HI
   go_wp2_with fail
   go_loopw [6] (fun a wr=>a=.int .i64 20/\wr=w2) (fun _ _=>0)
   case atStart=>exact ⟨rfl,rfl⟩
   case round =>
    obtain ⟨rfl,rfl⟩:=hrel
    go_wp2_with fail
    go_end0
    exact fin hR ⟨rfl,HH.out,HM2.out⟩
set_option maxRecDepth 100000 in
theorem sortstableV_any (L:List VrX) (hL:L.length<=20) (p:Option Addr) (g cap:Nat) (rest:List Value) (w:World) (h:VrHeap w p L g rest) :
  Calls prog 57 #[.slice p L.length cap,.func (.func 58) #[] #[]] w fun e w' =>
   e=.returned (.tuple #[])/\VrHeap w' p (sortR ltVx L) g rest/\Mod (fun q=>q=g/\L ≠ []) w w':=by
 refine calls_hide fun R hR=>?_
 have HC:=zh (stableV_any L hL p g cap rest w h)
 clear h
 go_enter func57,ntmps57
 go_wp2_with fail
 with_reducible refine HC.out.mono ?_
 rintro e w2 ⟨rfl,hh,hm⟩
 have HH:=zh hh
 have HM:=zh hm
 clear hh hm HC
 go_wp2_with fail
 go_end0
 exact fin hR ⟨rfl,HH.out,HM.out⟩
end Go.Proofs.YtgiigemfbebcgaaGreatDoor
