/-
  Layers 0 to 14: helps of the laws of indexes. No statement is proved here; no condition.
-/
import Derived.Test.YticfcmdjplmaeaaGreatDoorX18
import Derived.Test.YticfcmdjplmaeaaGreatDoorX09
import Derived.Test.YticfcmdjplmaeaaGreatDoorX05
import Derived.Test.YticfcmdjplmaeaaGreatDoorX15
import Derived.Test.YticfcmdjplmaeaaGreatDoorX17
import Derived.Test.YticfcmdjplmaeaaGreatDoorX06
import Derived.Test.YticfcmdjplmaeaaGreatDoorX10
import Derived.Test.YticfcmdjplmaeaaGreatDoorX07
set_option maxRecDepth 100000
set_option maxHeartbeats 64000000
namespace Go.Proofs.YticfcmdjplmaeaaGreatDoor
open _root_.Go.Proofs.Tryz
open Go.RowKit Go.Sort
theorem MfW.sortable {w:World} {B mb:Nat} {m:Mf} {pv nv:Value} {ys:List NdX} (h:MfW w B mb m pv nv ys) (hmb:mb < B):∃ (p:Option Addr) (cap:Nat) (L:List NdY) (g:Nat) (rest:List Value),nv=.slice p L.length cap/\L.length=m.needs.length/\L.length<=20/\NdHeap w p L g rest/\(L ≠ []->B<=g) ∧
  ∀ w',NdHeap w' p (sortR (ltOf cfNd) L) g rest->Mod (fun q=>q=g/\L ≠ []) w w'->∃ ys',MfW w' B mb { m with needs:=sortR ltNd m.needs } pv nv ys':=by
 obtain ⟨h0,hp,h1,h2,h3,hf⟩:=h;obtain ⟨L,rfl⟩:=nds_y ys h2;have hn:L.length=m.needs.length:=by rw [<- h1];simp
 have hLn:L.map NdY.n=m.needs:=by rw [<- h1,List.map_map];rfl
 by_cases hL:L=[]
 ·subst hL;have hz:m.needs=[]:=by rw [<- h1];rfl
  obtain ⟨p,cap,hv⟩:=(Sl.of_own (X:=No) h3 (fun _ _ f=>f)).len;refine ⟨p,cap,[],0,[],by rw [hv,hz];rfl,hn,by simp,.inl rfl,fun e=>absurd rfl e,fun w' _ hm=>?_⟩
  have hm2:Mod No w w':=hm.weaken (fun _ _ e=>e.2 rfl);obtain ⟨a,b,c⟩:=m;obtain rfl:c=[]:=hz;exact ⟨_,MfW.no ⟨h0,hp,h1,h2,h3,hf⟩ hm2⟩
 ·obtain ⟨hl,⟨hv,h0'⟩ | ⟨g,cap,cur,hv,hg,hh,hnc,hcm,hcs,ht⟩⟩:=h3
  ·exact absurd (List.eq_nil_of_length_eq_zero (by omega)) hL
  ·rw [toX_flat] at ht hl;have hcur:cur=(L.flatMap NdY.cells++cur.toList.drop (m.needs.length*4)).toArray:=by
    rw [<- ht,List.take_append_drop]
   refine ⟨_,cap,L,g,cur.toList.drop (m.needs.length*4),by rw [hv,hn],hn,by rw [hn];exact hf,.inr ⟨rfl,by rw [<- hcur];exact hh⟩,fun _=>hg,fun w' hw' hm=>?_⟩
   have hap:Apart [9,237,175] (fun q=>q=g/\L ≠ []) w:=fun k c e z hk hc hm=>by
    rw [hk.1,hh] at hc;cases hc
    simp at hm
   have hsl:(sortR (ltOf cfNd) L).length=m.needs.length:=by rw [sortR_length,hn]
   have hs0:sortR (ltOf cfNd) L ≠ []:=fun e=>hL (List.eq_nil_of_length_eq_zero (by rw [<- sortR_length (ltOf cfNd) L,e];rfl))
   rcases hw' with e | ⟨-,hh2⟩
   ·exact absurd e hs0
   ·have hfl:((sortR (ltOf cfNd) L).flatMap NdY.cells).length=m.needs.length*4:=by rw [flat_length NdY.len,hsl]
    refine ⟨(sortR (ltOf cfNd) L).map toX,hm.keep h0 (fun e=>by have:=e.1;omega),hp.apart hm (hap.less (by simp)),?_,fun y hy=>?_,?_,by dsimp only;rw [sortR_length];exact hf⟩
    ·rw [List.map_map,show NdX.n∘toX=NdY.n from rfl,sort_nds,hLn]
    ·obtain ⟨z,hz,rfl⟩:=List.mem_map.1 hy;exact (h2 (toX z) (List.mem_map.2 ⟨z,(sortR_mem _ _ _).1 hz,rfl⟩)).keep hm hap
    ·rw [toX_flat];dsimp only;rw [sortR_length];refine ⟨hfl,.inr ⟨g,cap,_,hv,hg,hh2,hnc,hcm,?_,?_⟩⟩
     ·rw [List.size_toArray,List.length_append,hfl,<- hcs,<- hl];rw [hl,List.length_drop,Array.length_toList];have:m.needs.length*4<=cur.size:=by rw [hcs];exact Nat.mul_le_mul_right _ hnc
      omega
     ·rw [<- hfl];simp
def mftCs (m:Mf) (pv nv:Value):List Value:=[strV m.name,.int .i64 m.v.ma,.int .i64 m.v.mi,.int .i64 m.v.pa,pv,nv]
def MftAt (w:World) (v:Value) (m:Mf):Prop:=∃ pa pc na nc,v=.agg (mftCs m (.slice pa m.v.pre.length pc) (.slice na m.needs.length nc)).toArray/\Sl w No 9 (.slice pa m.v.pre.length pc) m.v.pre.length (strs m.v.pre)/\NdsAt w (.slice na m.needs.length nc) m.needs
theorem MftAt.no {w w':World} {v:Value} {m:Mf} (h:MftAt w v m) (hm:Mod No w w'):MftAt w' v m:=by
 obtain ⟨pa,pc,na,nc,h1,h2,h3⟩:=h;exact ⟨pa,pc,na,nc,h1,h2.kn hm,h3.keep hm (Apart.no _ _)⟩
def mftZ:Array Value:=#[.string ⟨#[]⟩,.int .i64 0,.int .i64 0,.int .i64 0,.slice none 0 0,.slice none 0 0]
def MfRes (w':World) (s:List UInt8) (e:Ending):Prop:=match mfOf s with
 | some m=>∃ v,e=.returned (.tuple #[v,.int .i64 0,.int .i64 0])/\MftAt w' v m
 | none=>∃ i:Int,e=.returned (.tuple #[.agg mftZ,.int .i64 i,.int .i64 62])
theorem mlines_silent {n:Nat} {m:Mf} {s:List UInt8} {l:List (List UInt8)} (h:silentB s=true):mlines n m (s :: l)=mlines n m l:=by rw [mlines,if_pos h]
theorem mlines_step {n:Nat} {m m':Mf} {s:List UInt8} {l:List (List UInt8)} (h:silentB s=false) (h2:mstep n m s=some m'):mlines n m (s :: l)=mlines (n+1) m' l:=by rw [mlines,if_neg (by rw [h];simp),h2]
theorem mlines_bad {n:Nat} {m:Mf} {s:List UInt8} {l:List (List UInt8)} (h:silentB s=false) (h2:mstep n m s=none):mlines n m (s :: l)=none:=by rw [mlines,if_neg (by rw [h];simp),h2]
theorem load_mft {w:World} {b:Nat} {v0 v1 v2 v3 v4 v5:Value} (h:w.heap[b]? = some (.cells #[v0,v1,v2,v3,v4,v5] 46 (0,0))) :
  (loadVar 46 ⟨b,0,none⟩).run prog w=.ok (.agg #[v0,v1,v2,v3,v4,v5]) w :=
 run_loadVar_row (P:=prog) w b 46 46 #[v0,v1,v2,v3,v4,v5] (0,0) _ h underlying46 rfl (by kernel_rfl)
theorem set6 {w:World} {b:Nat} {u0 u1 u2 u3 u4 u5:Value} {e:TypeId} (h:w.heap[b]? = some (.cells #[u0,u1,u2,u3,u4,u5] e (0,0))) (v0 v1 v2 v3 v4 v5:Value) :
  ((((((w.setCell ⟨b,0,none⟩ v0).setCell ⟨b,1,none⟩ v1).setCell ⟨b,2,none⟩ v2).setCell ⟨b,3,none⟩ v3).setCell ⟨b,4,none⟩ v4).setCell ⟨b,5,none⟩ v5).heap[b]? = some (.cells #[v0,v1,v2,v3,v4,v5] e (0,0)):=by
 rw [heap_setCell (heap_setCell (heap_setCell (heap_setCell (heap_setCell (heap_setCell h v0) v1) v2) v3) v4) v5];rfl
theorem Mod.set6 {S:Nat->Prop} {a w:World} {b:Nat} (h:Mod S a w) (hb:b < a.heap.size->S b) (v0 v1 v2 v3 v4 v5:Value) :
  Mod S a ((((((w.setCell ⟨b,0,none⟩ v0).setCell ⟨b,1,none⟩ v1).setCell ⟨b,2,none⟩ v2).setCell ⟨b,3,none⟩ v3).setCell ⟨b,4,none⟩ v4).setCell ⟨b,5,none⟩ v5) :=
 (((((h.setCell hb v0).setCell hb v1).setCell hb v2).setCell hb v3).setCell hb v4).setCell hb v5
theorem sortown_any (B:Nat) (L:List NdY) (hL:L.length<=20) (p:Option Addr) (cap:Nat) (w:World) (h:w.ownsRow B 98 4 (.slice p L.length cap) L.length (L.flatMap NdY.cells)) :
  Calls prog 107 #[.slice p L.length cap,.func (.func 108) #[] #[]] w fun e w' =>
   e=.returned (.tuple #[])/\w'.ownsRow B 98 4 (.slice p L.length cap) L.length ((sortR (ltOf cfNd) L).flatMap NdY.cells)/\Mod (fun q=>(Value.slice p L.length cap).ownBlock=some q) w w':=by
 by_cases hne:L=[]
 ·subst hne;refine (sortstable_anyM [] (by simp) p 0 cap [] w (.inl rfl)).mono ?_;rintro e w' ⟨rfl,-,hm⟩;have hm2:Mod No w w':=hm.weaken (fun _ _ e=>e.2 rfl);exact ⟨rfl,own_keepM h hm2 (fun _ _ f=>f),hm2.no⟩
 ·obtain ⟨hl,⟨hv,h0⟩ | ⟨g,c,cur,hv,hg,hh,hnc,hcm,hcs,ht⟩⟩:=h
  ·exact absurd (List.eq_nil_of_length_eq_zero h0) hne
  ·have hp:p=some ⟨g,0,none⟩:=by cases hv;rfl
   have hcc:c=cap:=by cases hv;rfl
   subst hp hcc;have hcur:cur=(L.flatMap NdY.cells++cur.toList.drop (L.length*4)).toArray:=by rw [<- ht,List.take_append_drop]
   refine (sortstable_anyM L hL _ g c (cur.toList.drop (L.length*4)) w (.inr ⟨rfl,by rw [<- hcur];exact hh⟩)).mono ?_;rintro e w' ⟨rfl,hh2,hm⟩;have hs0:sortR (ltOf cfNd) L ≠ []:=fun e=>hne (List.eq_nil_of_length_eq_zero (by rw [<- sortR_length (ltOf cfNd) L,e];rfl))
   rcases hh2 with e | ⟨-,hh2⟩
   ·exact absurd e hs0
   ·have hfl:((sortR (ltOf cfNd) L).flatMap NdY.cells).length=L.length*4:=by rw [flat_length NdY.len,sortR_length]
    refine ⟨rfl,⟨hfl,.inr ⟨g,c,_,rfl,hg,hh2,hnc,hcm,?_,?_⟩⟩,hm.weaken (fun q _ e=>by rw [e.1];rfl)⟩
    ·have h1:cur.toList.length=c*4:=by rw [Array.length_toList,hcs]
     rw [List.size_toArray,List.length_append,hfl,List.length_drop];omega
    ·rw [<- hfl];simp
theorem psorted_any (L:List NdY) (hL:L.length<=20) (v:Value) (w:World) (hv:Sl w No 98 v L.length (L.flatMap NdY.cells)) :
  Calls prog 160 #[v] w fun e w'=>∃ v',e=.returned v'/\w'.ownsRow w.heap.size 98 4 v' L.length ((sortR (ltOf cfNd) L).flatMap NdY.cells)/\Mod No w w':=by
 refine calls_hide fun R hR=>?_
 have HCL:=zh (clonends_own L.length (by omega) v (L.flatMap NdY.cells) (flat_length NdY.len L) (fun u hu=>by
  obtain ⟨z,hz,hu⟩:=List.mem_flatMap.1 hu;exact NdY.one z u hu) w hv)
 obtain ⟨va,vc,rfl⟩:=hv.len;have HL:=zh hL;obtain ⟨n,hn⟩:∃ n,n=L.length:=⟨_,rfl⟩
 have HNL:=zh hn;rw [<- hn] at HCL ⊢;clear hv hn hL;obtain ⟨B,hB⟩:∃ B,B=w.heap.size:=⟨_,rfl⟩
 have HBB:=zh hB;rw [<- hB] at HCL;clear hB;go_enter func160,ntmps160
 go_wp2_with fail
 with_reducible refine HCL.out.mono ?_
 rintro e w1 ⟨v1,rfl,hown,hm1⟩;have HM1:=zh hm1;obtain ⟨sa,sc,hsv⟩:=own_len hown;subst hsv;have HST:=zh (sortown_any B L HL.out sa sc w1 (by rw [<- HNL.out];exact hown));rw [<- HNL.out] at HST;have HBK:=zh (show ∀ q,(Value.slice sa n sc).ownBlock=some q->B<=q from fun q e=>own_atB hown e);clear hown hm1 HCL;go_wp2_with fail
 with_reducible refine HST.out.mono ?_
 rintro e w2 ⟨rfl,hown2,hm2⟩;have HO2:=zh hown2;have HM2:=zh (HM1.out.then hm2 (S:=No) (fun q hq e=>by have h1:=HBK.out q e;have h2:=HBB.out;omega));clear hown2 hm2 HST;go_wp2_with fail
 exact fin hR ⟨_,rfl,by show w2.ownsRow w.heap.size 98 4 (.slice sa n sc) L.length _;rw [<- HNL.out,<- HBB.out];exact HO2.out,HM2.out⟩
def mfHead (m:Mf):List UInt8:=nameW++(m.name++(10 :: (versionW++(verT m.v++[10]))))
def mfText (m:Mf):List UInt8:=mfHead m++(sortR ltNd m.needs).flatMap needT'
structure VerNat (v:Ver):Prop where
 low:0<=v.ma/\0<=v.mi/\0<=v.pa
 high:v.ma < 1000000000000000000/\v.mi < 1000000000000000000/\v.pa < 1000000000000000000
theorem sl_need_wrt {w w':World} {b n:Nat} {v:Value} {xs:List Value} {l:List UInt8} (h:Sl w No 98 v n xs) (hm:Mod (Wrt b b w) w w') (hb:b < w.heap.size) (hB:IsBld b b l w):Sl w' No 98 v n xs :=
 h.keep hm fun k cur fz e _ hc=>by
  rcases e with e | ⟨-,c,fz',hc'⟩
  ·subst e;have h1:∃ cs,w.heap[k]? = some (.cells cs 248 (0,0)):=hB.elim (fun h=>by obtain ⟨_,v,h2,_⟩:=h;exact ⟨_,h2⟩) (fun h=>by obtain ⟨_,v,h2,_⟩:=h;exact ⟨_,h2⟩);obtain ⟨cs,h1⟩:=h1;rw [h1] at hc;cases hc
  ·rw [hc'] at hc;cases hc
theorem wrt_trans {w a c:World} {b:Nat} (h:Mod (Wrt b b w) w a) (k:Mod (Wrt b b a) a c):Mod (Wrt b b w) w c :=
 h.then k (fun i hi e=>by
  rcases e with e | ⟨e1,cs,fz,hc⟩
  ·exact .inl e
  ·by_cases hw:Wrt b b w i
   ·exact hw
   ·rw [h.block i hi hw] at hc;exact .inr ⟨e1,cs,fz,hc⟩)
theorem mtext_any (mf:Mf) (v:Value) (w:World) (hv:MftAt w v mf) (h20:mf.needs.length<=20) (hsm:Small mf.v) (hvn:VerNat mf.v) (htl:(mfText mf).length<=1000000000) (ht:TabOk w) :
  Calls prog 102 #[v] w fun e w'=>e=.returned (strV (mfText mf))/\Mod No w w':=by
 refine calls_hide fun R hR=>?_
 obtain ⟨pa,pc,na,nc,rfl,hpre,hnds⟩:=hv;obtain ⟨L,hy1,hy3⟩:=nds_told hnds;have HSE0:=zh (show (sortR (ltOf cfNd) L).map NdY.n=sortR ltNd mf.needs by rw [<- hy1];exact sort_nds L);have HLN:=zh (show mf.needs.length=L.length by rw [<- hy1,List.length_map]);have HNS:=zh (show Sl w No 98 (.slice na L.length nc) L.length (L.flatMap NdY.cells) by rw [<- HLN.out];exact hy3);have HL20:=zh (show L.length<=20 by rw [<- HLN.out];exact h20);have HVT0:=zh (fun W (hm:Mod No w W)=>vertext_any mf.v (.slice pa mf.v.pre.length pc) hsm hvn.low hvn.high W (hpre.kn hm) (ht.keep hm (fun f=>f)));have HTT:=zh (show mfText mf=mfHead mf++(sortR ltNd mf.needs).flatMap needT' from rfl);have HHE:=zh (show mfHead mf=[110,97,109,101,32]++(mf.name++([10,118,101,114,115,105,111,110,32]++(verT mf.v++[10]))) from rfl);have HTL:=zh htl;rw [HLN.out];clear hy1 hy3 hnds hpre h20 hsm hvn htl ht;unfold mftCs;obtain ⟨nm,⟨xa,xi,xp,xpr⟩,nds⟩:=mf;dsimp only at *;generalize mfText ⟨nm,⟨xa,xi,xp,xpr⟩,nds⟩=TT at *;generalize mfHead ⟨nm,⟨xa,xi,xp,xpr⟩,nds⟩=HD at *;generalize verT ⟨xa,xi,xp,xpr⟩=VT at *;obtain ⟨SN,hSN⟩:∃ SN,SN=sortR ltNd nds:=⟨_,rfl⟩
 rw [<- hSN] at HTT HSE0;have HSE:=zh HSE0.out;obtain ⟨NT,hNT⟩:∃ NT,NT=SN.flatMap needT':=⟨_,rfl⟩
 rw [<- hNT] at HTT;have HNT:=zh hNT;clear hSN hNT HSE0;have HBD2:=zh (show HD.length+NT.length<=1000000000 by have h1:=HTL.out;rw [HTT.out,List.length_append] at h1;exact h1);obtain ⟨pn,hpn⟩:∃ n,n=xpr.length:=⟨_,rfl⟩
 rw [<- hpn] at HVT0 ⊢;clear hpn;unfold verV at HVT0;dsimp only at HVT0;have hhl:=congrArg List.length HHE.out;simp only [List.length_append,List.length_cons,List.length_nil] at hhl;have hbd:=HBD2.out;have h5:([110,97,109,101,32]:List UInt8).length=5:=rfl;obtain ⟨S2,hS2⟩:∃ c,c=[110,97,109,101,32]++nm:=⟨_,rfl⟩
 have hlS2:S2.length=[110,97,109,101,32].length+nm.length:=(congrArg List.length hS2).trans List.length_append;have HS2:=zh (show [110,97,109,101,32]++nm=S2/\S2.length<=9223372036854775807 from ⟨hS2.symm,by omega⟩);obtain ⟨S3,hS3⟩:∃ c,c=S2++[10,118,101,114,115,105,111,110,32]:=⟨_,rfl⟩
 have hlS3:S3.length=S2.length+9:=(congrArg List.length hS3).trans List.length_append;have HS3:=zh (show S2++[10,118,101,114,115,105,111,110,32]=S3/\S3.length<=9223372036854775807 from ⟨hS3.symm,by omega⟩);obtain ⟨S7,hS7⟩:∃ c,c=S3++VT:=⟨_,rfl⟩
 have hlS7:S7.length=S3.length+VT.length:=(congrArg List.length hS7).trans List.length_append;have HS7:=zh (show S3++VT=S7/\S7.length<=9223372036854775807 from ⟨hS7.symm,by omega⟩);obtain ⟨S8,hS8⟩:∃ c,c=S7++[10]:=⟨_,rfl⟩
 have hlS8:S8.length=S7.length+1:=(congrArg List.length hS8).trans List.length_append;have HS8:=zh (show S7++[10]=S8/\S8.length<=9223372036854775807 from ⟨hS8.symm,by omega⟩);have HHD:=zh (show HD=S8 by rw [HHE.out];rw [<- HS8.out.1,<- HS7.out.1,<- HS3.out.1,<- HS2.out.1];simp);clear hS2 hlS2 hS3 hlS3 hS7 hlS7 hS8 hlS8;have HLL:=zh (show S8.length<=1000000000 by rw [<- HHD.out];omega);clear hhl hbd h5;unfold strV at HVT0 ⊢;go_enter func102,ntmps102
 go_upto_region 2 with fail
 obtain ⟨gb,hgb⟩:∃ g,g=w.heap.size:=⟨_,rfl⟩
 rw [<- hgb];generalize hw0:World.alloc w _=w0;have hga:w0.heap[gb]? = some (.cells #[.string ⟨nm.toArray⟩,.int .i64 xa,.int .i64 xi,.int .i64 xp,.slice pa pn pc,.slice na L.length nc] 46 (0,0)):=by rw [<- hw0,hgb];exact heap_alloc_new w _
 have hm0:Mod No w w0:=by rw [<- hw0];exact (Mod.refl No w).alloc _
 have hsz0:w0.heap.size=gb+1:=by rw [<- hw0,hgb];exact Array.size_push _
 obtain ⟨b,hb1⟩:∃ b,b=gb+1:=⟨_,rfl⟩
 have hb:b=w0.heap.size:=by rw [hb1,hsz0]
 rw [<- hb1];have hgbb:gb < b:=by rw [hb];exact lt_of_heap hga
 have HBW:=zh (show w.heap.size<=b by omega);have HGB:=zh (show gb ≠ b by omega);generalize hwa:World.alloc w0 _=wa;have HBA:=zh (show IsBld b b [] wa from by
  rw [<- hwa,hb];exact .inl ⟨Nat.le_refl _,_,heap_alloc_new w0 _,⟨rfl,.inl ⟨rfl,rfl⟩⟩,fun e=>by (cases e)⟩)
 obtain ⟨wD,hwD⟩:∃ x,x=wa.drew:=⟨_,rfl⟩
 have HWD:=zh hwD;have hma:Mod No wa wD:=by rw [hwD];exact (Mod.refl No wa).drew
 have HMA:=zh hma;have HM1:=zh (show Mod No w wD by rw [hwD,<- hwa];exact (hm0.alloc _).drew);have hS0:wD.heap[gb]? = some (.cells #[.string ⟨nm.toArray⟩,.int .i64 xa,.int .i64 xi,.int .i64 xp,.slice pa pn pc,.slice na L.length nc] 46 (0,0)):=hma.keep (by rw [<- hwa];exact heap_alloc_old _ hga) (fun f=>f);have HBH:=zh hgbb;have HSM:=zh (show ∀ w':World,w'.heap[gb]? = some (.cells #[.string ⟨nm.toArray⟩,.int .i64 xa,.int .i64 xi,.int .i64 xp,.slice pa pn pc,.slice na L.length nc] 46 (0,0))->w'.cell? ⟨gb,0,none⟩=some (.string ⟨nm.toArray⟩)/\w'.rangeAt gb 1 [.int .i64 xa,.int .i64 xi,.int .i64 xp,.slice pa pn pc] from fun w' h =>
  ⟨cell_ofA h rfl,fun j u hj=>by
   have h1:j < 4:=(List.getElem?_eq_some_iff.1 hj).1;rcases j with _ | _ | _ | _ | j
   ·cases hj;exact cell_ofA h rfl
   ·cases hj;exact cell_ofA h rfl
   ·cases hj;exact cell_ofA h rfl
   ·cases hj;exact cell_ofA h rfl
   ·omega⟩)
 have HVT1:=zh HVT0.out;clear HVT0;have HVT0:=zh (fun W (hm:Mod No wD W)=>HVT1.out W (HM1.out.trans hm));have HWS0:=zh (fun W (hm:Mod No wD W)=>ws_any b b [] S8 (by simp) (by have:=HLL.out;omega) W (bld_keep HBA.out (HMA.out.trans hm) (fun f=>f) (fun _ _ _ f=>f.elim)) (by
  have hlt:=HBA.out.elim (fun h=>h.lt) (fun h=>h.lt);have:=(HMA.out.trans hm).size;omega))
 unfold strV at HWS0;simp only [List.nil_append] at HWS0;clear hw0 hwa hwD hma hga hm0 hb hgb hgbb hsz0 hb1 HVT1;refine wp_region_T (fun w':World=>w'.heap[gb]? = some (.cells #[.string ⟨nm.toArray⟩,.int .i64 xa,.int .i64 xi,.int .i64 xp,.slice pa pn pc,.slice na L.length nc] 46 (0,0))) 99 (by kernel_rfl) ?_;rw [<- HWD.out];refine yS 0 6 hS0 ?_;refine yT 1 (some 7) ?_ hS0 ?_ ?_;rotate_left
 ·(intro w' hSw;have q0:=(HSM.out w' hSw).1;go_simp;try with_reducible rfl)
 simp only [Act.put,yB,yC,yD];refine yT 2 (some 8) (.string ⟨S2.toArray⟩) hS0 ?_ ?_
 ·(intro w' hSw;apply ycat HS2.out (.const (.string ⟨#[110,97,109,101,32]⟩)) (.tmp 7) <;> rfl)
 simp only [Act.put,yB,yC,yD];refine yT 3 (some 9) (.string ⟨S3.toArray⟩) hS0 ?_ ?_
 ·(intro w' hSw;apply ycat HS3.out (.tmp 8) (.const (.string ⟨#[10,118,101,114,115,105,111,110,32]⟩)) <;> rfl)
 simp only [Act.put,yB,yC,yD];refine yS 4 10 hS0 ?_;refine yT 5 (some 11) (.agg #[.int .i64 xa,.int .i64 xi,.int .i64 xp,.slice pa pn pc]) hS0 ?_ ?_
 ·(intro w' hSw;apply yloadv (run_loadVar_mid w' gb 1 40 [.int .i64 xa,.int .i64 xi,.int .i64 xp,.slice pa pn pc] _ (HSM.out w' hSw).2 underlying40 rfl (by kernel_rfl)) (.tmp 10) <;> rfl)
 simp only [Act.put,yB,yC,yD];refine wpAnyT_one 6 rfl (by kernel_rfl) rfl ?_;intro K hK;go_simp
 go_at_call 61
 with_reducible refine (HVT0.out wD (Mod.refl No wD)).mono ?_
 rintro e wE ⟨rfl,hmE⟩;have HME:=zh hmE;clear hmE;show K _ _
 have hS1:=HME.out.keep hS0 (fun f=>f);refine hK.out _ _ (fun _=>hS1) ?_;clear hK K;refine yT 7 (some 13) (.string ⟨S7.toArray⟩) hS1 ?_ ?_
 ·(intro w' hSw;apply ycat HS7.out (.tmp 9) (.tmp 12) <;> rfl)
 simp only [Act.put,yB,yC,yD];refine yT 8 (some 14) (.string ⟨S8.toArray⟩) hS1 ?_ ?_
 ·(intro w' hSw;apply ycat HS8.out (.tmp 13) (.const (.string ⟨#[10]⟩)) <;> rfl)
 simp only [Act.put,yB,yC,yD];refine wpAnyT_one 9 rfl (by kernel_rfl) rfl ?_;intro K hK;go_simp
 go_at_call 142
 with_reducible refine (HWS0.out wE HME.out).mono ?_
 rintro e wG ⟨⟨vG,rfl⟩,hbG,hmG⟩;have HBG:=zh hbG;have HMG:=zh hmG;clear hbG hmG;show K _ _
 have hS2:=HMG.out.keep hS1 (wrt_not hS1 (by decide) HGB.out);refine hK.out _ _ (fun _=>hS2) ?_;clear hK K;refine wpAnyT_done (by kernel_rfl) ?_ _
 have HG4:=zh hS2;have HM4:=zh (show Mod No w wG from mod_wrt (HM1.out.trans HME.out) HMG.out HBW.out);have c38:=cell_ofA HG4.out (i:=5) (v:=.slice na L.length nc) rfl;have HSB:=zh (show IsBld b b (HD++[]) wG by rw [HHD.out,List.append_nil];exact HBG.out);clear hS0 hS1 hS2 HMG HME HBG HVT0 HWS0;clear HS2 HS3 HS7 HS8;have HPS:=zh (psorted_any L HL20.out (.slice na L.length nc) wG (HNS.out.kn HM4.out));go_wp2_with fail
 with_reducible refine HPS.out.mono ?_
 rintro e wH ⟨v6,rfl,hown6,hmH⟩;obtain ⟨sa,sc,hv6⟩:=own_len hown6;subst hv6;have HMH:=zh (HM4.out.trans hmH);have HSBH:=zh (bld_keep HSB.out hmH (fun f=>f) (fun _ _ _ f=>f.elim));have HSL:=zh (show Sl wH No 98 (.slice sa L.length sc) L.length ((sortR (ltOf cfNd) L).flatMap NdY.cells) from Sl.of_own hown6 (fun _ _ f=>f));clear hown6 hmH HPS HSB c38;have hML:(sortR (ltOf cfNd) L).length=L.length:=sortR_length _ _;generalize sortR (ltOf cfNd) L=M at *;obtain ⟨m,hm⟩:∃ m,m=L.length:=⟨_,rfl⟩
 have hm20:m<=20:=by rw [hm];exact HL20.out
 have HML:=zh (show M.length=m by rw [hML,<- hm]);have HMM:=zh hm;rw [<- hm] at HSL ⊢;clear hML hm HNS;go_wp2_with fail
 go_loopw [20] (fun q20 wi=>∃ j:Nat,j<=m/\q20=.int .i64 (j:Int)/\IsBld b b (HD++(SN.take j).flatMap needT') wi/\Mod No w wi/\Mod (Wrt b b wH) wH wi) (fun q _=>m - (intOf q).toNat)
 case atStart=>exact ⟨0,by omega,rfl,by simpa using HSBH.out,HMH.out,Mod.refl _ _⟩
 case round =>
  obtain ⟨j,hj,rfl,hbj,hmj,hmw⟩:=hrel;have hj0:(0:Int)<=(j:Int):=Int.natCast_nonneg _;have HBJ:=zh hbj;have HMJ:=zh hmj;have HMW:=zh hmw;have HSJ:=zh (show Sl wr No 98 (.slice sa m sc) m (M.flatMap NdY.cells) from (sl_need_wrt HSL.out hmw (by have:=HBH.out;exact HSBH.out.elim (fun h=>h.lt) (fun h=>h.lt)) HSBH.out));clear hbj hmj hmw;by_cases hjt:j < m
  ·have hj1:(j:Int) < (m:Int):=by omega
   have hjM:j < M.length:=by rw [HML.out];exact hjt
   have hjn:j < SN.length:=by rw [<- HSE.out,List.length_map];exact hjM
   obtain ⟨g,o,c,hvs,_⟩:=HSJ.out.shape (by omega);have hsa:sa=some ⟨g,o,none⟩:=by cases hvs;rfl
   subst hsa;have HRJ:=zh (show wr.rangeAt g (o+j*4) (NdY.cells M[j]) from by have h0:=HSJ.out;rw [<- HML.out] at h0;exact Sl.atM (fun x _=>NdY.len x) h0 hjM);have HNM:=zh (show M[j].n=SN[j] by have:=HSE.out;subst this;simp);have HTJ:=zh (show (SN.take (j+1)).flatMap needT'=(SN.take j).flatMap needT'++needT' SN[j] by rw [List.take_succ_eq_append_getElem hjn,List.flatMap_append];simp only [List.flatMap_cons,List.flatMap_nil,List.append_nil]);have hle:((SN.take (j+1)).flatMap needT').length<=NT.length:=by
    have h1:NT=(SN.take (j+1)).flatMap needT'++(SN.drop (j+1)).flatMap needT':=by rw [HNT.out,<- List.flatMap_append,List.take_append_drop]
    rw [h1,List.length_append];omega
   have HNT2:=zh (show needT' SN[j]=[110,101,101,100,32]++(SN[j].name++([32]++(SN[j].text++[10]))) from rfl);rw [HTJ.out,List.length_append] at hle;have hl2:=congrArg List.length HNT2.out;simp only [List.length_append,List.length_cons,List.length_nil] at hl2;have hb2:=HBD2.out;rw [<- HNM.out] at HNT2 HTJ hle hl2;have HC4:=zh (NdY.len M[j]);have HO4:=zh (show (NdY.cells M[j]).toArray.all (·.oneCell')=true from Array.all_eq_true_iff_forall_mem.2 (fun u hu=>NdY.one _ u (by simpa using hu)));have HC0:=zh (show NdY.cells M[j]=[strV M[j].n.name,.bool M[j].n.span.any,.slice M[j].oa M[j].om M[j].oc,strV M[j].n.text] from rfl);generalize hTZ:HD++(SN.take j).flatMap needT'=TZ at *;have hzl:TZ.length=HD.length+((SN.take j).flatMap needT').length:=by rw [<- hTZ,List.length_append]
   have HTZ:=zh hTZ;have HWS:=zh (fun (W:World) (hW:Mod No wr W) (z:ByteArray) (hz:(.string z:Value)=strV (needT' M[j].n))=>show Calls prog 142 #[.pointer (some ⟨b,0,none⟩),.string z] W fun e w'=>(∃ v,e=.returned v)/\IsBld b b (TZ++needT' M[j].n) w'/\Mod (Wrt b b W) W w' by
    rw [hz];exact ws_any b b TZ (needT' M[j].n) (by omega) (by omega) W (bld_keep HBJ.out hW (fun f=>f) (fun _ _ _ f=>f.elim)) (by
     have hlt:=HBJ.out.elim (fun h=>h.lt) (fun h=>h.lt);have:=hW.size;omega))
   have hna:M[j].n.name.length<=1000000000:=by omega
   have hnb:M[j].n.text.length<=1000000000:=by omega
   clear hle hzl hb2 hTZ hl2 hvs;obtain ⟨cz,hcz⟩:∃ cz,cz=NdY.cells M[j]:=⟨_,rfl⟩
   rw [<- hcz] at HRJ HC4 HO4 HC0;clear hcz;generalize M[j]=z at *;obtain ⟨⟨NA,⟨za,zo⟩,NB⟩,oa,om,oc⟩:=z;dsimp only at *;have HZA:=zh (str_len3 NA);have HZB:=zh (str_len3 NB);have hza:(⟨NA.toArray⟩:ByteArray).size<=1000000000:=by rw [HZA.out];exact hna
   have hzb:(⟨NB.toArray⟩:ByteArray).size<=1000000000:=by rw [HZB.out];exact hnb
   clear hna hnb;go_upto_region 6 with (first | (refine wpList_load_mid rfl 98 _ rfl g (o+j*4) rfl cz _ HRJ.out underlying98 rfl (by rw [HC4.out];kernel_rfl) ?_) | (refine wpList_store_row rfl 98 _ _ rfl wr.heap.size cz.toArray rfl rfl 98 _ (heap_alloc_new wr _) (by rw [List.size_toArray,HC4.out];kernel_rfl) (by show _=cz.length;rw [HC4.out];rfl) HO4.out ?_))
   obtain ⟨gn,hgn⟩:∃ g,g=wr.heap.size:=⟨_,rfl⟩
   rw [<- hgn];generalize hw3:World.setRow _ gn cz.toArray=w3;have HM3:=zh (show Mod No wr w3 by rw [<- hw3,hgn];exact ((Mod.refl No wr).alloc _).setRow (fun h=>absurd h (by omega)) _);have hgz:w3.heap[gn]? = some (.cells cz.toArray 98 (0,0)):=by rw [<- hw3,hgn];exact setRow_heap _ _ _ _ _ _ (heap_alloc_new wr _)
   have q0:=cell_ofA hgz (i:=0) (v:=strV NA) (by rw [List.getElem?_toArray,HC0.out];rfl);have q3:=cell_ofA hgz (i:=3) (v:=strV NB) (by rw [List.getElem?_toArray,HC0.out];rfl);have HZC:=zh (show strV (needT' ⟨NA,⟨za,zo⟩,NB⟩)=.string ((((⟨#[110,101,101,100,32]⟩++(⟨NA.toArray⟩:ByteArray)) ++ ⟨#[32]⟩)++(⟨NB.toArray⟩:ByteArray)) ++ ⟨#[10]⟩) from by
    rw [HNT2.out];have e1:(⟨#[110,101,101,100,32]⟩:ByteArray)=⟨([110,101,101,100,32]:List UInt8).toArray⟩:=rfl;have e2:(⟨#[32]⟩:ByteArray)=⟨([32]:List UInt8).toArray⟩:=rfl;have e3:(⟨#[10]⟩:ByteArray)=⟨([10]:List UInt8).toArray⟩:=rfl;unfold strV;rw [e1,e2,e3,str_app,str_app,str_app,str_app];simp)
   unfold strV at q0 q3;clear hw3 hgn hgz HC0 HRJ HO4 HC4;generalize (⟨NA.toArray⟩:ByteArray)=ZA at *;generalize (⟨NB.toArray⟩:ByteArray)=ZB at *;go_wp2_with fail
   with_reducible refine (HWS.out _ HM3.out _ HZC.out.symm).mono ?_
   rintro e wX ⟨⟨vX,rfl⟩,hbX,hmX⟩;have HBX:=zh (show IsBld b b (HD++(SN.take (j+1)).flatMap needT') wX by rw [HTJ.out,<- List.append_assoc,HTZ.out];exact hbX);have HMX:=zh (mod_wrt (HMJ.out.trans HM3.out) hmX HBW.out);have HWX:=zh (show Mod (Wrt b b wH) wH wX from wrt_trans (HMW.out.trans HM3.out.no) hmX);clear hbX hmX;go_wp2_with fail
   exact ⟨⟨j+1,by omega,rfl,HBX.out,HMX.out,HWX.out⟩,by show m - ((j:Int)+1).toNat < m - (j:Int).toNat;omega⟩
  ·obtain rfl:j=m:=by omega
   have hj1:¬ ((j:Int) < (j:Int)):=by omega
   have HSTR:=zh (show Calls prog 143 #[.pointer (some ⟨b,0,none⟩)] wr fun e w'=>e=.returned (strV TT)/\Mod No w w' from by
    have h1:=HBJ.out;have h3:(SN.take j).flatMap needT'=NT:=by
     have h1:SN.length=j:=by rw [<- HSE.out,List.length_map,HML.out]
     rw [<- h1,List.take_length,HNT.out]
    rw [h3,<- HTT.out] at h1;have hsz:=HMJ.out.size;have hlt:=h1.elim (fun h=>h.lt) (fun h=>h.lt);have e:bv TT=Lib.byteCells TT:=byte_bv _;have htl:=HTL.out;unfold IsBld at h1;rw [e] at h1;refine (Tryz.Builder_String_any b b TT wr h1 (by omega)).mono fun e w' ⟨he,hbe⟩=>⟨he,?_⟩
    have hbw:=HBW.out;exact ⟨hbe.os.trans HMJ.out.os,hbe.tape.trans HMJ.out.tape,hbe.output.trans HMJ.out.output,Nat.le_trans HMJ.out.size hbe.size,fun i hi _=>(hbe.block i (by omega)).trans (HMJ.out.block i hi (fun f=>f))⟩)
   go_wp2_with fail
   with_reducible refine HSTR.out.mono ?_
   rintro e w9 ⟨rfl,hm9⟩;have HM9:=zh hm9;clear hm9 HSTR;go_wp2_with fail
   exact fin hR ⟨rfl,HM9.out⟩
def ltPn (a b:Pn):Bool:=decide (a.name < b.name)
theorem cfPn_lt (x y:PnZ):ltOf cfPn x y=ltPn x.x.p y.x.p:=by
 unfold ltOf cfPn cmpL ltPn;by_cases h:x.x.p.name < y.x.p.name
 ·rw [if_pos h];simp [h]
 ·rw [if_neg h];by_cases h2:y.x.p.name < x.x.p.name
  ·simp [h,h2]
  ·simp [h,h2]
theorem sort_pns (L:List PnZ):(sortR (ltOf cfPn) L).map (fun z=>z.x.p)=sortR ltPn (L.map fun z=>z.x.p):=by
 rw [show ltOf cfPn=fun x y=>ltPn ((fun z:PnZ=>z.x.p) x) ((fun z:PnZ=>z.x.p) y) from funext fun x=>funext fun y=>cfPn_lt x y,sortR_map]
def lkText0 (L:List PnZ):List UInt8:=lockHead++L.flatMap fun z=>pinT z.x.p
def lkText (l:List Pn):List UInt8:=lockHead++(sortR ltPn l).flatMap pinT
theorem sl_wrt {e:TypeId} (he:e ≠ 5) (he2:e ≠ 248) {w w':World} {b n:Nat} {v:Value} {xs:List Value} {l:List UInt8} (h:Sl w No e v n xs) (hm:Mod (Wrt b b w) w w') (hB:IsBld b b l w):Sl w' No e v n xs :=
 h.keep hm fun k cur fz e _ hc=>by
  rcases e with e | ⟨-,c,fz',hc'⟩
  ·subst e;have h1:∃ cs,w.heap[k]? = some (.cells cs 248 (0,0)):=hB.elim (fun h=>by obtain ⟨_,v,h2,_⟩:=h;exact ⟨_,h2⟩) (fun h=>by obtain ⟨_,v,h2,_⟩:=h;exact ⟨_,h2⟩);obtain ⟨cs,h1⟩:=h1;rw [h1] at hc;cases hc;exact he2 rfl
  ·rw [hc'] at hc;cases hc;exact he rfl
theorem ltext_any (xs:List PnX) (h20:xs.length<=20) (v:Value) (w:World) (hv:Sl w No 120 v xs.length (xs.flatMap PnX.cells)) (hp:∀ x ∈ xs,PnS w x) (hvn:∀ x ∈ xs,VerNat x.p.v) (htl:(lkText (xs.map PnX.p)).length<=1000000000) (ht:TabOk w) :
  Calls prog 103 #[v] w fun e w'=>e=.returned (strV (lkText (xs.map PnX.p)))/\Mod No w w':=by
 refine calls_hide fun R hR=>?_
 obtain ⟨L,hL⟩:=pn_z xs (fun y hy=>⟨(hp y hy).sum,by obtain ⟨a,c,e⟩:=(hp y hy).pre.len;exact ⟨a,_,c,e⟩⟩);subst hL;rw [List.length_map] at hv h20;rw [z_flat] at hv;have HP:=zh (show ∀ z ∈ L,PnS w z.x from fun z hz=>hp _ (List.mem_map.2 ⟨z,hz,rfl⟩));have HVN:=zh (show ∀ z ∈ L,VerNat z.x.p.v from fun z hz=>hvn _ (List.mem_map.2 ⟨z,hz,rfl⟩));have HTT:=zh (show lkText ((L.map PnZ.x).map PnX.p)=lkText0 (sortR (ltOf cfPn) L) by
  unfold lkText lkText0;rw [List.map_map,show (PnX.p∘PnZ.x)=fun z:PnZ=>z.x.p from rfl,<- sort_pns,List.flatMap_map])
 rw [HTT.out] at htl hR;have HTL:=zh htl;have HTB:=zh ht;have HCL:=zh (clonepn_own L.length (by omega) v (L.flatMap PnZ.cells) (flat_length PnZ.len L) (fun u hu=>by
  obtain ⟨z,hz,hu⟩:=List.mem_flatMap.1 hu;exact PnZ.one z u hu) w hv)
 obtain ⟨va,vc,rfl⟩:=hv.len;have HL20:=zh h20;obtain ⟨m,hm⟩:∃ m,m=L.length:=⟨_,rfl⟩
 have HMM:=zh hm;rw [<- hm] at HCL h20 ⊢;clear hv hp hvn htl ht HTT hm;go_enter func103,ntmps103
 go_wp2_with fail
 with_reducible refine HCL.out.mono ?_
 rintro e w1 ⟨v1,rfl,hown,hm1⟩;obtain ⟨sa,sc,hsv⟩:=own_len hown;subst hsv;have HST:=zh (sortownP_any w.heap.size L HL20.out sa sc w1 (by rw [<- HMM.out];exact hown));rw [<- HMM.out] at HST;have HBK:=zh (show ∀ q,(Value.slice sa m sc).ownBlock=some q->w.heap.size<=q from fun q e=>own_atB hown e);have HM1:=zh hm1;clear hown hm1 HCL;go_wp2_with fail
 with_reducible refine HST.out.mono ?_
 rintro e w2 ⟨rfl,hown2,hm2⟩;have HM2:=zh (HM1.out.then hm2 (S:=No) (fun q hq e=>by have h1:=HBK.out q e;omega));have HSL2:=zh (show Sl w2 No 120 (.slice sa m sc) m ((sortR (ltOf cfPn) L).flatMap PnZ.cells) from Sl.of_own hown2 (fun _ _ f=>f));have HPM:=zh (show ∀ z ∈ sortR (ltOf cfPn) L,PnS w z.x/\VerNat z.x.p.v from fun z hz=>⟨HP.out z ((sortR_mem _ _ _).1 hz),HVN.out z ((sortR_mem _ _ _).1 hz)⟩);have hML:(sortR (ltOf cfPn) L).length=L.length:=sortR_length _ _;generalize sortR (ltOf cfPn) L=M at *;have HML:=zh (show M.length=m by rw [hML,HMM.out]);clear hown2 hm2 HST HP HVN HBK hML;have HLEN:=zh (show ∀ k,(lkText0 (M.take k)).length<=(lkText0 M).length from fun k=>by
  unfold lkText0;conv=>rhs;rw [<- List.take_append_drop k M]
  rw [List.flatMap_append,<- List.append_assoc,List.length_append (bs:=(M.drop k).flatMap _)];omega)
 have HFI:=zh (show M.take m=M by rw [<- HML.out];exact List.take_length);go_upto_region 4 with fail
 obtain ⟨b,hb⟩:∃ b,b=w2.heap.size:=⟨_,rfl⟩
 rw [<- hb];have HBW:=zh (show w.heap.size<=b by have:=HM2.out.size;omega);generalize hwa:World.alloc w2 _=wa;have HBA:=zh (show IsBld b b [] wa from by
  rw [<- hwa,hb];exact .inl ⟨Nat.le_refl _,_,heap_alloc_new w2 _,⟨rfl,.inl ⟨rfl,rfl⟩⟩,fun e=>by (cases e)⟩)
 have hma:Mod No w2 wa:=by rw [<- hwa];exact (Mod.refl No w2).alloc _
 have HMA:=zh (HM2.out.trans hma);have HSLA:=zh (HSL2.out.kn hma);have HWS1:=zh (ws_any b b [] lockHead (by simp) (by decide) wa HBA.out (by
  have hlt:=HBA.out.elim (fun h=>h.lt) (fun h=>h.lt);omega))
 rw [show strV lockHead=.string ⟨#[108,111,99,107,32,49,10]⟩ from rfl,List.nil_append] at HWS1;clear hwa hma hb HSL2;go_wp2_with fail
 with_reducible refine HWS1.out.mono ?_
 rintro e wH ⟨⟨vH,rfl⟩,hbH,hmH⟩;have HBH:=zh hbH;have HMH:=zh (mod_wrt HMA.out hmH HBW.out);have HSL:=zh (sl_wrt (by decide) (by decide) HSLA.out hmH HBA.out);clear hbH hmH HWS1;go_wp2_with fail
 go_loopw [13] (fun q13 wi=>∃ j:Nat,j<=m/\q13=.int .i64 (j:Int)/\IsBld b b (lkText0 (M.take j)) wi/\Mod No w wi/\Mod (Wrt b b wH) wH wi) (fun q _=>m - (intOf q).toNat)
 case atStart=>exact ⟨0,by omega,rfl,by simpa [lkText0] using HBH.out,HMH.out,Mod.refl _ _⟩
 case round =>
  obtain ⟨j,hj,rfl,hbj,hmj,hmw⟩:=hrel;have hj0:(0:Int)<=(j:Int):=Int.natCast_nonneg _;have HBJ:=zh hbj;have HMJ:=zh hmj;have HMW:=zh hmw;have HSJ:=zh (show Sl wr No 120 (.slice sa m sc) m (M.flatMap PnZ.cells) from sl_wrt (by decide) (by decide) HSL.out hmw HBH.out);clear hbj hmj hmw;by_cases hjt:j < m
  ·have hj1:(j:Int) < (m:Int):=by omega
   have hjM:j < M.length:=by rw [HML.out];exact hjt
   obtain ⟨g,o,c,hvs,_⟩:=HSJ.out.shape (by omega);have hsa:sa=some ⟨g,o,none⟩:=by cases hvs;rfl
   subst hsa;have HRJ:=zh (show wr.rangeAt g (o+j*37) (PnZ.cells M[j]) from by have h0:=HSJ.out;rw [<- HML.out] at h0;exact Sl.atM (fun x _=>PnZ.len x) h0 hjM);have HTJ:=zh (show lkText0 (M.take (j+1))=lkText0 (M.take j)++pinT M[j].x.p by
    unfold lkText0;rw [List.take_succ_eq_append_getElem hjM,List.flatMap_append,List.append_assoc];simp)
   have HBD:=zh (show (lkText0 (M.take j)++pinT M[j].x.p).length<=1000000000 by rw [<- HTJ.out];exact Nat.le_trans (HLEN.out (j+1)) HTL.out);have HPT:=zh (show pinT M[j].x.p=M[j].x.p.name++32 :: (verT M[j].x.p.v++32 :: (hexL M[j].x.p.sum++[10])) from rfl);have HC37:=zh (PnZ.len M[j]);have HO37:=zh (show (PnZ.cells M[j]).toArray.all (·.oneCell')=true from Array.all_eq_true_iff_forall_mem.2 (fun u hu=>PnZ.one _ u (by simpa using hu)));have HCS:=zh (show PnZ.cells M[j]=strV M[j].x.p.name :: (verCs M[j].x.p.v M[j].x.pv++bv M[j].x.p.sum) from rfl);obtain ⟨hps,hvn⟩:=HPM.out _ (List.getElem_mem hjM);have HSLX:=zh hps.sum;have HHX0:=zh (hex_any M[j].x.p.sum hps.sum);have HVT1:=zh (fun W (hm:Mod No wr W)=>vertext_sv M[j].x.p.v M[j].x.pv hps.small hvn.low hvn.high W (hps.pre.kn (HMJ.out.trans hm)) (HTB.out.keep (HMJ.out.trans hm) (fun f=>f)));obtain ⟨pa,pc,hpe⟩:=hps.pre.len;obtain ⟨cz,hcz⟩:∃ cz,cz=PnZ.cells M[j]:=⟨_,rfl⟩
   rw [<- hcz] at HRJ HC37 HO37 HCS;clear hcz hps hvn hvs;generalize M[j].x=y at *;generalize hTX:lkText0 (M.take j)=TX at *;obtain ⟨⟨nm,⟨xa,xi,xp,xpr⟩,sm⟩,ypv⟩:=y;dsimp only at *;subst hpe;generalize hPK:pinT ⟨nm,⟨xa,xi,xp,xpr⟩,sm⟩=PK at *;obtain ⟨pn,hpn⟩:∃ n,n=xpr.length:=⟨_,rfl⟩
   rw [<- hpn] at HVT1 HCS;clear hpn hTX hPK;unfold verCs at HCS;unfold verV at HVT1;dsimp only at HCS HVT1;have hpl:=HBD.out;rw [List.length_append,HPT.out] at hpl;simp only [List.length_append,List.length_cons,List.length_nil] at hpl;generalize verT ⟨xa,xi,xp,xpr⟩=VT at *;generalize hexL sm=HX at *;obtain ⟨S2,hS2⟩:∃ c,c=nm++[32]:=⟨_,rfl⟩
   have hlS2:S2.length=nm.length+1:=(congrArg List.length hS2).trans List.length_append;have HS2:=zh (show nm++[32]=S2/\S2.length<=9223372036854775807 from ⟨hS2.symm,by omega⟩);obtain ⟨S6,hS6⟩:∃ c,c=S2++VT:=⟨_,rfl⟩
   have hlS6:S6.length=S2.length+VT.length:=(congrArg List.length hS6).trans List.length_append;have HS6:=zh (show S2++VT=S6/\S6.length<=9223372036854775807 from ⟨hS6.symm,by omega⟩);obtain ⟨S7,hS7⟩:∃ c,c=S6++[32]:=⟨_,rfl⟩
   have hlS7:S7.length=S6.length+1:=(congrArg List.length hS7).trans List.length_append;have HS7:=zh (show S6++[32]=S7/\S7.length<=9223372036854775807 from ⟨hS7.symm,by omega⟩);obtain ⟨S11,hS11⟩:∃ c,c=S7++HX:=⟨_,rfl⟩
   have hlS11:S11.length=S7.length+HX.length:=(congrArg List.length hS11).trans List.length_append;have HS11:=zh (show S7++HX=S11/\S11.length<=9223372036854775807 from ⟨hS11.symm,by omega⟩);obtain ⟨S12,hS12⟩:∃ c,c=S11++[10]:=⟨_,rfl⟩
   have hlS12:S12.length=S11.length+1:=(congrArg List.length hS12).trans List.length_append;have HS12:=zh (show S11++[10]=S12/\S12.length<=9223372036854775807 from ⟨hS12.symm,by omega⟩);have HPK:=zh (show PK=S12 by rw [HPT.out];rw [<- HS12.out.1,<- HS11.out.1,<- HS7.out.1,<- HS6.out.1,<- HS2.out.1];simp);have HLL:=zh (show TX.length+S12.length<=1000000000 by omega);clear hS2 hlS2 hS6 hlS6 hS7 hlS7 hS11 hlS11 hS12 hlS12;clear hpl;unfold strV at HVT1 HCS;go_upto_region 8 with (first | (refine wpList_load_mid rfl 120 _ rfl g (o+j*37) rfl cz _ HRJ.out underlying120 rfl (by rw [HC37.out];exact pin_size) ?_) | (refine wpList_store_row rfl 120 _ _ rfl wr.heap.size cz.toArray rfl rfl 120 _ (heap_alloc_new wr _) (by rw [List.size_toArray,HC37.out];exact pin_size) (by show _=cz.length;rw [HC37.out];rfl) HO37.out ?_))
   obtain ⟨gn,hgn⟩:∃ g,g=wr.heap.size:=⟨_,rfl⟩
   rw [<- hgn];generalize hw3:World.setRow _ gn cz.toArray=w3;have HM3:=zh (show Mod No wr w3 by rw [<- hw3,hgn];exact ((Mod.refl No wr).alloc _).setRow (fun h=>absurd h (by omega)) _);have hgz:w3.heap[gn]? = some (.cells cz.toArray 120 (0,0)):=by rw [<- hw3,hgn];exact setRow_heap _ _ _ _ _ _ (heap_alloc_new wr _)
   have HGB:=zh (show gn ≠ b from by
    have hlt:=HBJ.out.elim (fun h=>h.lt) (fun h=>h.lt);omega)
   obtain ⟨wD,hwD⟩:∃ x,x=w3.drew:=⟨_,rfl⟩
   have HWD:=zh hwD;have HMD:=zh (show Mod No w3 wD by rw [hwD];exact (Mod.refl No w3).drew);have hS0:wD.heap[gn]? = some (.cells cz.toArray 120 (0,0)):=HMD.out.keep hgz (fun f=>f);have HSM:=zh (show ∀ w':World,w'.heap[gn]? = some (.cells cz.toArray 120 (0,0))->w'.cell? ⟨gn,0,none⟩=some (.string ⟨nm.toArray⟩)/\w'.rangeAt gn 1 [.int .i64 xa,.int .i64 xi,.int .i64 xp,.slice pa pn pc]/\w'.rangeAt gn 5 (bv sm) from fun w' h=>by
    have hr:w'.rangeAt gn 0 (.string ⟨nm.toArray⟩ :: ([.int .i64 xa,.int .i64 xi,.int .i64 xp,.slice pa pn pc]++bv sm)):=fun j u hj=>by
     rw [Nat.zero_add];exact cell_ofA h (by rw [List.getElem?_toArray,HCS.out];exact hj)
    exact ⟨hr 0 _ rfl,rangeAt_part (p:=[.string ⟨nm.toArray⟩]) (q:=[.int .i64 xa,.int .i64 xi,.int .i64 xp,.slice pa pn pc]) (r:=bv sm) (by exact hr),rangeAt_part (p:=[.string ⟨nm.toArray⟩,.int .i64 xa,.int .i64 xi,.int .i64 xp,.slice pa pn pc]) (q:=bv sm) (r:=[]) (by rw [List.append_nil];exact hr)⟩)
   have HVT0:=zh (fun W (hm:Mod No wD W)=>HVT1.out W ((HM3.out.trans HMD.out).trans hm));have HWS0:=zh (fun W (hm:Mod No wD W)=>ws_any b b TX S12 (by have:=HLL.out;omega) (by have:=HLL.out;omega) W (bld_keep HBJ.out ((HM3.out.trans HMD.out).trans hm) (fun f=>f) (fun _ _ _ f=>f.elim)) (by
    have hlt:=HBJ.out.elim (fun h=>h.lt) (fun h=>h.lt);have:=((HM3.out.trans HMD.out).trans hm).size;omega))
   unfold strV at HWS0;clear hw3 hgz hgn hwD HRJ HCS HO37 HC37 HVT1;refine wp_region_T (fun w':World=>w'.heap[gn]? = some (.cells cz.toArray 120 (0,0))) 99 (by kernel_rfl) ?_;rw [<- HWD.out];refine yS 0 17 hS0 ?_;refine yT 1 (some 18) ?_ hS0 ?_ ?_;rotate_left
   ·(intro w' hSw;have q0:=(HSM.out w' hSw).1;go_simp;try with_reducible rfl)
   simp only [Act.put,yB,yC,yD];refine yT 2 (some 19) (.string ⟨S2.toArray⟩) hS0 ?_ ?_
   ·(intro w' hSw;apply ycat HS2.out (.tmp 18) (.const (.string ⟨#[32]⟩)) <;> rfl)
   simp only [Act.put,yB,yC,yD];refine yS 3 20 hS0 ?_;refine yT 4 (some 21) (.agg #[.int .i64 xa,.int .i64 xi,.int .i64 xp,.slice pa pn pc]) hS0 ?_ ?_
   ·(intro w' hSw;apply yloadv (run_loadVar_mid w' gn 1 40 [.int .i64 xa,.int .i64 xi,.int .i64 xp,.slice pa pn pc] _ (HSM.out w' hSw).2.1 underlying40 rfl (by kernel_rfl)) (.tmp 20) <;> rfl)
   simp only [Act.put,yB,yC,yD];refine yS 8 25 hS0 ?_;refine yT 9 (some 26) (keyV sm) hS0 ?_ ?_
   ·(intro w' hSw;apply yloadv (run_loadVar_mid w' gn 5 105 (bv sm) _ (HSM.out w' hSw).2.2 underlying105 rfl (by rw [bv_length,HSLX.out];kernel_rfl)) (.tmp 25) <;> rfl)
   simp only [Act.put,yB,yC,yD];refine wpAnyT_one 5 rfl (by kernel_rfl) rfl ?_;intro K hK;go_simp
   go_at_call 61
   with_reducible refine (HVT0.out wD (Mod.refl No wD)).mono ?_
   rintro e wE ⟨rfl,hmE⟩;have HME:=zh hmE;clear hmE;show K _ _
   have hS1:=HME.out.keep hS0 (fun f=>f);refine hK.out _ _ (fun _=>hS1) ?_;clear hK K;refine yT 6 (some 23) (.string ⟨S6.toArray⟩) hS1 ?_ ?_
   ·(intro w' hSw;apply ycat HS6.out (.tmp 19) (.tmp 22) <;> rfl)
   simp only [Act.put,yB,yC,yD];refine yT 7 (some 24) (.string ⟨S7.toArray⟩) hS1 ?_ ?_
   ·(intro w' hSw;apply ycat HS7.out (.tmp 23) (.const (.string ⟨#[32]⟩)) <;> rfl)
   simp only [Act.put,yB,yC,yD];refine wpAnyT_one 10 rfl (by kernel_rfl) rfl ?_;intro K hK;go_simp
   go_at_call 164
   with_reducible refine (HHX0.out wE).mono ?_
   rintro e wF ⟨rfl,hmF⟩;have HMF:=zh (HME.out.trans hmF);clear hmF;show K _ _
   have hS2:=HMF.out.keep hS0 (fun f=>f);refine hK.out _ _ (fun _=>hS2) ?_;clear hK K;refine yT 11 (some 28) (.string ⟨S11.toArray⟩) hS2 ?_ ?_
   ·(intro w' hSw;apply ycat HS11.out (.tmp 24) (.tmp 27) <;> rfl)
   simp only [Act.put,yB,yC,yD];refine yT 12 (some 29) (.string ⟨S12.toArray⟩) hS2 ?_ ?_
   ·(intro w' hSw;apply ycat HS12.out (.tmp 28) (.const (.string ⟨#[10]⟩)) <;> rfl)
   simp only [Act.put,yB,yC,yD];refine wpAnyT_one 13 rfl (by kernel_rfl) rfl ?_;intro K hK;go_simp
   go_at_call 142
   with_reducible refine (HWS0.out wF HMF.out).mono ?_
   rintro e wG ⟨⟨vG,rfl⟩,hbG,hmG⟩;have HBG:=zh hbG;have HMG:=zh hmG;clear hbG hmG;show K _ _
   have hS3:=HMG.out.keep hS2 (wrt_not hS2 (by decide) HGB.out);refine hK.out _ _ (fun _=>hS3) ?_;clear hK K;refine wpAnyT_done (by kernel_rfl) ?_ _
   have HBX:=zh (show IsBld b b (lkText0 (M.take (j+1))) wG by rw [HTJ.out,HPK.out];exact HBG.out);have HMX:=zh (mod_wrt ((HMJ.out.trans HM3.out).trans (HMD.out.trans HMF.out)) HMG.out HBW.out);have HWX:=zh (show Mod (Wrt b b wH) wH wG from wrt_trans (HMW.out.trans (HM3.out.trans (HMD.out.trans HMF.out)).no) HMG.out);clear hS0 hS1 hS2 hS3 HMG HMF HME HBG HVT0 HHX0 HWS0;clear HS2 HS6 HS7 HS11 HS12;go_wp2_with fail
   exact ⟨⟨j+1,by omega,rfl,HBX.out,HMX.out,HWX.out⟩,by show m - ((j:Int)+1).toNat < m - (j:Int).toNat;omega⟩
  ·obtain rfl:j=m:=by omega
   have hj1:¬ ((j:Int) < (j:Int)):=by omega
   have HSTR:=zh (show Calls prog 143 #[.pointer (some ⟨b,0,none⟩)] wr fun e w'=>e=.returned (strV (lkText0 M))/\Mod No w w' from by
    have h1:=HBJ.out;rw [HFI.out] at h1;have htl:=HTL.out;generalize lkText0 M=TT at *;have hsz:=HMJ.out.size;have hlt:=h1.elim (fun h=>h.lt) (fun h=>h.lt);have e:bv TT=Lib.byteCells TT:=byte_bv _;unfold IsBld at h1;rw [e] at h1;refine (Tryz.Builder_String_any b b TT wr h1 (by omega)).mono fun e w' ⟨he,hbe⟩=>⟨he,?_⟩
    have hbw:=HBW.out;exact ⟨hbe.os.trans HMJ.out.os,hbe.tape.trans HMJ.out.tape,hbe.output.trans HMJ.out.output,Nat.le_trans HMJ.out.size hbe.size,fun i hi _=>(hbe.block i (by omega)).trans (HMJ.out.block i hi (fun f=>f))⟩)
   go_wp2_with fail
   with_reducible refine HSTR.out.mono ?_
   rintro e w9 ⟨rfl,hm9⟩;have HM9:=zh hm9;clear hm9 HSTR;go_wp2_with fail
   exact fin hR ⟨rfl,HM9.out⟩
theorem mline_two (B mb n:Nat) (hn:n < 2) (hmb:mb < B) (m:Mf) (pv nv:Value) (ys:List NdX) (s:List UInt8) (hl:s.length<=100000) (w:World) (hgl:Gl w) (hBw:B<=w.heap.size) (hw:MfW w B mb m pv nv ys) :
  Calls prog 106 #[.pointer (some ⟨mb,0,none⟩),.int .i64 (n:Int),strV s] w fun e w'=>MlRes w' B mb n m s e/\Mod (fun k=>k=mb\/B<=k) w w':=by
 match n,hn with
 | 0,_=>exact mline_name B mb hmb m pv nv ys s hl w hw
 | 1,_=>exact mline_ver B mb hmb m pv nv ys s hl w hgl hBw hw
theorem mparse_lean (s:List UInt8) (hs:s.length<=1000000) (h2:(linesL s).length<=2) (w:World) (hgl:Gl w) :
  Calls prog 66 #[strV s] w fun e w'=>MfRes w' s e/\Mod No w w':=by
 refine calls_hide fun R hR=>?_
 have hz:=str_len3 s;have HRES:=zh (show mfOf s=if 65536 < s.length then none else match mlines 0 mf0 (linesL s) with
  | none=>none
  | some (n,m)=>if n < 2 then none else some { m with needs:=sortR ltNd m.needs } from rfl)
 obtain ⟨ga,hga⟩:∃ g,g=w.heap.size:=⟨_,rfl⟩
 obtain ⟨gb,hgb⟩:∃ g,g=w.heap.size+1:=⟨_,rfl⟩
 obtain ⟨w0,hw0⟩:∃ w0,w0=w.alloc (.cells #[.string ⟨#[]⟩,.int .i64 0,.int .i64 0,.int .i64 0,.slice none 0 0,.slice none 0 0] 46):=⟨_,rfl⟩
 have m0:Mod No w w0:=by rw [hw0];exact (Mod.refl No w).alloc _
 have ha0:w0.heap[ga]? = some (.cells #[.string ⟨#[]⟩,.int .i64 0,.int .i64 0,.int .i64 0,.slice none 0 0,.slice none 0 0] 46 (0,0)):=by rw [hw0,hga];exact heap_alloc_new w _
 obtain ⟨w1,hw1⟩:∃ w1,w1=w0.alloc (.cells #[.string ⟨#[]⟩,.int .i64 0,.int .i64 0,.int .i64 0,.slice none 0 0,.slice none 0 0] 46):=⟨_,rfl⟩
 have m1:Mod No w0 w1:=by rw [hw1];exact (Mod.refl No w0).alloc _
 have hs0:w0.heap.size=gb:=by rw [hw0,hgb];simp
 have ha1:=m1.keep ha0 (fun f=>f);have hb1:w1.heap[gb]? = some (.cells #[.string ⟨#[]⟩,.int .i64 0,.int .i64 0,.int .i64 0,.slice none 0 0,.slice none 0 0] 46 (0,0)):=by rw [hw1,<- hs0];exact heap_alloc_new w0 _
 have HLN:=zh (lines_any s hs w1 (hgl.stay (m0.trans m1) (fun f=>f)));have HLM:=zh (show ∀ x ∈ linesL s,x.length<=s.length from fun x hx=>by
  unfold linesL at hx;split at hx
  ·exact splitC_mem_le 10 s x ((List.dropLast_sublist _).subset hx)
  ·exact splitC_mem_le 10 s x hx)
 have HLL:=zh (show (linesL s).length<=s.length+1 from by
  have h:=splitC_length_le 10 s;unfold linesL;split
  ·rw [List.length_dropLast];omega
  ·exact h)
 have HG:=zh hgl;have HGLT:=zh (show 2 < w.heap.size by obtain ⟨x,hx⟩:=hgl;exact lt_of_cell hx);have HW0:=zh hw0;have HW1:=zh hw1;have HM0:=zh m0;have HM1:=zh (m0.trans m1);have HA0:=zh ha0;have HA1:=zh ha1;have HGA:=zh hga;have HGB:=zh hgb;have HS0:=zh hs0;have HB1:=zh hb1;have hsI:(s.length:Int)<=1000000:=by omega
 clear hgl hw0 hw1 m0 m1 ha0 ha1 hb1 hs0 hga hgb;unfold strV at *;generalize (⟨s.toArray⟩:ByteArray)=Z at *;go_enter func66,ntmps66
 go_upto_region 1 with fail
 rw [<- HW0.out,<- HGA.out];by_cases hlong:65536 < s.length
 ·have hN:mfOf s=none:=by rw [HRES.out,if_pos hlong]
  have HN:=zh hN;have hlI:(65536:Int) < (s.length:Int):=by omega
  have c0:=cell_ofA HA0.out (i:=0) rfl;have c1:=cell_ofA HA0.out (i:=1) rfl;have c2:=cell_ofA HA0.out (i:=2) rfl;have c3:=cell_ofA HA0.out (i:=3) rfl;have c4:=cell_ofA HA0.out (i:=4) rfl;have c5:=cell_ofA HA0.out (i:=5) rfl;have z0:=frozen_of 0 HA0.out;have z1:=frozen_of 1 HA0.out;have z2:=frozen_of 2 HA0.out;have z3:=frozen_of 3 HA0.out;have z4:=frozen_of 4 HA0.out;have z5:=frozen_of 5 HA0.out;have HE:=zh (set6 HA0.out (.string ⟨#[]⟩) (.int .i64 0) (.int .i64 0) (.int .i64 0) (.slice none 0 0) (.slice none 0 0));have HMz:=zh (HM0.out.set6 (b:=ga) (fun h=>by have:=HGA.out;omega) (.string ⟨#[]⟩) (.int .i64 0) (.int .i64 0) (.int .i64 0) (.slice none 0 0) (.slice none 0 0));clear hN hlong;go_wp2_with fail
  have hl9:=load_mft HE.out;exact bodyPost_ret (v:=.tuple #[.agg mftZ,.int .i64 0,.int .i64 62]) (by simp [results,results66,asAddr,hl9,mftZ]) rfl (fin hR ⟨by unfold MfRes;rw [HN.out];exact ⟨0,rfl⟩,HMz.out⟩)
 rw [if_neg hlong] at HRES;have hlI:¬ ((65536:Int) < (s.length:Int)):=by omega
 go_upto_region 4 with fail
 rw [<- HW1.out,HS0.out];clear hlI;go_wp2_with fail
 with_reducible refine HLN.out.mono ?_
 rintro e w2 ⟨lv,rfl,hsl,hm2⟩;obtain ⟨la,lc,rfl⟩:=hsl.len;generalize hls:linesL s=ls at *;obtain ⟨n,hn⟩:∃ n,n=ls.length:=⟨_,rfl⟩
 rw [<- hn] at hsl;rw [<- hn];have HLS:=zh hsl;have HNL:=zh hn;have hn6:n<=2:=by omega
 have HM2:=zh (HM1.out.trans hm2);have HA2:=zh (hm2.keep HA1.out (fun f=>f));have hb2:=hm2.keep HB1.out (fun f=>f);obtain ⟨B,hB⟩:∃ B,B=w2.heap.size:=⟨_,rfl⟩
 have hgB:gb < B:=by have:=lt_of_heap hb2;omega
 have HMW2:=zh (show MfW w2 B gb mf0 (.slice none 0 0) (.slice none 0 0) [] from ⟨hb2,.inl ⟨rfl,rfl,rfl⟩,rfl,(fun y hy=>by cases hy),⟨by simp [mf0],.inl ⟨rfl,rfl⟩⟩,by simp [mf0]⟩);have HB2:=zh hb2;have HBE:=zh hB;have HGL2:=zh (HG.out.stay HM2.out (fun f=>f));clear hsl hm2 hn hb2 hB HLN HA1 HB1 HM1 hls HLL HM0 HA0 HG;go_wp2_with fail
 go_loopw [6,16] (fun q u wr=>∃ (k c:Nat) (m:Mf) (pv nv:Value) (ys:List NdX),k<=n/\c<=k/\q=.int .i64 (c:Int)/\u=.int .i64 (k:Int)/\MfW wr B gb m pv nv ys/\Mod (fun p=>p=gb\/B<=p) w2 wr/\mlines 0 mf0 ls=mlines c m (ls.drop k)) (fun _ u _=>n - (intOf u).toNat)
 case atStart=>exact ⟨0,0,mf0,_,_,_,by omega,by omega,rfl,rfl,HMW2.out,Mod.refl _ _,by simp⟩
 case round =>
  obtain ⟨k,c,m,pv,nv,ys,hk,hck,rfl,rfl,hmw,hmo,hgo⟩:=hrel;have HW:=zh hmw;have HMO:=zh hmo;have HGO:=zh hgo;have hk0:(0:Int)<=(k:Int):=Int.natCast_nonneg _;have hc0:(0:Int)<=(c:Int):=Int.natCast_nonneg _;have HAR:=zh (hmo.keep HA2.out (fun h=>by have:=HGA.out;have:=HGB.out;have:=HBE.out;have:=lt_of_heap HA2.out;omega));have HMR:=zh (show Mod No w wr from HM2.out.then hmo (fun i hi h=>by have:=HGB.out;have:=HBE.out;have:=HM2.out.size;omega));have HGLR:=zh (HGL2.out.stay hmo (fun h=>by have:=HGLT.out;have:=HGA.out;have:=HGB.out;have:=HBE.out;have:=HM2.out.size;rcases h with h | h <;> omega));clear hmw hmo hgo;by_cases hlt:k < n
  ·have hk1:(k:Int) < (n:Int):=by omega
   have hkl:k < ls.length:=by rw [<- HNL.out];exact hlt
   obtain ⟨b,o,c',hvs,_⟩:=HLS.out.shape (by omega);cases hvs
   have hcell:=HMO.out.cell (HLS.out.cellN (i:=k) (by rw [strs_length];exact hkl)) (fun h=>by
    obtain ⟨cur,fz,hb⟩:=HLS.out.block;rcases h with h | h
    ·have h:b=gb:=h;rw [h,HB2.out] at hb;cases hb
    ·have h:B<=b:=h;have:=lt_of_heap hb;have:=HBE.out;omega)
   rw [show (strs ls)[k]'(by rw [strs_length];exact hkl)=.string ⟨ls[k].toArray⟩ from by simp [strs,strV]] at hcell;have hdr:ls.drop k=ls[k] :: ls.drop (k+1):=List.drop_eq_getElem_cons hkl;have hll:=HLM.out ls[k] (List.getElem_mem hkl);have HSI:=zh (silent_any ls[k]);have HLI:=zh (mline_two B gb c (by omega) hgB m pv nv ys ls[k] (by omega) wr HGLR.out (by have:=HMO.out.size;have:=HBE.out;omega) HW.out);have HDR:=zh hdr;have HK1:=zh (show IntKind.i64.wrap ((k:Int)+1)=(k:Int)+1 by rw [IntKind.wrap_i64];omega);clear hdr hll;generalize ls[k]=L at *;unfold strV at *;generalize (⟨L.toArray⟩:ByteArray)=LZ at *;cases hsil:silentB L with
   | true =>
    have HG2:=zh (show mlines 0 mf0 ls=mlines c m (ls.drop (k+1)) by rw [HGO.out,HDR.out,mlines_silent hsil]);rw [hsil] at HSI;clear hsil HGO HDR HLI HK1;go_wp2_with fail
    with_reducible refine (HSI.out _).mono ?_
    rintro e w9 ⟨rfl,rfl⟩;go_wp2_with fail
    exact ⟨⟨k+1,c,m,pv,nv,ys,by omega,by omega,rfl,rfl,HW.out,HMO.out,HG2.out⟩,by show n - ((k:Int)+1).toNat < n - (k:Int).toNat;omega⟩
   | false =>
    have HG3:=zh (fun m' h=>show mlines 0 mf0 ls=mlines (c+1) m' (ls.drop (k+1)) by rw [HGO.out,HDR.out,mlines_step hsil h]);have HG4:=zh (fun h=>show mlines 0 mf0 ls=none by rw [HGO.out,HDR.out,mlines_bad hsil h]);rw [hsil] at HSI;clear hsil HGO HDR;go_wp2_with fail
    with_reducible refine (HSI.out _).mono ?_
    rintro e w9 ⟨rfl,rfl⟩;go_wp2_with fail
    with_reducible refine HLI.out.mono ?_
    rintro e w4 ⟨⟨ok,rfl,hok⟩,hm4⟩;have HMO4:=zh (HMO.out.trans hm4);have HA4:=zh (hm4.keep HAR.out (fun h=>by have:=HGA.out;have:=HGB.out;have:=HBE.out;have:=lt_of_heap HA2.out;omega));have HM4:=zh (HMR.out.then hm4 (fun i hi h=>by have:=HGB.out;have:=HBE.out;have:=HM2.out.size;omega));clear hm4 hcell HMO HAR HMR HLI HW;cases ok with
    | true =>
     obtain ⟨m',pv',nv',ys',hst,hmw'⟩:=(show ∃ m' pv nv ys,mstep c m L=some m'/\MfW w4 B gb m' pv nv ys from hok)
     have HW4:=zh hmw';have HG5:=zh (HG3.out m' hst);have hwc:=wrap_nat (k:=c+1) (by omega);clear hok hst hmw' HG3 HG4 hwc;go_wp2_with fail
     exact ⟨⟨k+1,c+1,m',pv',nv',ys',by omega,by omega,rfl,rfl,HW4.out,HMO4.out,HG5.out⟩,by show n - ((k:Int)+1).toNat < n - (k:Int).toNat;omega⟩
    | false =>
     have hN:mfOf s=none:=by rw [HRES.out,HG4.out hok]
     have HN:=zh hN;have c0:=cell_ofA HA4.out (i:=0) rfl;have c1:=cell_ofA HA4.out (i:=1) rfl;have c2:=cell_ofA HA4.out (i:=2) rfl;have c3:=cell_ofA HA4.out (i:=3) rfl;have c4:=cell_ofA HA4.out (i:=4) rfl;have c5:=cell_ofA HA4.out (i:=5) rfl;have z0:=frozen_of 0 HA4.out;have z1:=frozen_of 1 HA4.out;have z2:=frozen_of 2 HA4.out;have z3:=frozen_of 3 HA4.out;have z4:=frozen_of 4 HA4.out;have z5:=frozen_of 5 HA4.out;have HE:=zh (set6 HA4.out (.string ⟨#[]⟩) (.int .i64 0) (.int .i64 0) (.int .i64 0) (.slice none 0 0) (.slice none 0 0));have HMz:=zh (HM4.out.set6 (b:=ga) (fun h=>by have:=HGA.out;omega) (.string ⟨#[]⟩) (.int .i64 0) (.int .i64 0) (.int .i64 0) (.slice none 0 0) (.slice none 0 0));clear hN hok HG3 HG4;go_wp2_with fail
     have hl9:=load_mft HE.out;exact bodyPost_ret (v:=.tuple #[.agg mftZ,.int .i64 ((k:Int)+1),.int .i64 62]) (by simp [results,results66,asAddr,hl9,mftZ]) rfl (fin hR ⟨by unfold MfRes;rw [HN.out];exact ⟨_,rfl⟩,HMz.out⟩)
  ·obtain rfl:k=n:=by omega
   have hk1:¬ ((k:Int) < (k:Int)):=by omega
   have HML:=zh (show mlines 0 mf0 ls=some (c,m) by rw [HGO.out,HNL.out,List.drop_length];rfl);clear HGO;by_cases hc2:c < 2
   ·have hN:mfOf s=none:=by rw [HRES.out,HML.out];exact if_pos hc2
    have HN:=zh hN;have hcI:(c:Int) < 2:=by omega
    have c0:=cell_ofA HAR.out (i:=0) rfl;have c1:=cell_ofA HAR.out (i:=1) rfl;have c2:=cell_ofA HAR.out (i:=2) rfl;have c3:=cell_ofA HAR.out (i:=3) rfl;have c4:=cell_ofA HAR.out (i:=4) rfl;have c5:=cell_ofA HAR.out (i:=5) rfl;have z0:=frozen_of 0 HAR.out;have z1:=frozen_of 1 HAR.out;have z2:=frozen_of 2 HAR.out;have z3:=frozen_of 3 HAR.out;have z4:=frozen_of 4 HAR.out;have z5:=frozen_of 5 HAR.out;have HE:=zh (set6 HAR.out (.string ⟨#[]⟩) (.int .i64 0) (.int .i64 0) (.int .i64 0) (.slice none 0 0) (.slice none 0 0));have HMz:=zh (HMR.out.set6 (b:=ga) (fun h=>by have:=HGA.out;omega) (.string ⟨#[]⟩) (.int .i64 0) (.int .i64 0) (.int .i64 0) (.slice none 0 0) (.slice none 0 0));clear hN hc2;go_wp2_with fail
    have hl9:=load_mft HE.out;exact bodyPost_ret (v:=.tuple #[.agg mftZ,.int .i64 0,.int .i64 62]) (by simp [results,results66,asAddr,hl9,mftZ]) rfl (fin hR ⟨by unfold MfRes;rw [HN.out];exact ⟨_,rfl⟩,HMz.out⟩)
   ·have hcI:¬ ((c:Int) < 2):=by omega
    have HRS:=zh (show mfOf s=some { m with needs:=sortR ltNd m.needs } by rw [HRES.out,HML.out];exact if_neg hc2);obtain ⟨p,cap,L,g,rest,hnv,hLn,hL20,hheap,hgB2,hback⟩:=HW.out.sortable hgB;subst hnv;have HBK:=zh hback;have HSS:=zh (sortstable_anyM L hL20 p g cap rest wr hheap);have HGG:=zh hgB2;have HLN2:=zh hLn;have c5:=cell_ofA HW.out.cells (i:=5) rfl;clear hback hheap hgB2 hc2 hLn;go_wp2_with fail
    with_reducible refine HSS.out.mono ?_
    rintro e w5 ⟨rfl,hh5,hm5⟩;obtain ⟨ys',hw5⟩:=HBK.out w5 hh5 hm5;rw [HLN2.out] at hw5;have HW5:=zh hw5;have HA5:=zh (hm5.keep HAR.out (fun h=>by have:=HGG.out h.2;have:=HGA.out;have:=HGB.out;have:=HBE.out;have:=lt_of_heap HA2.out;omega));have HM5:=zh (HMR.out.then hm5 (fun i hi h=>by have:=HGG.out h.2;have:=h.1;have:=HBE.out;have:=HM2.out.size;omega));obtain ⟨pa,pc,hpv⟩:=hw5.pre.len;subst hpv;clear hh5 hm5 HSS HBK hw5 c5 HAR HMR;have d0:=cell_ofA HW5.out.cells (i:=0) rfl;have d1:=cell_ofA HW5.out.cells (i:=1) rfl;have d2:=cell_ofA HW5.out.cells (i:=2) rfl;have d3:=cell_ofA HW5.out.cells (i:=3) rfl;have d4:=cell_ofA HW5.out.cells (i:=4) rfl;have d5:=cell_ofA HW5.out.cells (i:=5) rfl;have c0:=cell_ofA HA5.out (i:=0) rfl;have c1:=cell_ofA HA5.out (i:=1) rfl;have c2:=cell_ofA HA5.out (i:=2) rfl;have c3:=cell_ofA HA5.out (i:=3) rfl;have c4:=cell_ofA HA5.out (i:=4) rfl;have c5:=cell_ofA HA5.out (i:=5) rfl;have z0:=frozen_of 0 HA5.out;have z1:=frozen_of 1 HA5.out;have z2:=frozen_of 2 HA5.out;have z3:=frozen_of 3 HA5.out;have z4:=frozen_of 4 HA5.out;have z5:=frozen_of 5 HA5.out;have HE:=zh (set6 HA5.out (strV m.name) (.int .i64 m.v.ma) (.int .i64 m.v.mi) (.int .i64 m.v.pa) (.slice pa m.v.pre.length pc) (.slice p m.needs.length cap));have hmz:Mod (fun q=>q=ga) w5 ((((((w5.setCell ⟨ga,0,none⟩ (strV m.name)).setCell ⟨ga,1,none⟩ (.int .i64 m.v.ma)).setCell ⟨ga,2,none⟩ (.int .i64 m.v.mi)).setCell ⟨ga,3,none⟩ (.int .i64 m.v.pa)).setCell ⟨ga,4,none⟩ (.slice pa m.v.pre.length pc)).setCell ⟨ga,5,none⟩ (.slice p m.needs.length cap)):=Mod.set6 (S:=fun q=>q=ga) (b:=ga) (Mod.refl _ w5) (fun _=>rfl) _ _ _ _ _ _;have hapz:Apart [9,237,175,98] (fun q=>q=ga) w5:=fun k cur fz e hk hc2 he=>by
     have hk2:k=ga:=hk;subst hk2;rw [HA5.out] at hc2;cases hc2
     simp at he
    have HMz:=zh (HM5.out.set6 (b:=ga) (fun h=>by have:=HGA.out;omega) (strV m.name) (.int .i64 m.v.ma) (.int .i64 m.v.mi) (.int .i64 m.v.pa) (.slice pa m.v.pre.length pc) (.slice p m.needs.length cap));have HP:=zh (HW5.out.pre.apart hmz (hapz.less (by simp)));have HNDS:=zh (show NdsAt _ (.slice p m.needs.length cap) (sortR ltNd m.needs) from NdsAt.keep ⟨ys',HW5.out.nds,HW5.out.ors,Sl.of_own HW5.out.own (fun _ _ f=>f)⟩ hmz hapz);have HMZ:=zh (show MftAt _ (.agg #[strV m.name,.int .i64 m.v.ma,.int .i64 m.v.mi,.int .i64 m.v.pa,.slice pa m.v.pre.length pc,.slice p m.needs.length cap]) { m with needs:=sortR ltNd m.needs } from ⟨pa,pc,p,cap,by dsimp only;rw [sortR_length];rfl,HP.out,by dsimp only;rw [sortR_length];exact HNDS.out⟩);clear hmz hapz HP HNDS;unfold strV at *;go_wp2_with fail
    have hl9:=load_mft HE.out;exact bodyPost_ret (v:=.tuple #[.agg #[.string ⟨m.name.toArray⟩,.int .i64 m.v.ma,.int .i64 m.v.mi,.int .i64 m.v.pa,.slice pa m.v.pre.length pc,.slice p m.needs.length cap],.int .i64 0,.int .i64 0]) (by simp [results,results66,asAddr,hl9]) rfl (fin hR ⟨by unfold MfRes;rw [HRS.out];exact ⟨_,rfl,HMZ.out⟩,HMz.out⟩)
def mstepS (n:Nat) (m:Mf) (s:List UInt8):Option Mf :=
 if n=0 then (if s.take 5=nameW/\nameB (s.drop 5)=true then some { m with name:=s.drop 5 } else none)
 else if n=1 then (if s.take 8=versionW then (verOf (s.drop 8)).map fun v=>{ m with v:=v } else none)
 else if s.take 5=[110,101,101,100,32] then (match needL (s.drop 5) with
  | none=>none
  | some x=>if x.name=m.name then none else if 20<=m.needs.length then none else if x.name ∈ m.needs.map Nd.name then none else some { m with needs:=insR (ltNd x) x m.needs })
 else none
def mlinesS:Nat->Mf->List (List UInt8)->Option (Nat × Mf)
 | n,m,[]=>some (n,m)
 | n,m,s :: l=>if silentB s then mlinesS n m l else match mstepS n m s with
  | none=>none
  | some m'=>mlinesS (n+1) m' l
def srtM (m:Mf):Mf:={ m with needs:=sortR ltNd m.needs }
theorem sortR_snoc (l:List Nd) (x:Nd):sortR ltNd (l++[x])=insR (ltNd x) x (sortR ltNd l):=by
 have h:=sortR_take ltNd (l++[x]) (k:=l.length) (by simp);rw [List.take_of_length_le (by simp),List.take_left' rfl,List.getElem_append_right (by omega)] at h;simpa using h
theorem srt_names {m:Mf} {x:List UInt8}:x ∈ (srtM m).needs.map Nd.name ↔ x ∈ m.needs.map Nd.name:=by
 unfold srtM;simp only [List.mem_map];constructor
 ·rintro ⟨n,h,e⟩;exact ⟨n,(sortR_mem _ _ _).1 h,e⟩
 ·rintro ⟨n,h,e⟩;exact ⟨n,(sortR_mem _ _ _).2 h,e⟩
theorem mstep_S {n:Nat} {m:Mf} {s:List UInt8} (h20:m.needs.length<=20):mstepS n (srtM m) s=(mstep n m s).map srtM:=by
 unfold mstepS mstep;by_cases h0:n=0
 ·rw [if_pos h0,if_pos h0];by_cases h:s.take 5=nameW/\nameB (s.drop 5)=true
  ·rw [if_pos h,if_pos h];rfl
  ·rw [if_neg h,if_neg h];rfl
 rw [if_neg h0,if_neg h0];by_cases h1:n=1
 ·rw [if_pos h1,if_pos h1];by_cases h:s.take 8=versionW
  ·rw [if_pos h,if_pos h,Option.map_map];rfl
  ·rw [if_neg h,if_neg h];rfl
 rw [if_neg h1,if_neg h1];unfold needLine;by_cases h:s.take 5=[110,101,101,100,32]
 ·rw [if_pos h,if_pos h];cases hn:needL (s.drop 5) with
  | none=>rfl
  | some x =>
   rw [Option.bind_some];dsimp only;have hl:(srtM m).needs.length=m.needs.length:=by unfold srtM;dsimp only;rw [sortR_length]
   have hnm:(srtM m).name=m.name:=rfl;by_cases c1:x.name=m.name
   ·rw [if_pos (by rw [hnm];exact c1),if_pos (.inl c1)];rfl
   rw [if_neg (by rw [hnm];exact c1)];by_cases c2:20<=m.needs.length
   ·rw [if_pos (by rw [hl];exact c2),if_pos (.inr (.inr (by omega)))];rfl
   rw [if_neg (by rw [hl];exact c2)];by_cases c3:x.name ∈ m.needs.map Nd.name
   ·rw [if_pos (srt_names.2 c3),if_pos (.inr (.inl c3))];rfl
   rw [if_neg (fun h=>c3 (srt_names.1 h)),if_neg (by
    rintro (h | h | h)
    ·exact c1 h
    ·exact c3 h
    ·omega)]
   rw [Option.map_some];unfold srtM;dsimp only;rw [sortR_snoc]
 ·rw [if_neg h,if_neg h];rfl
theorem mstep_few {n:Nat} {m m':Mf} {s:List UInt8} (h20:m.needs.length<=20) (h:mstep n m s=some m'):m'.needs.length<=20:=by
 unfold mstep at h;split at h
 ·split at h
  ·cases h;exact h20
  ·cases h
 ·split at h
  ·split at h
   ·obtain ⟨v,-,rfl⟩:=Option.map_eq_some_iff.1 h;exact h20
   ·cases h
  ·obtain ⟨x,-,h⟩:=Option.bind_eq_some_iff.1 h;split at h
   ·cases h
   ·rename_i hq;cases h
    have h21:m.needs.length ≠ 20:=fun e=>hq (.inr (.inr e))
    dsimp only;rw [List.length_append,List.length_singleton];omega
theorem mlines_S:∀ {l:List (List UInt8)} {n:Nat} {m:Mf},m.needs.length<=20->mlinesS n (srtM m) l=(mlines n m l).map fun km=>(km.1,srtM km.2)
 | [],n,m,_=>rfl
 | s :: l,n,m,h20=>by
  rw [mlinesS,mlines];by_cases hs:silentB s=true
  ·rw [if_pos hs,if_pos hs];exact mlines_S h20
  ·rw [if_neg hs,if_neg hs,mstep_S h20];cases hm:mstep n m s with
   | none=>rfl
   | some m'=>exact mlines_S (mstep_few h20 hm)
theorem mfOf_S (s:List UInt8):mfOf s=if 65536 < s.length then none else match mlinesS 0 mf0 (linesL s) with
  | none=>none
  | some (n,m)=>if n < 2 then none else some m:=by
 unfold mfOf;by_cases h:65536 < s.length
 ·rw [if_pos h,if_pos h]
 ·rw [if_neg h,if_neg h];have h1:mlinesS 0 mf0 (linesL s)=(mlines 0 mf0 (linesL s)).map fun km=>(km.1,srtM km.2):=mlines_S (m:=mf0) (by simp [mf0])
  rw [h1];cases hm:mlines 0 mf0 (linesL s) with
  | none=>rfl
  | some km=>rfl
theorem mlinesS_silent {n:Nat} {m:Mf} {s:List UInt8} {l:List (List UInt8)} (h:silentB s=true):mlinesS n m (s :: l)=mlinesS n m l:=by rw [mlinesS,if_pos h]
theorem mlinesS_step {n:Nat} {m m':Mf} {s:List UInt8} {l:List (List UInt8)} (h:silentB s=false) (h2:mstepS n m s=some m'):mlinesS n m (s :: l)=mlinesS (n+1) m' l:=by rw [mlinesS,if_neg (by rw [h];simp),h2]
theorem mlinesS_bad {n:Nat} {m:Mf} {s:List UInt8} {l:List (List UInt8)} (h:silentB s=false) (h2:mstepS n m s=none):mlinesS n m (s :: l)=none:=by rw [mlinesS,if_neg (by rw [h];simp),h2]
end Go.Proofs.YticfcmdjplmaeaaGreatDoor
