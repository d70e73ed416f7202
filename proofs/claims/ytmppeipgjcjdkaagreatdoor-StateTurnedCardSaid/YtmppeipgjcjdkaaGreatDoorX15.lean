/-
  Layers 0 to 14: helps of the laws of indexes. No statement is proved here; no condition.
-/
import Derived.Test.YtmppeipgjcjdkaaGreatDoorX10
import Derived.Test.YtmppeipgjcjdkaaGreatDoorX14
import Derived.Test.YtmppeipgjcjdkaaGreatDoorX04
namespace Go.Proofs.YtmppeipgjcjdkaaGreatDoor
open _root_.Go.Proofs.Tryz
open Go.RowKit Go.Sort
theorem MfW.sortable {w:World} {B mb:Nat} {m:Mf} {pv nv:Value} {ys:List NdX} (h:MfW w B mb m pv nv ys) (hmb:mb < B):∃ (p:Option Addr) (cap:Nat) (L:List NdY) (g:Nat) (rest:List Value),nv=.slice p L.length cap/\L.length=m.needs.length/\L.length<=20/\NdHeap w p L g rest/\(L ≠ []->B<=g) ∧
  ∀ w',NdHeap w' p (sortR (ltOf cfNd) L) g rest->Mod (fun q=>q=g/\L ≠ []) w w'->∃ ys',MfW w' B mb { m with needs:=sortR ltNd m.needs } pv nv ys':=by
 obtain ⟨h0,hp,h1,h2,h3,hf⟩:=h
 obtain ⟨L,rfl⟩:=nds_y ys h2
 have hn:L.length=m.needs.length:=by rw [<- h1];simp
 have hLn:L.map NdY.n=m.needs:=by rw [<- h1,List.map_map];rfl
 by_cases hL:L=[]
 ·subst hL
  have hz:m.needs=[]:=by rw [<- h1];rfl
  obtain ⟨p,cap,hv⟩:=(Sl.of_own (X:=No) h3 (fun _ _ f=>f)).len
  refine ⟨p,cap,[],0,[],by rw [hv,hz];rfl,hn,by simp,.inl rfl,fun e=>absurd rfl e,fun w' _ hm=>?_⟩
  have hm2:Mod No w w':=hm.weaken (fun _ _ e=>e.2 rfl)
  obtain ⟨a,b,c⟩:=m
  obtain rfl:c=[]:=hz
  exact ⟨_,MfW.no ⟨h0,hp,h1,h2,h3,hf⟩ hm2⟩
 ·obtain ⟨hl,⟨hv,h0'⟩ | ⟨g,cap,cur,hv,hg,hh,hnc,hcm,hcs,ht⟩⟩:=h3
  ·exact absurd (List.eq_nil_of_length_eq_zero (by omega)) hL
  ·rw [toX_flat] at ht hl
   have hcur:cur=(L.flatMap NdY.cells++cur.toList.drop (m.needs.length*4)).toArray:=by
    rw [<- ht,List.take_append_drop]
   refine ⟨_,cap,L,g,cur.toList.drop (m.needs.length*4),by rw [hv,hn],hn,by rw [hn];exact hf,.inr ⟨rfl,by rw [<- hcur];exact hh⟩,fun _=>hg,fun w' hw' hm=>?_⟩
   have hap:Apart [9,255,252] (fun q=>q=g/\L ≠ []) w:=fun k c e z hk hc hm=>by
    rw [hk.1,hh] at hc
    cases hc
    simp at hm
   have hsl:(sortR (ltOf cfNd) L).length=m.needs.length:=by rw [sortR_length,hn]
   have hs0:sortR (ltOf cfNd) L ≠ []:=fun e=>hL (List.eq_nil_of_length_eq_zero (by rw [<- sortR_length (ltOf cfNd) L,e];rfl))
   rcases hw' with e | ⟨-,hh2⟩
   ·exact absurd e hs0
   ·have hfl:((sortR (ltOf cfNd) L).flatMap NdY.cells).length=m.needs.length*4:=by rw [flat_length NdY.len,hsl]
    refine ⟨(sortR (ltOf cfNd) L).map toX,hm.keep h0 (fun e=>by have:=e.1;omega),hp.apart hm (hap.less (by simp)),?_,fun y hy=>?_,?_,by dsimp only;rw [sortR_length];exact hf⟩
    ·rw [List.map_map,show NdX.n∘toX=NdY.n from rfl,sort_nds,hLn]
    ·obtain ⟨z,hz,rfl⟩:=List.mem_map.1 hy
     exact (h2 (toX z) (List.mem_map.2 ⟨z,(sortR_mem _ _ _).1 hz,rfl⟩)).keep hm hap
    ·rw [toX_flat]
     dsimp only
     rw [sortR_length]
     refine ⟨hfl,.inr ⟨g,cap,_,hv,hg,hh2,hnc,hcm,?_,?_⟩⟩
     ·rw [List.size_toArray,List.length_append,hfl,<- hcs,<- hl]
      rw [hl,List.length_drop,Array.length_toList]
      have:m.needs.length*4<=cur.size:=by rw [hcs];exact Nat.mul_le_mul_right _ hnc
      omega
     ·rw [<- hfl]
      simp
def mftCs (m:Mf) (pv nv:Value):List Value:=[strV m.name,.int .i64 m.v.ma,.int .i64 m.v.mi,.int .i64 m.v.pa,pv,nv]
def MftAt (w:World) (v:Value) (m:Mf):Prop:=∃ pa pc na nc,v=.agg (mftCs m (.slice pa m.v.pre.length pc) (.slice na m.needs.length nc)).toArray/\Sl w No 9 (.slice pa m.v.pre.length pc) m.v.pre.length (strs m.v.pre)/\NdsAt w (.slice na m.needs.length nc) m.needs
def mftZ:Array Value:=#[.string ⟨#[]⟩,.int .i64 0,.int .i64 0,.int .i64 0,.slice none 0 0,.slice none 0 0]
def MfRes (w':World) (s:List UInt8) (e:Ending):Prop:=match mfOf s with
 | some m=>∃ v,e=.returned (.tuple #[v,.int .i64 0,.int .i64 0])/\MftAt w' v m
 | none=>∃ i:Int,e=.returned (.tuple #[.agg mftZ,.int .i64 i,.int .i64 62])
theorem mlines_silent {n:Nat} {m:Mf} {s:List UInt8} {l:List (List UInt8)} (h:silentB s=true):mlines n m (s :: l)=mlines n m l:=by rw [mlines,if_pos h]
theorem mlines_step {n:Nat} {m m':Mf} {s:List UInt8} {l:List (List UInt8)} (h:silentB s=false) (h2:mstep n m s=some m'):mlines n m (s :: l)=mlines (n+1) m' l:=by rw [mlines,if_neg (by rw [h];simp),h2]
theorem mlines_bad {n:Nat} {m:Mf} {s:List UInt8} {l:List (List UInt8)} (h:silentB s=false) (h2:mstep n m s=none):mlines n m (s :: l)=none:=by rw [mlines,if_neg (by rw [h];simp),h2]
theorem mline_all (B mb n:Nat) (hn3:n<=1000000) (hmb:mb < B) (m:Mf) (pv nv:Value) (ys:List NdX) (s:List UInt8) (hl:s.length<=100000) (w:World) (hgl:Gl w) (hBw:B<=w.heap.size) (hw:MfW w B mb m pv nv ys) :
  Calls prog 100 #[.pointer (some ⟨mb,0,none⟩),.int .i64 (n:Int),strV s] w fun e w'=>MlRes w' B mb n m s e/\Mod (fun k=>k=mb\/B<=k) w w':=by
 match n,hn3 with
 | 0,_=>exact mline_name B mb hmb m pv nv ys s hl w hw
 | 1,_=>exact mline_ver B mb hmb m pv nv ys s hl w hgl hBw hw
 | k+2,h=>exact mline_need B mb (k+2) (by omega) h hmb m pv nv ys s hl w hgl hBw hw
theorem load_mft {w:World} {b:Nat} {v0 v1 v2 v3 v4 v5:Value} (h:w.heap[b]? = some (.cells #[v0,v1,v2,v3,v4,v5] 104 (0,0))) :
  (loadVar 104 ⟨b,0,none⟩).run prog w=.ok (.agg #[v0,v1,v2,v3,v4,v5]) w :=
 run_loadVar_row (P:=prog) w b 104 104 #[v0,v1,v2,v3,v4,v5] (0,0) _ h underlying104 rfl (by kernel_rfl)
theorem set6 {w:World} {b:Nat} {u0 u1 u2 u3 u4 u5:Value} {e:TypeId} (h:w.heap[b]? = some (.cells #[u0,u1,u2,u3,u4,u5] e (0,0))) (v0 v1 v2 v3 v4 v5:Value) :
  ((((((w.setCell ⟨b,0,none⟩ v0).setCell ⟨b,1,none⟩ v1).setCell ⟨b,2,none⟩ v2).setCell ⟨b,3,none⟩ v3).setCell ⟨b,4,none⟩ v4).setCell ⟨b,5,none⟩ v5).heap[b]? = some (.cells #[v0,v1,v2,v3,v4,v5] e (0,0)):=by
 rw [heap_setCell (heap_setCell (heap_setCell (heap_setCell (heap_setCell (heap_setCell h v0) v1) v2) v3) v4) v5]
 rfl
theorem Mod.set6 {S:Nat->Prop} {a w:World} {b:Nat} (h:Mod S a w) (hb:b < a.heap.size->S b) (v0 v1 v2 v3 v4 v5:Value) :
  Mod S a ((((((w.setCell ⟨b,0,none⟩ v0).setCell ⟨b,1,none⟩ v1).setCell ⟨b,2,none⟩ v2).setCell ⟨b,3,none⟩ v3).setCell ⟨b,4,none⟩ v4).setCell ⟨b,5,none⟩ v5) :=
 (((((h.setCell hb v0).setCell hb v1).setCell hb v2).setCell hb v3).setCell hb v4).setCell hb v5
set_option maxRecDepth 100000 in
set_option maxHeartbeats 8000000 in
theorem mparse_any (s:List UInt8) (hs:s.length<=1000000) (w:World) (hgl:Gl w) :
  Calls prog 44 #[strV s] w fun e w'=>MfRes w' s e/\Mod No w w':=by
 refine calls_hide fun R hR=>?_
 have hz:=str_len3 s
 have HRES:=zh (show mfOf s=if 65536 < s.length then none else match mlines 0 mf0 (linesL s) with
  | none=>none
  | some (n,m)=>if n < 2 then none else some { m with needs:=sortR ltNd m.needs } from rfl)
 obtain ⟨ga,hga⟩:∃ g,g=w.heap.size:=⟨_,rfl⟩
 obtain ⟨gb,hgb⟩:∃ g,g=w.heap.size+1:=⟨_,rfl⟩
 obtain ⟨w0,hw0⟩:∃ w0,w0=w.alloc (.cells #[.string ⟨#[]⟩,.int .i64 0,.int .i64 0,.int .i64 0,.slice none 0 0,.slice none 0 0] 104):=⟨_,rfl⟩
 have m0:Mod No w w0:=by rw [hw0];exact (Mod.refl No w).alloc _
 have ha0:w0.heap[ga]? = some (.cells #[.string ⟨#[]⟩,.int .i64 0,.int .i64 0,.int .i64 0,.slice none 0 0,.slice none 0 0] 104 (0,0)):=by rw [hw0,hga];exact heap_alloc_new w _
 obtain ⟨w1,hw1⟩:∃ w1,w1=w0.alloc (.cells #[.string ⟨#[]⟩,.int .i64 0,.int .i64 0,.int .i64 0,.slice none 0 0,.slice none 0 0] 104):=⟨_,rfl⟩
 have m1:Mod No w0 w1:=by rw [hw1];exact (Mod.refl No w0).alloc _
 have hs0:w0.heap.size=gb:=by rw [hw0,hgb];simp
 have ha1:=m1.keep ha0 (fun f=>f)
 have hb1:w1.heap[gb]? = some (.cells #[.string ⟨#[]⟩,.int .i64 0,.int .i64 0,.int .i64 0,.slice none 0 0,.slice none 0 0] 104 (0,0)):=by rw [hw1,<- hs0];exact heap_alloc_new w0 _
 have HLN:=zh (lines_any s hs w1 (hgl.stay (m0.trans m1) (fun f=>f)))
 have HLM:=zh (show ∀ x ∈ linesL s,x.length<=s.length from fun x hx=>by
  unfold linesL at hx
  split at hx
  ·exact splitC_mem_le 10 s x ((List.dropLast_sublist _).subset hx)
  ·exact splitC_mem_le 10 s x hx)
 have HLL:=zh (show (linesL s).length<=s.length+1 from by
  have h:=splitC_length_le 10 s
  unfold linesL
  split
  ·rw [List.length_dropLast];omega
  ·exact h)
 have HG:=zh hgl
 have HGLT:=zh (show 0 < w.heap.size by obtain ⟨x,hx⟩:=hgl;exact lt_of_cell hx)
 have HW0:=zh hw0
 have HW1:=zh hw1
 have HM0:=zh m0
 have HM1:=zh (m0.trans m1)
 have HA0:=zh ha0
 have HA1:=zh ha1
 have HGA:=zh hga
 have HGB:=zh hgb
 have HS0:=zh hs0
 have HB1:=zh hb1
 have hsI:(s.length:Int)<=1000000:=by omega
 clear hgl hw0 hw1 m0 m1 ha0 ha1 hb1 hs0 hga hgb
 unfold strV at *
 generalize (⟨s.toArray⟩:ByteArray)=Z at *
 go_enter func44,ntmps44
 go_upto_region 1 with fail
 rw [<- HW0.out,<- HGA.out]
 by_cases hlong:65536 < s.length
 ·have hN:mfOf s=none:=by rw [HRES.out,if_pos hlong]
  have HN:=zh hN
  have hlI:(65536:Int) < (s.length:Int):=by omega
  have c0:=cell_ofA HA0.out (i:=0) rfl
  have c1:=cell_ofA HA0.out (i:=1) rfl
  have c2:=cell_ofA HA0.out (i:=2) rfl
  have c3:=cell_ofA HA0.out (i:=3) rfl
  have c4:=cell_ofA HA0.out (i:=4) rfl
  have c5:=cell_ofA HA0.out (i:=5) rfl
  have z0:=frozen_of 0 HA0.out
  have z1:=frozen_of 1 HA0.out
  have z2:=frozen_of 2 HA0.out
  have z3:=frozen_of 3 HA0.out
  have z4:=frozen_of 4 HA0.out
  have z5:=frozen_of 5 HA0.out
  have HE:=zh (set6 HA0.out (.string ⟨#[]⟩) (.int .i64 0) (.int .i64 0) (.int .i64 0) (.slice none 0 0) (.slice none 0 0))
  have HMz:=zh (HM0.out.set6 (b:=ga) (fun h=>by have:=HGA.out;omega) (.string ⟨#[]⟩) (.int .i64 0) (.int .i64 0) (.int .i64 0) (.slice none 0 0) (.slice none 0 0))
  clear hN hlong
  go_wp2_with fail
  have hl9:=load_mft HE.out
  exact bodyPost_ret (v:=.tuple #[.agg mftZ,.int .i64 0,.int .i64 62]) (by simp [results,results44,asAddr,hl9,mftZ]) rfl (fin hR ⟨by unfold MfRes;rw [HN.out];exact ⟨0,rfl⟩,HMz.out⟩)
 rw [if_neg hlong] at HRES
 have hlI:¬ ((65536:Int) < (s.length:Int)):=by omega
 go_upto_region 4 with fail
 rw [<- HW1.out,HS0.out]
 clear hlI
 go_wp2_with fail
 with_reducible refine HLN.out.mono ?_
 rintro e w2 ⟨lv,rfl,hsl,hm2⟩
 obtain ⟨la,lc,rfl⟩:=hsl.len
 generalize hls:linesL s=ls at *
 obtain ⟨n,hn⟩:∃ n,n=ls.length:=⟨_,rfl⟩
 rw [<- hn] at hsl
 rw [<- hn]
 have HLS:=zh hsl
 have HNL:=zh hn
 have hn6:n<=70000:=by have:=HLL.out;omega
 have HM2:=zh (HM1.out.trans hm2)
 have HA2:=zh (hm2.keep HA1.out (fun f=>f))
 have hb2:=hm2.keep HB1.out (fun f=>f)
 obtain ⟨B,hB⟩:∃ B,B=w2.heap.size:=⟨_,rfl⟩
 have hgB:gb < B:=by have:=lt_of_heap hb2;omega
 have HMW2:=zh (show MfW w2 B gb mf0 (.slice none 0 0) (.slice none 0 0) [] from ⟨hb2,.inl ⟨rfl,rfl,rfl⟩,rfl,(fun y hy=>by cases hy),⟨by simp [mf0],.inl ⟨rfl,rfl⟩⟩,by simp [mf0]⟩)
 have HB2:=zh hb2
 have HBE:=zh hB
 have HGL2:=zh (HG.out.stay HM2.out (fun f=>f))
 clear hsl hm2 hn hb2 hB HLN HA1 HB1 HM1 hls HLL HM0 HA0 HG
 go_wp2_with fail
 go_loopw [6,16] (fun q u wr=>∃ (k c:Nat) (m:Mf) (pv nv:Value) (ys:List NdX),k<=n/\c<=k/\q=.int .i64 (c:Int)/\u=.int .i64 (k:Int)/\MfW wr B gb m pv nv ys/\Mod (fun p=>p=gb\/B<=p) w2 wr/\mlines 0 mf0 ls=mlines c m (ls.drop k)) (fun _ u _=>n - (intOf u).toNat)
 case atStart=>exact ⟨0,0,mf0,_,_,_,by omega,by omega,rfl,rfl,HMW2.out,Mod.refl _ _,by simp⟩
 case round =>
  obtain ⟨k,c,m,pv,nv,ys,hk,hck,rfl,rfl,hmw,hmo,hgo⟩:=hrel
  have HW:=zh hmw
  have HMO:=zh hmo
  have HGO:=zh hgo
  have hk0:(0:Int)<=(k:Int):=Int.natCast_nonneg _
  have hc0:(0:Int)<=(c:Int):=Int.natCast_nonneg _
  have HAR:=zh (hmo.keep HA2.out (fun h=>by have:=HGA.out;have:=HGB.out;have:=HBE.out;have:=lt_of_heap HA2.out;omega))
  have HMR:=zh (show Mod No w wr from HM2.out.then hmo (fun i hi h=>by have:=HGB.out;have:=HBE.out;have:=HM2.out.size;omega))
  have HGLR:=zh (HGL2.out.stay hmo (fun h=>by have:=HGLT.out;have:=HGA.out;have:=HGB.out;have:=HBE.out;have:=HM2.out.size;rcases h with h | h <;> omega))
  clear hmw hmo hgo
  by_cases hlt:k < n
  ·have hk1:(k:Int) < (n:Int):=by omega
   have hkl:k < ls.length:=by rw [<- HNL.out];exact hlt
   obtain ⟨b,o,c',hvs,_⟩:=HLS.out.shape (by omega)
   cases hvs
   have hcell:=HMO.out.cell (HLS.out.cellN (i:=k) (by rw [strs_length];exact hkl)) (fun h=>by
    obtain ⟨cur,fz,hb⟩:=HLS.out.block
    rcases h with h | h
    ·have h:b=gb:=h
     rw [h,HB2.out] at hb
     cases hb
    ·have h:B<=b:=h
     have:=lt_of_heap hb
     have:=HBE.out
     omega)
   rw [show (strs ls)[k]'(by rw [strs_length];exact hkl)=.string ⟨ls[k].toArray⟩ from by simp [strs,strV]] at hcell
   have hdr:ls.drop k=ls[k] :: ls.drop (k+1):=List.drop_eq_getElem_cons hkl
   have hll:=HLM.out ls[k] (List.getElem_mem hkl)
   have HSI:=zh (silent_any ls[k])
   have HLI:=zh (mline_all B gb c (by omega) hgB m pv nv ys ls[k] (by omega) wr HGLR.out (by have:=HMO.out.size;have:=HBE.out;omega) HW.out)
   have HDR:=zh hdr
   have HK1:=zh (show IntKind.i64.wrap ((k:Int)+1)=(k:Int)+1 by rw [IntKind.wrap_i64];omega)
   clear hdr hll
   generalize ls[k]=L at *
   unfold strV at *
   generalize (⟨L.toArray⟩:ByteArray)=LZ at *
   cases hsil:silentB L with
   | true =>
    have HG2:=zh (show mlines 0 mf0 ls=mlines c m (ls.drop (k+1)) by rw [HGO.out,HDR.out,mlines_silent hsil])
    rw [hsil] at HSI
    clear hsil HGO HDR HLI HK1
    go_wp2_with fail
    with_reducible refine (HSI.out _).mono ?_
    rintro e w9 ⟨rfl,rfl⟩
    go_wp2_with fail
    exact ⟨⟨k+1,c,m,pv,nv,ys,by omega,by omega,rfl,rfl,HW.out,HMO.out,HG2.out⟩,by show n - ((k:Int)+1).toNat < n - (k:Int).toNat;omega⟩
   | false =>
    have HG3:=zh (fun m' h=>show mlines 0 mf0 ls=mlines (c+1) m' (ls.drop (k+1)) by rw [HGO.out,HDR.out,mlines_step hsil h])
    have HG4:=zh (fun h=>show mlines 0 mf0 ls=none by rw [HGO.out,HDR.out,mlines_bad hsil h])
    rw [hsil] at HSI
    clear hsil HGO HDR
    go_wp2_with fail
    with_reducible refine (HSI.out _).mono ?_
    rintro e w9 ⟨rfl,rfl⟩
    go_wp2_with fail
    with_reducible refine HLI.out.mono ?_
    rintro e w4 ⟨⟨ok,rfl,hok⟩,hm4⟩
    have HMO4:=zh (HMO.out.trans hm4)
    have HA4:=zh (hm4.keep HAR.out (fun h=>by have:=HGA.out;have:=HGB.out;have:=HBE.out;have:=lt_of_heap HA2.out;omega))
    have HM4:=zh (HMR.out.then hm4 (fun i hi h=>by have:=HGB.out;have:=HBE.out;have:=HM2.out.size;omega))
    clear hm4 hcell HMO HAR HMR HLI HW
    cases ok with
    | true =>
     obtain ⟨m',pv',nv',ys',hst,hmw'⟩:=(show ∃ m' pv nv ys,mstep c m L=some m'/\MfW w4 B gb m' pv nv ys from hok)
     have HW4:=zh hmw'
     have HG5:=zh (HG3.out m' hst)
     have hwc:=wrap_nat (k:=c+1) (by omega)
     clear hok hst hmw' HG3 HG4 hwc
     go_wp2_with fail
     exact ⟨⟨k+1,c+1,m',pv',nv',ys',by omega,by omega,rfl,rfl,HW4.out,HMO4.out,HG5.out⟩,by show n - ((k:Int)+1).toNat < n - (k:Int).toNat;omega⟩
    | false =>
     have hN:mfOf s=none:=by rw [HRES.out,HG4.out hok]
     have HN:=zh hN
     have c0:=cell_ofA HA4.out (i:=0) rfl
     have c1:=cell_ofA HA4.out (i:=1) rfl
     have c2:=cell_ofA HA4.out (i:=2) rfl
     have c3:=cell_ofA HA4.out (i:=3) rfl
     have c4:=cell_ofA HA4.out (i:=4) rfl
     have c5:=cell_ofA HA4.out (i:=5) rfl
     have z0:=frozen_of 0 HA4.out
     have z1:=frozen_of 1 HA4.out
     have z2:=frozen_of 2 HA4.out
     have z3:=frozen_of 3 HA4.out
     have z4:=frozen_of 4 HA4.out
     have z5:=frozen_of 5 HA4.out
     have HE:=zh (set6 HA4.out (.string ⟨#[]⟩) (.int .i64 0) (.int .i64 0) (.int .i64 0) (.slice none 0 0) (.slice none 0 0))
     have HMz:=zh (HM4.out.set6 (b:=ga) (fun h=>by have:=HGA.out;omega) (.string ⟨#[]⟩) (.int .i64 0) (.int .i64 0) (.int .i64 0) (.slice none 0 0) (.slice none 0 0))
     clear hN hok HG3 HG4
     go_wp2_with fail
     have hl9:=load_mft HE.out
     exact bodyPost_ret (v:=.tuple #[.agg mftZ,.int .i64 ((k:Int)+1),.int .i64 62]) (by simp [results,results44,asAddr,hl9,mftZ]) rfl (fin hR ⟨by unfold MfRes;rw [HN.out];exact ⟨_,rfl⟩,HMz.out⟩)
  ·obtain rfl:k=n:=by omega
   have hk1:¬ ((k:Int) < (k:Int)):=by omega
   have HML:=zh (show mlines 0 mf0 ls=some (c,m) by rw [HGO.out,HNL.out,List.drop_length];rfl)
   clear HGO
   by_cases hc2:c < 2
   ·have hN:mfOf s=none:=by rw [HRES.out,HML.out];exact if_pos hc2
    have HN:=zh hN
    have hcI:(c:Int) < 2:=by omega
    have c0:=cell_ofA HAR.out (i:=0) rfl
    have c1:=cell_ofA HAR.out (i:=1) rfl
    have c2:=cell_ofA HAR.out (i:=2) rfl
    have c3:=cell_ofA HAR.out (i:=3) rfl
    have c4:=cell_ofA HAR.out (i:=4) rfl
    have c5:=cell_ofA HAR.out (i:=5) rfl
    have z0:=frozen_of 0 HAR.out
    have z1:=frozen_of 1 HAR.out
    have z2:=frozen_of 2 HAR.out
    have z3:=frozen_of 3 HAR.out
    have z4:=frozen_of 4 HAR.out
    have z5:=frozen_of 5 HAR.out
    have HE:=zh (set6 HAR.out (.string ⟨#[]⟩) (.int .i64 0) (.int .i64 0) (.int .i64 0) (.slice none 0 0) (.slice none 0 0))
    have HMz:=zh (HMR.out.set6 (b:=ga) (fun h=>by have:=HGA.out;omega) (.string ⟨#[]⟩) (.int .i64 0) (.int .i64 0) (.int .i64 0) (.slice none 0 0) (.slice none 0 0))
    clear hN hc2
    go_wp2_with fail
    have hl9:=load_mft HE.out
    exact bodyPost_ret (v:=.tuple #[.agg mftZ,.int .i64 0,.int .i64 62]) (by simp [results,results44,asAddr,hl9,mftZ]) rfl (fin hR ⟨by unfold MfRes;rw [HN.out];exact ⟨_,rfl⟩,HMz.out⟩)
   ·have hcI:¬ ((c:Int) < 2):=by omega
    have HRS:=zh (show mfOf s=some { m with needs:=sortR ltNd m.needs } by rw [HRES.out,HML.out];exact if_neg hc2)
    obtain ⟨p,cap,L,g,rest,hnv,hLn,hL20,hheap,hgB2,hback⟩:=HW.out.sortable hgB
    subst hnv
    have HBK:=zh hback
    have HSS:=zh (sortstable_anyM L hL20 p g cap rest wr hheap)
    have HGG:=zh hgB2
    have HLN2:=zh hLn
    have c5:=cell_ofA HW.out.cells (i:=5) rfl
    clear hback hheap hgB2 hc2 hLn
    go_wp2_with fail
    with_reducible refine HSS.out.mono ?_
    rintro e w5 ⟨rfl,hh5,hm5⟩
    obtain ⟨ys',hw5⟩:=HBK.out w5 hh5 hm5
    rw [HLN2.out] at hw5
    have HW5:=zh hw5
    have HA5:=zh (hm5.keep HAR.out (fun h=>by have:=HGG.out h.2;have:=HGA.out;have:=HGB.out;have:=HBE.out;have:=lt_of_heap HA2.out;omega))
    have HM5:=zh (HMR.out.then hm5 (fun i hi h=>by have:=HGG.out h.2;have:=h.1;have:=HBE.out;have:=HM2.out.size;omega))
    obtain ⟨pa,pc,hpv⟩:=hw5.pre.len
    subst hpv
    clear hh5 hm5 HSS HBK hw5 c5 HAR HMR
    have d0:=cell_ofA HW5.out.cells (i:=0) rfl
    have d1:=cell_ofA HW5.out.cells (i:=1) rfl
    have d2:=cell_ofA HW5.out.cells (i:=2) rfl
    have d3:=cell_ofA HW5.out.cells (i:=3) rfl
    have d4:=cell_ofA HW5.out.cells (i:=4) rfl
    have d5:=cell_ofA HW5.out.cells (i:=5) rfl
    have c0:=cell_ofA HA5.out (i:=0) rfl
    have c1:=cell_ofA HA5.out (i:=1) rfl
    have c2:=cell_ofA HA5.out (i:=2) rfl
    have c3:=cell_ofA HA5.out (i:=3) rfl
    have c4:=cell_ofA HA5.out (i:=4) rfl
    have c5:=cell_ofA HA5.out (i:=5) rfl
    have z0:=frozen_of 0 HA5.out
    have z1:=frozen_of 1 HA5.out
    have z2:=frozen_of 2 HA5.out
    have z3:=frozen_of 3 HA5.out
    have z4:=frozen_of 4 HA5.out
    have z5:=frozen_of 5 HA5.out
    have HE:=zh (set6 HA5.out (strV m.name) (.int .i64 m.v.ma) (.int .i64 m.v.mi) (.int .i64 m.v.pa) (.slice pa m.v.pre.length pc) (.slice p m.needs.length cap))
    have hmz:Mod (fun q=>q=ga) w5 ((((((w5.setCell ⟨ga,0,none⟩ (strV m.name)).setCell ⟨ga,1,none⟩ (.int .i64 m.v.ma)).setCell ⟨ga,2,none⟩ (.int .i64 m.v.mi)).setCell ⟨ga,3,none⟩ (.int .i64 m.v.pa)).setCell ⟨ga,4,none⟩ (.slice pa m.v.pre.length pc)).setCell ⟨ga,5,none⟩ (.slice p m.needs.length cap)):=Mod.set6 (S:=fun q=>q=ga) (b:=ga) (Mod.refl _ w5) (fun _=>rfl) _ _ _ _ _ _
    have hapz:Apart [9,255,252,113] (fun q=>q=ga) w5:=fun k cur fz e hk hc2 he=>by
     have hk2:k=ga:=hk
     subst hk2
     rw [HA5.out] at hc2
     cases hc2
     simp at he
    have HMz:=zh (HM5.out.set6 (b:=ga) (fun h=>by have:=HGA.out;omega) (strV m.name) (.int .i64 m.v.ma) (.int .i64 m.v.mi) (.int .i64 m.v.pa) (.slice pa m.v.pre.length pc) (.slice p m.needs.length cap))
    have HP:=zh (HW5.out.pre.apart hmz (hapz.less (by simp)))
    have HNDS:=zh (show NdsAt _ (.slice p m.needs.length cap) (sortR ltNd m.needs) from NdsAt.keep ⟨ys',HW5.out.nds,HW5.out.ors,Sl.of_own HW5.out.own (fun _ _ f=>f)⟩ hmz hapz)
    have HMZ:=zh (show MftAt _ (.agg #[strV m.name,.int .i64 m.v.ma,.int .i64 m.v.mi,.int .i64 m.v.pa,.slice pa m.v.pre.length pc,.slice p m.needs.length cap]) { m with needs:=sortR ltNd m.needs } from ⟨pa,pc,p,cap,by dsimp only;rw [sortR_length];rfl,HP.out,by dsimp only;rw [sortR_length];exact HNDS.out⟩)
    clear hmz hapz HP HNDS
    unfold strV at *
    go_wp2_with fail
    have hl9:=load_mft HE.out
    exact bodyPost_ret (v:=.tuple #[.agg #[.string ⟨m.name.toArray⟩,.int .i64 m.v.ma,.int .i64 m.v.mi,.int .i64 m.v.pa,.slice pa m.v.pre.length pc,.slice p m.needs.length cap],.int .i64 0,.int .i64 0]) (by simp [results,results44,asAddr,hl9]) rfl (fin hR ⟨by unfold MfRes;rw [HRS.out];exact ⟨_,rfl,HMZ.out⟩,HMz.out⟩)
end Go.Proofs.YtmppeipgjcjdkaaGreatDoor
