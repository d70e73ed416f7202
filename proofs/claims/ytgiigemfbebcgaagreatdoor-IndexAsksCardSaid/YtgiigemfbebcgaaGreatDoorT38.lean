/-
  Layers 0 to 14: helps of the laws of indexes. No statement is proved here; no condition.
-/
import Derived.Test.YtgiigemfbebcgaaGreatDoorT34
import Derived.Test.YtgiigemfbebcgaaGreatDoorT37
import Derived.Test.YtgiigemfbebcgaaGreatDoorT29
import Derived.Test.YtgiigemfbebcgaaGreatDoorT24
import Derived.Test.YtgiigemfbebcgaaGreatDoorT13
namespace Go.Proofs.YtgiigemfbebcgaaGreatDoor
open _root_.Go.Proofs.Tryz
open Go.RowKit Go.Sort
noncomputable def blkMd4:Code:=(blockAt 4 bodyMd).getD .skip
def nstep (name:List UInt8) (a:List Nd) (t:Nat):List Nd:=if (ndK t).name=name\/(ndK t).name ∈ a.map Nd.name then a else insR (ltNd (ndK t)) (ndK t) a
theorem ndsK_fold (name:List UInt8) (l:List Nat):ndsK name l=l.foldl (nstep name) []:=rfl
theorem spanTK_all:∀ k:Fin 10,(spanTK k.1).length<=1000000:=by decide +kernel
theorem spanTK_le (k:Nat):(spanTK k).length<=1000000:=by
 have h:=spanTK_all ⟨k % 10,Nat.mod_lt _ (by decide)⟩
 unfold spanTK at *
 dsimp only at h
 rw [Nat.mod_mod] at h
 exact h
set_option maxRecDepth 100000 in
theorem nd_built (A:ByteArray) (sa:Bool) (oa:Option Addr) (om oc:Nat) (T:ByteArray):prog.built 81 [(0,.string A),(1,.agg #[.bool sa,.slice oa om oc]),(2,.string T)]=some [Value.string A,.bool sa,.slice oa om oc,.string T].toArray:=by kernel_rfl
theorem row_needs_set {x:RwX} (h:x.r.sum.length=32) (ns:List Nd) (v:Value):(RwX.cells x).toArray.setIfInBounds 38 v=(RwX.cells ⟨{ x.r with needs:=ns },x.pv,v⟩).toArray:=by
 obtain ⟨⟨nm,⟨a,b,c,pr⟩,S,n,nds⟩,pv,nv⟩:=x
 obtain ⟨s0,s1,s2,s3,s4,s5,s6,s7,s8,s9,s10,s11,s12,s13,s14,s15,s16,s17,s18,s19,s20,s21,s22,s23,s24,s25,s26,s27,s28,s29,s30,s31,rfl⟩:=list32 h
 rfl
theorem need_end {w W:World} {rb:Nat} {x:RwX} {L:List NdX} {v':Value} {b m:Nat} {ns:List Nd} (hS:x.r.sum.length=32) (hrb:W.heap[rb]? = some (.cells (RwX.cells x).toArray 46 (0,0))) (hm:Mod No w W)
  (hL:L.map NdX.n=ns) (ho:∀ y ∈ L,OrsAt W y.ov y.n.span.ors) (hown:W.ownsRow b 81 4 v' m (L.flatMap NdX.cells)) (hml:L.length=m) (hr:Rises Nd.name ns) :
  (W.setCell ⟨rb,38,none⟩ v').heap[rb]? = some (.cells (RwX.cells ⟨{ x.r with needs:=ns },x.pv,v'⟩).toArray 46 (0,0))/\NdsAt (W.setCell ⟨rb,38,none⟩ v') v' ns/\Rises Nd.name ns/\Mod (fun q=>q=rb) w (W.setCell ⟨rb,38,none⟩ v'):=by
 have hm1:=Mod.cell1 W rb 38 v'
 have hap:Apart [9,153,126,81] (fun q=>q=rb) W:=fun k cur fz e hk hc=>by
  rw [show k=rb from hk,hrb] at hc
  cases hc
  decide
 refine ⟨by rw [heap_setCell hrb,row_needs_set hS ns],⟨L,hL,fun y hy=>(ho y hy).keep hm1 (hap.less (by simp)),?_⟩,hr,(hm.weaken (fun _ _ f=>f.elim)).trans hm1⟩
 rw [<- hL,List.length_map,hml]
 exact (Sl.of_own hown (fun _ _ f=>f)).apart hm1 (hap.less (by simp))
set_option maxRecDepth 100000 in
set_option maxHeartbeats 16000000 in
theorem need4_part (z1 z2 z3 z4 z5 z6 z12 z215 z216 z217 z218:Value) (t i k:Nat) (x:RwX) (ib io inn icc rb:Nat) (nb no nl ncc:Nat) (a:Act) (w:World) (hS:x.r.sum.length=32) (hrb:w.heap[rb]? = some (.cells (RwX.cells x).toArray 46 (0,0))) (hnd:NdsAt w x.nv x.r.needs) (hri:Rises Nd.name x.r.needs) (hfew:x.r.needs.length<=1000)
  (hi:i < inn) (hk:k < nl) (hc1:w.cell? ⟨ib,io+i*5+2,none⟩=some (.slice (some ⟨nb,no,none⟩) nl ncc)) (hc2:w.cell? ⟨nb,no+k,none⟩=some (.int .u16 (t:Int))) (ht:t < 65536)
  (hF:Fr 219 [(0,.slice (some ⟨ib,io,none⟩) inn icc),(7,.int .i64 (i:Int)),(13,.pointer (some ⟨rb,0,none⟩)),(14,.int .i64 (k:Int)),(1,z1),(2,z2),(3,z3),(4,z4),(5,z5),(6,z6),(12,z12),(215,z215),(216,z216),(217,z217),(218,z218)] a) :
  Code.wp prog blkMd4 (Exit.then (fun a' w'=>∃ nv',Fr 219 [(0,.slice (some ⟨ib,io,none⟩) inn icc),(7,.int .i64 (i:Int)),(13,.pointer (some ⟨rb,0,none⟩)),(14,.int .i64 (k:Int)),(1,z1),(2,z2),(3,z3),(4,z4),(5,z5),(6,z6),(12,z12),(215,z215),(216,z216),(217,z217),(218,z218)] a'/\w'.heap[rb]? = some (.cells (RwX.cells ⟨{ x.r with needs:=nstep x.r.name x.r.needs t },x.pv,nv'⟩).toArray 46 (0,0))/\NdsAt w' nv' (nstep x.r.name x.r.needs t)/\Rises Nd.name (nstep x.r.name x.r.needs t)/\Mod (fun q=>q=rb) w w') Nope) a w:=by
 refine wp_part fun J K' hJ hK=>?_
 have HJ:=zh hJ
 clear hJ
 obtain ⟨ts,ds⟩:=a
 obtain ⟨hsz,hds,hs0,hs7,hs13,hs14,hs1,hs2,hs3,hs4,hs5,hs6,hs12,hs215,hs216,hs217,hs218,-⟩:=hF
 dsimp only at hsz hds hs0 hs7 hs13 hs14 hs1 hs2 hs3 hs4 hs5 hs6 hs12 hs215 hs216 hs217 hs218
 subst hds
 obtain ⟨c,rfl,hc⟩:=lit219 ts hsz
 rw [hc] at hs0
 rw [hc] at hs7
 rw [hc] at hs13
 rw [hc] at hs14
 rw [hc] at hs1
 rw [hc] at hs2
 rw [hc] at hs3
 rw [hc] at hs4
 rw [hc] at hs5
 rw [hc] at hs6
 rw [hc] at hs12
 rw [hc] at hs215
 rw [hc] at hs216
 rw [hc] at hs217
 rw [hc] at hs218
 simp only [hs0,hs7,hs13,hs14,hs1,hs2,hs3,hs4,hs5,hs6,hs12,hs215,hs216,hs217,hs218]
 clear hc hsz hs0 hs7 hs13 hs14 hs1 hs2 hs3 hs4 hs5 hs6 hs12 hs215 hs216 hs217 hs218
 obtain ⟨i0,hi0,hz0,hz1,hz2⟩:=info_parts info_nd
 have HI:=zh (And.intro hi0 (And.intro hz0 (And.intro hz1 hz2)))
 have HRB:=zh hrb
 have HND:=zh hnd
 have HRI:=zh hri
 obtain ⟨ys,hy1,hy2,hy3⟩:=hnd
 have HYM:=zh hy1
 have HRIX:=zh (show Rises (fun y:NdX=>y.n.name) ys from by
  have h9:=hri
  rw [<- hy1] at h9
  unfold Rises at h9 ⊢
  rw [List.pairwise_map] at h9
  exact h9)
 have HY2:=zh hy2
 have HYN:=zh (show x.r.needs.length=ys.length by rw [<- hy1,List.length_map])
 obtain ⟨va,vc,hnv⟩:=hy3.len
 obtain ⟨n,hn⟩:∃ n,n=x.r.needs.length:=⟨_,rfl⟩
 have hn2:n<=1000000:=by omega
 have HNN:=zh hn
 have HV:=zh (show Sl w No 81 (.slice va n vc) n (ys.flatMap NdX.cells) by rw [hn,<- hnv];exact hy3)
 have HFL:=zh (show (ys.flatMap NdX.cells).length=n*4 by rw [flat_length NdX.cells_length,hn,HYN.out])
 have HXN:=zh (show x.nv=.slice va n vc by rw [hnv,hn])
 have H1L:=zh (show ∀ u ∈ ys.flatMap NdX.cells,u.oneCell'=true from fun u hu=>by
  obtain ⟨y,hy,hu⟩:=List.mem_flatMap.1 hu
  obtain ⟨us,-,-,h3⟩:=hy2 y hy
  obtain ⟨a1,a2,e⟩:=h3.len
  unfold NdX.cells at hu
  rw [e] at hu
  simp only [List.mem_cons,List.not_mem_nil,or_false] at hu
  rcases hu with rfl | rfl | rfl | rfl <;> rfl)
 have HC1:=zh hc1
 have HC2:=zh hc2
 have HC0R:=zh (show w.cell? ⟨rb,0,none⟩=some (strV x.r.name) from cell_of hrb rfl)
 have HC38R:=zh (show w.cell? ⟨rb,38,none⟩=some (.slice va n vc) by rw [<- HXN.out];exact cell_of hrb (rows_get38' hS))
 have HNM:=zh (fun W=>seatname_any (t % 6) W)
 have HSPT:=zh (fun W=>seatspan_any (t / 6 % 10) W)
 have HNK:=zh (show nameK (t % 6)=(ndK t).name from rfl)
 have HTX:=zh (show spanTK (t / 6 % 10)=(ndK t).text from rfl)
 have HSK:=zh (show spanL (ndK t).text=some (ndK t).span from (spanK_good (t / 6 % 10)).1)
 rw [HNK.out] at HNM
 rw [HTX.out] at HSPT
 have hil:(i:Int) < (inn:Int):=by omega
 have hkl:(k:Int) < (nl:Int):=by omega
 have hi0':(0:Int)<=(i:Int):=Int.natCast_nonneg _
 have hk0:(0:Int)<=(k:Int):=Int.natCast_nonneg _
 have hm6:(t:Int).tmod 6=((t % 6:Nat):Int):=(Int.ofNat_tmod t 6).symm
 have hd6:(t:Int).tdiv 6=((t / 6:Nat):Int):=(Int.ofNat_tdiv t 6).symm
 have hm10:((t / 6:Nat):Int).tmod 10=((t / 6 % 10:Nat):Int):=(Int.ofNat_tmod (t / 6) 10).symm
 have hw6:IntKind.u8.wrap ((t % 6:Nat):Int)=((t % 6:Nat):Int):=by rw [IntKind.wrap_u8];omega
 have hw10:IntKind.u8.wrap ((t / 6 % 10:Nat):Int)=((t / 6 % 10:Nat):Int):=by rw [IntKind.wrap_u8];omega
 have hl6:((t % 6:Nat):Int) < 6:=by omega
 have hl10:((t / 6 % 10:Nat):Int) < 10:=by omega
 have hq6:IntKind.u16.wrap ((t / 6:Nat):Int)=((t / 6:Nat):Int):=by rw [IntKind.wrap_u16];omega
 obtain ⟨t6,ht6⟩:∃ z,z=t % 6:=⟨_,rfl⟩
 obtain ⟨t10,ht10⟩:∃ z,z=t / 6 % 10:=⟨_,rfl⟩
 obtain ⟨tq,htq⟩:∃ z,z=t / 6:=⟨_,rfl⟩
 rw [<- ht6] at HNM hm6 hw6 hl6
 rw [<- ht10] at HSPT hm10 hw10 hl10
 rw [<- htq] at hm10 hd6 hq6
 have ht60:(0:Int)<=(t6:Int):=Int.natCast_nonneg _
 have ht100:(0:Int)<=(t10:Int):=Int.natCast_nonneg _
 clear hrb hri hy1 hy2 hy3 hnv hn hi0 hz0 hz1 hz2 ht6 ht10 htq ht
 unfold strV at *
 conv=>arg 2;whnf
 go_wp2_with fail
 with_reducible refine (HNM.out w).mono ?_
 rintro e w9 ⟨rfl,h9⟩
 rw [h9]
 clear h9 w9 HNM
 have hc1:=HC1.out
 go_wp2_with fail
 with_reducible refine (HSPT.out _).mono ?_
 rintro e w1 ⟨rfl,hm1⟩
 have HM1:=zh hm1
 have c0:=hm1.cell HC0R.out (fun f=>f)
 have hTA:=str_list (ndK t).name
 have hTX:=str_list x.r.name
 have HNST:=zh (show nstep x.r.name x.r.needs t=if (ndK t).name=x.r.name\/(ndK t).name ∈ x.r.needs.map Nd.name then x.r.needs else insR (ltNd (ndK t)) (ndK t) x.r.needs from rfl)
 have HSO:=zh (fun W=>refspan_any (ndK t).text (show (spanTK (t / 6 % 10)).length<=1000000 from spanTK_le _) W)
 obtain ⟨NA,hNA⟩:∃ z,z=(ndK t).name:=⟨_,rfl⟩
 have HNA:=zh hNA
 rw [<- hNA] at hTA
 unfold strV at *
 rw [<- hNA]
 generalize hA:(⟨NA.toArray⟩:ByteArray)=A at *
 generalize (⟨x.r.name.toArray⟩:ByteArray)=X at *
 have HA:=zh hA
 obtain ⟨b0,hb0⟩:∃ b0,b0=decide (NA=x.r.name):=⟨_,rfl⟩
 have hbe:(A.toList == X.toList)=b0:=by
  rw [hTA,hTX]
  exact hb0 ▸ (Bool.eq_iff_iff.2 (by simp))
 have HB0:=zh hb0
 have HTA:=zh hTA
 clear hTA hTX hm1 hNA hA hb0 hm6 hd6 hm10 hw6 hw10 hq6 HSPT hc1 hc2
 go_wp2_with fail
 generalize w1=wo at *
 go_loopw [17,18] (fun q17 q18 wi=>∃ j:Nat,j<=n/\q18=.int .i64 (j:Int)/\q17=.bool (b0 || (ys.take j).any (fun y=>decide (y.n.name=NA)))/\Mod No wo wi) (fun _ q _=>n - (intOf q).toNat)
 case atStart=>exact ⟨0,by omega,rfl,by simp,Mod.refl _ _⟩
 case round =>
  obtain ⟨j,hj,rfl,rfl,hmi⟩:=hrel
  have HMI:=zh hmi
  have hj0:(0:Int)<=(j:Int):=Int.natCast_nonneg _
  have c38:=(HM1.out.trans hmi).cell HC38R.out (fun f=>f)
  clear hmi
  obtain ⟨bj,hbj⟩:∃ bj,bj=(b0 || (ys.take j).any (fun y=>decide (y.n.name=NA))):=⟨_,rfl⟩
  rw [<- hbj]
  by_cases hlt:j < n
  ·have hj1:(j:Int) < (n:Int):=by omega
   have hlt2:j < ys.length:=by rw [<- HYN.out,<- HNN.out];exact hlt
   obtain ⟨vb,vo,vcc,hvs,_⟩:=HV.out.shape (by omega)
   cases hvs
   have cN:=(HM1.out.trans HMI.out).cell (Sl.at NdX.cells_length HV.out hlt2 0 _ rfl) (fun f=>f)
   rw [Nat.add_zero] at cN
   have hTY:=str_list ys[j].n.name
   have hTA:=HTA.out
   unfold strV at *
   obtain ⟨Y,hY⟩:∃ Y:ByteArray,Y=⟨ys[j].n.name.toArray⟩:=⟨_,rfl⟩
   rw [<- hY] at cN hTY
   obtain ⟨b1,hb1⟩:∃ b1,b1=decide (ys[j].n.name=NA):=⟨_,rfl⟩
   have hbe1:(Y.toList == A.toList)=b1:=by
    rw [hTY,hTA,hb1]
    by_cases h:ys[j].n.name=NA
    ·rw [decide_eq_true h,h];simp
    ·rw [decide_eq_false h];simpa using h
   have HBJ:=zh (show (b0 || (ys.take (j+1)).any (fun y=>decide (y.n.name=NA)))=(bj || b1) by
    rw [List.take_succ_eq_append_getElem hlt2,List.any_append,<- Bool.or_assoc,<- hbj,hb1]
    simp)
   clear hbj hb1 hY hTY hTA
   rcases bj with _ | _
   ·go_wp2_with fail
    exact ⟨⟨j+1,by omega,rfl,by rw [HBJ.out];rfl,HMI.out⟩,by show n - ((j:Int)+1).toNat < n - (j:Int).toNat;omega⟩
   ·go_wp2_with fail
    exact ⟨⟨j+1,by omega,rfl,by rw [HBJ.out];rfl,HMI.out⟩,by show n - ((j:Int)+1).toNat < n - (j:Int).toNat;omega⟩
  ·obtain rfl:n=j:=by omega
   have hj1:¬ ((n:Int) < (n:Int)):=by omega
   have HBF:=zh (show bj=decide ((ndK t).name=x.r.name\/(ndK t).name ∈ x.r.needs.map Nd.name) by
    rw [hbj,HB0.out,List.take_of_length_le (by rw [<- HYN.out,<- HNN.out];exact Nat.le_refl _),<- HYM.out,HNA.out,List.map_map]
    by_cases h1:(ndK t).name=x.r.name
    ·rw [decide_eq_true h1,decide_eq_true (.inl h1)];rfl
    ·rw [decide_eq_false h1,Bool.false_or]
     by_cases h2:(ndK t).name ∈ ys.map (Nd.name∘NdX.n)
     ·rw [decide_eq_true (.inr h2)]
      obtain ⟨y,hy,he⟩:=List.mem_map.1 h2
      exact List.any_eq_true.2 ⟨y,hy,decide_eq_true he⟩
     ·rw [decide_eq_false (fun h=>h.elim h1 h2)]
      rw [List.any_eq_false]
      intro y hy
      simpa using fun e=>h2 (List.mem_map.2 ⟨y,hy,e⟩))
   clear hbj
   cases bj with
   | true =>
    have hcond:=of_decide_eq_true HBF.out.symm
    have HSAME:=zh (show nstep x.r.name x.r.needs t=x.r.needs by rw [HNST.out];exact if_pos hcond)
    have HMW:=zh (HM1.out.trans HMI.out)
    go_wp2_with fail
    refine Met.intro (HJ.out _ _ ⟨x.nv,⟨rfl,rfl,rfl,rfl,rfl,rfl,rfl,rfl,rfl,rfl,rfl,rfl,rfl,rfl,rfl,rfl,rfl,trivial⟩,?_,?_,?_,HMW.out.weaken (fun _ _ f=>f.elim)⟩)
    ·rw [HSAME.out];exact HMW.out.keep HRB.out (fun f=>f)
    ·rw [HSAME.out];exact HND.out.keep HMW.out (Apart.no _ _)
    ·rw [HSAME.out];exact HRI.out
   | false =>
    have hcond:=of_decide_eq_false HBF.out.symm
    have HNST:=zh (show nstep x.r.name x.r.needs t=insR (ltNd (ndK t)) (ndK t) x.r.needs by rw [HNST.out];exact if_neg hcond)
    go_wp2_with fail
    with_reducible refine (HSO.out wr).mono ?_
    rintro e w2 ⟨hsp,hm2⟩
    obtain ⟨ov,rfl,hors⟩:∃ ov,e=.returned (.tuple #[.agg #[.bool (ndK t).span.any,ov],.int .i64 0])/\OrsAt w2 ov (ndK t).span.ors:=by
     rcases hsp with ⟨h1,-⟩ | ⟨s,ov,h1,h2,h3⟩
     ·rw [HSK.out] at h1;cases h1
     ·rw [HSK.out] at h1
      cases h1
      exact ⟨ov,h2,h3⟩
    obtain ⟨oa,om,oc,hov⟩:∃ oa om oc,ov=.slice oa om oc:=by
     obtain ⟨zsx,-,-,hz⟩:=hors
     obtain ⟨a1,a2,h⟩:=hz.len
     exact ⟨_,_,_,h⟩
    subst hov
    obtain ⟨sa,hsa⟩:∃ sa,sa=(ndK t).span.any:=⟨_,rfl⟩
    rw [<- hsa]
    have HM2:=zh ((HM1.out.trans HMI.out).trans hm2)
    have HOR2:=zh hors
    have HCX:=zh (show NdX.cells ⟨ndK t,.slice oa om oc⟩=[.string A,.bool sa,.slice oa om oc,.string ⟨(ndK t).text.toArray⟩] by
     rw [hsa,<- HA.out,HNA.out];rfl)
    clear hsp hm2 hors c38 hsa
    go_upto_region 34 with fail
    obtain ⟨sb,hsb⟩:∃ g,g=w2.heap.size:=⟨_,rfl⟩
    rw [<- hsb]
    generalize hw3:World.alloc w2 _=wz
    have hmz:Mod No w2 wz:=by rw [<- hw3];exact (Mod.refl No w2).alloc _
    have HMZ0:=zh (HM2.out.trans hmz)
    have HSBZ:=zh (show wz.heap[sb]? = some (.cells #[.bool sa,.slice oa om oc] 79 (0,0)) by rw [<- hw3,hsb];exact heap_alloc_new w2 _)
    have HORZ:=zh (HOR2.out.keep hmz (Apart.no _ _))
    clear hw3 hmz hsb
    go_wp2_with fail
    generalize wz=wp at *
    go_loopw [21] (fun q wi=>∃ j:Nat,j<=n/\q=.int .i64 (j:Int)/\Mod No wp wi/\∀ i (hi:i < ys.length),i < j->ys[i].n.name < NA) (fun q _=>n - (intOf q).toNat)
    case atStart=>exact ⟨0,by omega,rfl,Mod.refl _ _,fun i _ h=>absurd h (by omega)⟩
    case round =>
     obtain ⟨j,hj,rfl,hmi,hlo⟩:=hrel
     have HMI:=zh hmi
     have HLO:=zh hlo
     have hj0:(0:Int)<=(j:Int):=Int.natCast_nonneg _
     have c38:=(HMZ0.out.trans hmi).cell HC38R.out (fun f=>f)
     clear hmi hlo
     by_cases hlt:j < n
     ·have hj1:(j:Int) < (n:Int):=by omega
      have hlt2:j < ys.length:=by rw [<- HYN.out,<- HNN.out];exact hlt
      obtain ⟨vb,vo,vcc,hvs,_⟩:=HV.out.shape (by omega)
      cases hvs
      have cN:=(HMZ0.out.trans HMI.out).cell (Sl.at NdX.cells_length HV.out hlt2 0 _ rfl) (fun f=>f)
      rw [Nat.add_zero] at cN
      have hTY:=str_list ys[j].n.name
      have hTA:=HTA.out
      have HNX:=zh (show ys[j].n.name < NA->∀ i (hi:i < ys.length),i < j+1->ys[i].n.name < NA from fun h i hi hik=>by
       rcases Nat.lt_or_ge i j with h3 | h3
       ·exact HLO.out i hi h3
       ·obtain rfl:i=j:=by omega
        exact h)
      have HHI:=zh (show ¬ ys[j].n.name < NA->∀ hk:j < ys.length,¬ ys[j].n.name < NA from fun h _=>h)
      unfold strV at *
      generalize (⟨ys[j].n.name.toArray⟩:ByteArray)=Y at *
      by_cases hl3:ys[j].n.name < NA
      ·have hbl:Op.bytesLess Y.toList A.toList=true:=by rw [hTY,hTA,bytesLess_decT];exact decide_eq_true hl3
       have HN2:=zh (HNX.out hl3)
       clear hTY hTA HNX HHI hl3
       go_wp2_with fail
       exact ⟨⟨j+1,by omega,rfl,HMI.out,HN2.out⟩,by show n - ((j:Int)+1).toNat < n - (j:Int).toNat;omega⟩
      ·have hbl:Op.bytesLess Y.toList A.toList=false:=by rw [hTY,hTA,bytesLess_decT];exact decide_eq_false hl3
       have HHX:=zh (HHI.out hl3)
       clear hTY hTA HNX HHI hl3
       have HPI:=zh (put_ins HRIX.out (x:=(⟨ndK t,.slice oa om oc⟩:NdX)) (by rw [<- HYN.out,<- HNN.out];exact hj) (by rw [HNA.out] at HLO;exact HLO.out) (by rw [HNA.out] at HHX;exact HHX.out) (by
        intro hm
        refine hcond (.inr ?_)
        rw [<- HYM.out,List.map_map]
        exact hm))
       have HNIN:=zh (show (ndK t).name ∉ x.r.needs.map Nd.name from fun h=>hcond (.inr h))
       have HHD:=zh HPI.out.1
       obtain ⟨sv,tv,hsv,htv,hsc,hts,hld⟩:=nd_parts (HV.out.kn (HMZ0.out.trans HMI.out.drew)) HFL.out hj
       have HSV:=zh hsv
       have HTV:=zh htv
       obtain ⟨hi0,hz0,hz1,hz2⟩:=HI.out
       have hn3:n+1<=1000001:=by omega
       obtain ⟨cx,hcx⟩:∃ cx:List Value,cx=[.string A,.bool sa,.slice oa om oc,.string ⟨(ndK t).text.toArray⟩]:=⟨_,rfl⟩
       have HC:=zh (show cx.length=4 by rw [hcx];rfl)
       have HBU:=zh (show prog.built 81 [(0,.string A),(1,.agg #[.bool sa,.slice oa om oc]),(2,.string ⟨(ndK t).text.toArray⟩)]=some cx.toArray by rw [hcx];exact nd_built _ _ _ _ _ _)
       rw [<- hcx] at HCX
       obtain ⟨wD,hwD⟩:∃ y,y=wr.drew:=⟨_,rfl⟩
       rw [<- hwD] at hsc hts
       have HSC:=zh hsc
       have HTS:=zh hts
       have HLD:=zh hld
       have H1D:=zh (show ∀ u ∈ (ys.flatMap NdX.cells).drop (j*4),u.oneCell'=true from fun u hu=>H1L.out u (List.mem_of_mem_drop hu))
       have HMD:=zh (show Mod No w wD by rw [hwD];exact HMZ0.out.trans HMI.out.drew)
       have HSB:=zh (show wD.heap[sb]? = some (.cells #[.bool sa,.slice oa om oc] 79 (0,0)) by rw [hwD];exact HMI.out.drew.keep HSBZ.out (fun f=>f))
       have HQ:=zh (show ∀ w',Mod No wD w'->w'.cell? ⟨rb,38,none⟩=some (.slice (some ⟨vb,vo,none⟩) n vc) from fun w' h=>(HMD.out.trans h).cell HC38R.out (fun f=>f))
       have HC38:=zh (show ∀ W,Mod No wD W->∃ cz,W.cell? ⟨rb,38,none⟩=some cz/\W.frozen? ⟨rb,38,none⟩=false from fun W hW=>⟨_,HQ.out W hW,frozen_of _ ((HMD.out.trans hW).keep HRB.out (fun f=>f))⟩)
       have HBD:=zh (Nat.le_refl wD.heap.size)
       have HWD:=zh hwD
       have HFX:=zh (show (ys.flatMap NdX.cells).take (j*4)++(cx++(ys.flatMap NdX.cells).drop (j*4))=(insR (fun y=>decide ((ndK t).name < y.n.name)) ⟨ndK t,.slice oa om oc⟩ ys).flatMap NdX.cells by
        rw [<- HHD.out,List.flatMap_append,List.flatMap_cons,flat_takeN NdX.cells_length,flat_dropN NdX.cells_length,HCX.out])
       have HEND:=zh (show ∀ (W:World) (v':Value),Mod No wD W->W.ownsRow wD.heap.size 81 4 v' (n+1) ((insR (fun y=>decide ((ndK t).name < y.n.name)) ⟨ndK t,.slice oa om oc⟩ ys).flatMap NdX.cells)->(W.setCell ⟨rb,38,none⟩ v').heap[rb]? = some (.cells (RwX.cells ⟨{ x.r with needs:=nstep x.r.name x.r.needs t },x.pv,v'⟩).toArray 46 (0,0))/\NdsAt (W.setCell ⟨rb,38,none⟩ v') v' (nstep x.r.name x.r.needs t)/\Rises Nd.name (nstep x.r.name x.r.needs t)/\Mod (fun q=>q=rb) w (W.setCell ⟨rb,38,none⟩ v') from fun W v' hW hown=>by
        rw [HNST.out]
        refine need_end hS ((HMD.out.trans hW).keep HRB.out (fun f=>f)) (HMD.out.trans hW) (insR_map NdX.n (ltNd (ndK t)) ⟨ndK t,.slice oa om oc⟩ ys ▸ (by rw [HYM.out])) (fun y hy=>?_) hown (by rw [insR_length,<- HYN.out,<- HNN.out]) (insR_rises HRI.out HNIN.out)
        rcases (insR_mem _ _ _ _).1 hy with rfl | hy
        ·exact OrsAt.keep HORZ.out (by rw [hwD] at hW;exact (HMI.out.drew).trans hW) (Apart.no _ _)
        ·exact (HY2.out y hy).keep (HMD.out.trans hW) (Apart.no _ _))
       have hS0:=Mod.refl No wD
       generalize hXS:ys.flatMap NdX.cells=XS at *
       clear hsv htv hsc hts hld hwD hXS hcx
       go_upto_region 37 with fail
       refine wp_region_T (fun w'=>Mod No wD w') 17 (by kernel_rfl) ?_
       rw [<- HWD.out]
       refine wpAnyT_take 0 (some 190) ?_ rfl rfl (by kernel_rfl) (fun _ _ _ h=>h) hS0 (Or.inl ⟨by rfl,?_⟩) ?_
       rotate_left
       ·(intro w' hSw;go_simp;try with_reducible rfl)
       simp only [Act.put,yB,yC,yD]
       refine wpAnyT_take 1 (some 191) (.slice (some ⟨vb,vo,none⟩) n vc) rfl rfl (by kernel_rfl) (fun _ _ _ h=>h) hS0 (Or.inl ⟨by rfl,?_⟩) ?_
       ·(intro w' hSw;have q0:=HQ.out w' hSw;go_simp;try with_reducible rfl)
       simp only [Act.put,yB,yC,yD]
       refine wpAnyT_take 2 (some 192) ?_ rfl rfl (by kernel_rfl) (fun _ _ _ h=>h) hS0 (Or.inl ⟨by rfl,?_⟩) ?_
       rotate_left
       ·(intro w' hSw;go_simp;try with_reducible rfl)
       simp only [Act.put,yB,yC,yD]
       refine wpAnyT_take 3 (some 193) ?_ rfl rfl (by kernel_rfl) (fun _ _ _ h=>h) hS0 (Or.inl ⟨by rfl,?_⟩) ?_
       rotate_left
       ·(intro w' hSw;go_simp;try with_reducible rfl)
       simp only [Act.put,yB,yC,yD]
       refine wpAnyT_take 4 (some 194) sv rfl rfl (by kernel_rfl) (fun _ _ _ h=>h) hS0 (Or.inl ⟨by rfl,?_⟩) ?_
       ·(intro w' hSw;apply yslice3 (HSV.out w') (.tmp 191) (.tmp 192) (.tmp 193) <;> rfl)
       simp only [Act.put,yB,yC,yD]
       refine wpAnyT_take 5 (some 195) ?_ rfl rfl (by kernel_rfl) (fun _ _ _ h=>h) hS0 (Or.inl ⟨by rfl,?_⟩) ?_
       rotate_left
       ·(intro w' hSw;go_simp;try with_reducible rfl)
       simp only [Act.put,yB,yC,yD]
       refine wpAnyT_take 6 (some 196) (.agg #[.bool sa,.slice oa om oc]) rfl rfl (by kernel_rfl) (fun _ _ _ h=>h) hS0 (Or.inl ⟨by rfl,?_⟩) ?_
       ·(intro w' hSw;apply yloadv (run_loadVar_row (P:=prog) w' sb 79 79 #[.bool sa,.slice oa om oc] (0,0) _ (hSw.keep HSB.out (fun f=>f)) underlying79 rfl (by kernel_rfl)) (.tmp 19) <;> rfl)
       simp only [Act.put,yB,yC,yD]
       refine wpAnyT_take 7 (some 197) ?_ rfl rfl (by kernel_rfl) (fun _ _ _ h=>h) hS0 (Or.inl ⟨by rfl,?_⟩) ?_
       rotate_left
       ·(intro w' hSw;go_simp;try with_reducible rfl)
       simp only [Act.put,yB,yC,yD]
       refine wpAnyT_take 8 (some 198) (.agg cx.toArray) rfl rfl (by kernel_rfl) (fun _ _ _ h=>h) hS0 (Or.inl ⟨by rfl,?_⟩) ?_
       ·(intro w' hSw;exact ybuild _ (by simp only [Array.toList_map,List.map_cons,List.map_nil];exact HBU.out) rfl)
       simp only [Act.put,yB,yC,yD]
       refine wpAnyT_take 10 (some 200) ?_ rfl rfl (by kernel_rfl) (fun _ _ _ h=>h) hS0 (Or.inl ⟨by rfl,?_⟩) ?_
       rotate_left
       ·(intro w' hSw;go_simp;try with_reducible rfl)
       simp only [Act.put,yB,yC,yD]
       refine wpAnyT_take 11 (some 201) (.slice (some ⟨vb,vo,none⟩) n vc) rfl rfl (by kernel_rfl) (fun _ _ _ h=>h) hS0 (Or.inl ⟨by rfl,?_⟩) ?_
       ·(intro w' hSw;have q0:=HQ.out w' hSw;go_simp;try with_reducible rfl)
       simp only [Act.put,yB,yC,yD]
       refine wpAnyT_take 12 (some 202) ?_ rfl rfl (by kernel_rfl) (fun _ _ _ h=>h) hS0 (Or.inl ⟨by rfl,?_⟩) ?_
       rotate_left
       ·(intro w' hSw;go_simp;try with_reducible rfl)
       simp only [Act.put,yB,yC,yD]
       refine wpAnyT_take 13 (some 203) tv rfl rfl (by kernel_rfl) (fun _ _ _ h=>h) hS0 (Or.inl ⟨by rfl,?_⟩) ?_
       ·(intro w' hSw;apply yslice1 (HTV.out w') (.tmp 201) (.tmp 202) <;> rfl)
       simp only [Act.put,yB,yC,yD]
       refine wpAnyT_one 9 rfl (by kernel_rfl) rfl ?_
       intro K hK
       obtain ⟨ga,hga⟩:∃ ga,ga=wD.heap.size:=⟨_,rfl⟩
       obtain ⟨wD_9,hwD_9⟩:∃ y,y=wD.alloc (.cells cx.toArray 81):=⟨_,rfl⟩
       have HGA:=zh (show wD_9.heap[ga]? = some (.cells cx.toArray 81 (0,0)) by rw [hwD_9,hga];exact heap_alloc_new _ _)
       have hmwD_9:Mod No wD wD_9:=by rw [hwD_9];exact (Mod.refl No _).alloc _
       have HGL:=zh (show wD.heap.size<=ga by omega)
       refine wp_value (v:=.slice (some ⟨ga,0,none⟩) 1 1) (w':=wD_9) (by rw [hga,hwD_9];apply nd_new HC.out (.tmp 198) <;> rfl) ?_
       clear hwD_9 hga
       show K (Act.put _ (some 199) _) _
       have hS1:=hS0.trans hmwD_9
       refine hK.out _ _ (fun _=>hS1) ?_
       clear hK K
       refine wpAnyT_one 14 rfl (by kernel_rfl) rfl ?_
       intro K hK
       refine wp_app_sl wD_9 (.tmp 199) (.tmp 203) 44 (by rfl) ga 81 i0 _ 4 64 underlying44 hi0 hz0 hz1 hz2 rfl (by decide) (.slice (some ⟨ga,0,none⟩) 1 1) 1 cx (by rfl) ⟨by rw [HC.out],.inr ⟨ga,1,_,rfl,Nat.le_refl _,HGA.out,Nat.le_refl _,by unfold maxLen;omega,by simp [HC.out],by rw [List.toList_toArray,List.take_of_length_le (by rw [HC.out];decide)]⟩⟩ No 81 tv (n - j) (XS.drop (j*4)) (by rfl) (HTS.out.kn hS1) HLD.out H1D.out (by unfold maxLen;omega) (by omega) (Nat.le_of_lt (lt_of_heap HGA.out)) ?_
       intro v6 w6 hown hg6 _
       obtain ⟨g6,c6,rfl,hg6a⟩:=own_shape hown (by omega)
       have HO6:=zh hown
       have hm6:Mod No wD w6:=hS1.then (Mod.of_grown (S:=fun q=>q=ga) hg6 (fun q e _=>by cases e;rfl)) (fun q hq e=>by have e:q=ga:=e;have h1:=HGL.out;omega)
       have HB6:=zh (show wD.heap.size<=w6.heap.size from Nat.le_trans HBD.out hm6.size)
       clear hown hg6
       show K (Act.put _ (some 204) _) _
       have hS2:=hm6
       refine hK.out _ _ (fun _=>hS2) ?_
       clear hK K
       refine wpAnyT_one 15 rfl (by kernel_rfl) rfl ?_
       intro K hK
       refine wp_app_full w6 (.tmp 194) (.tmp 204) 44 (by rfl) wD.heap.size 81 i0 _ 4 64 underlying44 hi0 hz0 hz1 hz2 rfl sv j (XS.take (j*4)) (by rfl) (by
        rcases HSC.out with h | ⟨a0,h1,h2,h3⟩
        ·exact .inl h
        ·exact .inr ⟨a0,h1,h2,fun j u e=>hS2.cell (h3 j u e) (fun f=>f)⟩) ⟨g6,0,none⟩ (1+(n - j)) c6 (cx++XS.drop (j*4)) (by rfl) (by omega) HO6.out.1 (fun j u e=>HO6.out.cells (g:=g6) rfl j u e) (by unfold maxLen;omega) (by omega) HB6.out ?_
       intro v7 w7 hown7 hm7
       have HO7:=zh hown7
       clear hown7
       show K (Act.put _ (some 205) _) _
       have hS3:=hS2.trans hm7
       refine hK.out _ _ (fun _=>hS3) ?_
       clear hK K
       refine wpAnyT_take 16 (some 206) ?_ rfl rfl (by kernel_rfl) (fun _ _ _ h=>h) hS3 (Or.inl ⟨by rfl,?_⟩) ?_
       rotate_left
       ·(intro w' hSw;go_simp;try with_reducible rfl)
       simp only [Act.put,yB,yC,yD]
       refine wpAnyT_one 17 rfl (by kernel_rfl) rfl ?_
       intro K hK
       have HO8:=zh (show w7.ownsRow wD.heap.size 81 4 v7 (n+1) ((insR (fun y=>decide ((ndK t).name < y.n.name)) ⟨ndK t,.slice oa om oc⟩ ys).flatMap NdX.cells) by
        have h9:=HO7.out
        rw [HFX.out,show j+(1+(n - j))=n+1 by omega] at h9
        exact h9)
       obtain ⟨v7a,v7c,hv7⟩:=own_len HO8.out
       subst hv7
       have HX:=zh (HEND.out w7 _ hS3 HO8.out)
       obtain ⟨c38,hc38,hf38⟩:=HC38.out w7 hS3
       go_simp
       show K _ _
       refine hK.out _ _ (fun h=>absurd rfl h) ?_
       clear hK K
       refine wpAnyT_done (by kernel_rfl) ?_ _
       clear hS0 hS1 hS2 hS3
       go_wp2_with fail
       exact Met.intro (HJ.out _ _ ⟨_,⟨rfl,rfl,rfl,rfl,rfl,rfl,rfl,rfl,rfl,rfl,rfl,rfl,rfl,rfl,rfl,rfl,rfl,trivial⟩,HX.out.1,HX.out.2.1,HX.out.2.2.1,HX.out.2.2.2⟩)
     ·obtain rfl:n=j:=by omega
      have hj1:¬ ((n:Int) < (n:Int)):=by omega
      have HHX:=zh (show ∀ hk:n < ys.length,¬ ys[n].n.name < NA from fun h=>absurd h (by rw [<- HYN.out,<- HNN.out];omega))
      have HPI:=zh (put_ins HRIX.out (x:=(⟨ndK t,.slice oa om oc⟩:NdX)) (by rw [<- HYN.out,<- HNN.out];exact hj) (by rw [HNA.out] at HLO;exact HLO.out) (by rw [HNA.out] at HHX;exact HHX.out) (by
       intro hm
       refine hcond (.inr ?_)
       rw [<- HYM.out,List.map_map]
       exact hm))
      have HNIN:=zh (show (ndK t).name ∉ x.r.needs.map Nd.name from fun h=>hcond (.inr h))
      have HHD:=zh HPI.out.1
      obtain ⟨sv,tv,hsv,htv,hsc,hts,hld⟩:=nd_parts (HV.out.kn (HMZ0.out.trans HMI.out.drew)) HFL.out hj
      have HSV:=zh hsv
      have HTV:=zh htv
      obtain ⟨hi0,hz0,hz1,hz2⟩:=HI.out
      have hn3:n+1<=1000001:=by omega
      obtain ⟨cx,hcx⟩:∃ cx:List Value,cx=[.string A,.bool sa,.slice oa om oc,.string ⟨(ndK t).text.toArray⟩]:=⟨_,rfl⟩
      have HC:=zh (show cx.length=4 by rw [hcx];rfl)
      have HBU:=zh (show prog.built 81 [(0,.string A),(1,.agg #[.bool sa,.slice oa om oc]),(2,.string ⟨(ndK t).text.toArray⟩)]=some cx.toArray by rw [hcx];exact nd_built _ _ _ _ _ _)
      rw [<- hcx] at HCX
      obtain ⟨wD,hwD⟩:∃ y,y=wr.drew:=⟨_,rfl⟩
      rw [<- hwD] at hsc hts
      have HSC:=zh hsc
      have HTS:=zh hts
      have HLD:=zh hld
      have H1D:=zh (show ∀ u ∈ (ys.flatMap NdX.cells).drop (n*4),u.oneCell'=true from fun u hu=>H1L.out u (List.mem_of_mem_drop hu))
      have HMD:=zh (show Mod No w wD by rw [hwD];exact HMZ0.out.trans HMI.out.drew)
      have HSB:=zh (show wD.heap[sb]? = some (.cells #[.bool sa,.slice oa om oc] 79 (0,0)) by rw [hwD];exact HMI.out.drew.keep HSBZ.out (fun f=>f))
      have HQ:=zh (show ∀ w',Mod No wD w'->w'.cell? ⟨rb,38,none⟩=some (.slice va n vc) from fun w' h=>(HMD.out.trans h).cell HC38R.out (fun f=>f))
      have HC38:=zh (show ∀ W,Mod No wD W->∃ cz,W.cell? ⟨rb,38,none⟩=some cz/\W.frozen? ⟨rb,38,none⟩=false from fun W hW=>⟨_,HQ.out W hW,frozen_of _ ((HMD.out.trans hW).keep HRB.out (fun f=>f))⟩)
      have HBD:=zh (Nat.le_refl wD.heap.size)
      have HWD:=zh hwD
      have HFX:=zh (show (ys.flatMap NdX.cells).take (n*4)++(cx++(ys.flatMap NdX.cells).drop (n*4))=(insR (fun y=>decide ((ndK t).name < y.n.name)) ⟨ndK t,.slice oa om oc⟩ ys).flatMap NdX.cells by
       rw [<- HHD.out,List.flatMap_append,List.flatMap_cons,flat_takeN NdX.cells_length,flat_dropN NdX.cells_length,HCX.out])
      have HEND:=zh (show ∀ (W:World) (v':Value),Mod No wD W->W.ownsRow wD.heap.size 81 4 v' (n+1) ((insR (fun y=>decide ((ndK t).name < y.n.name)) ⟨ndK t,.slice oa om oc⟩ ys).flatMap NdX.cells)->(W.setCell ⟨rb,38,none⟩ v').heap[rb]? = some (.cells (RwX.cells ⟨{ x.r with needs:=nstep x.r.name x.r.needs t },x.pv,v'⟩).toArray 46 (0,0))/\NdsAt (W.setCell ⟨rb,38,none⟩ v') v' (nstep x.r.name x.r.needs t)/\Rises Nd.name (nstep x.r.name x.r.needs t)/\Mod (fun q=>q=rb) w (W.setCell ⟨rb,38,none⟩ v') from fun W v' hW hown=>by
       rw [HNST.out]
       refine need_end hS ((HMD.out.trans hW).keep HRB.out (fun f=>f)) (HMD.out.trans hW) (insR_map NdX.n (ltNd (ndK t)) ⟨ndK t,.slice oa om oc⟩ ys ▸ (by rw [HYM.out])) (fun y hy=>?_) hown (by rw [insR_length,<- HYN.out,<- HNN.out]) (insR_rises HRI.out HNIN.out)
       rcases (insR_mem _ _ _ _).1 hy with rfl | hy
       ·exact OrsAt.keep HORZ.out (by rw [hwD] at hW;exact (HMI.out.drew).trans hW) (Apart.no _ _)
       ·exact (HY2.out y hy).keep (HMD.out.trans hW) (Apart.no _ _))
      have hS0:=Mod.refl No wD
      generalize hXS:ys.flatMap NdX.cells=XS at *
      clear hsv htv hsc hts hld hwD hXS hcx
      go_upto_region 37 with fail
      refine wp_region_T (fun w'=>Mod No wD w') 17 (by kernel_rfl) ?_
      rw [<- HWD.out]
      refine wpAnyT_take 0 (some 190) ?_ rfl rfl (by kernel_rfl) (fun _ _ _ h=>h) hS0 (Or.inl ⟨by rfl,?_⟩) ?_
      rotate_left
      ·(intro w' hSw;go_simp;try with_reducible rfl)
      simp only [Act.put,yB,yC,yD]
      refine wpAnyT_take 1 (some 191) (.slice va n vc) rfl rfl (by kernel_rfl) (fun _ _ _ h=>h) hS0 (Or.inl ⟨by rfl,?_⟩) ?_
      ·(intro w' hSw;have q0:=HQ.out w' hSw;go_simp;try with_reducible rfl)
      simp only [Act.put,yB,yC,yD]
      refine wpAnyT_take 2 (some 192) ?_ rfl rfl (by kernel_rfl) (fun _ _ _ h=>h) hS0 (Or.inl ⟨by rfl,?_⟩) ?_
      rotate_left
      ·(intro w' hSw;go_simp;try with_reducible rfl)
      simp only [Act.put,yB,yC,yD]
      refine wpAnyT_take 3 (some 193) ?_ rfl rfl (by kernel_rfl) (fun _ _ _ h=>h) hS0 (Or.inl ⟨by rfl,?_⟩) ?_
      rotate_left
      ·(intro w' hSw;go_simp;try with_reducible rfl)
      simp only [Act.put,yB,yC,yD]
      refine wpAnyT_take 4 (some 194) sv rfl rfl (by kernel_rfl) (fun _ _ _ h=>h) hS0 (Or.inl ⟨by rfl,?_⟩) ?_
      ·(intro w' hSw;apply yslice3 (HSV.out w') (.tmp 191) (.tmp 192) (.tmp 193) <;> rfl)
      simp only [Act.put,yB,yC,yD]
      refine wpAnyT_take 5 (some 195) ?_ rfl rfl (by kernel_rfl) (fun _ _ _ h=>h) hS0 (Or.inl ⟨by rfl,?_⟩) ?_
      rotate_left
      ·(intro w' hSw;go_simp;try with_reducible rfl)
      simp only [Act.put,yB,yC,yD]
      refine wpAnyT_take 6 (some 196) (.agg #[.bool sa,.slice oa om oc]) rfl rfl (by kernel_rfl) (fun _ _ _ h=>h) hS0 (Or.inl ⟨by rfl,?_⟩) ?_
      ·(intro w' hSw;apply yloadv (run_loadVar_row (P:=prog) w' sb 79 79 #[.bool sa,.slice oa om oc] (0,0) _ (hSw.keep HSB.out (fun f=>f)) underlying79 rfl (by kernel_rfl)) (.tmp 19) <;> rfl)
      simp only [Act.put,yB,yC,yD]
      refine wpAnyT_take 7 (some 197) ?_ rfl rfl (by kernel_rfl) (fun _ _ _ h=>h) hS0 (Or.inl ⟨by rfl,?_⟩) ?_
      rotate_left
      ·(intro w' hSw;go_simp;try with_reducible rfl)
      simp only [Act.put,yB,yC,yD]
      refine wpAnyT_take 8 (some 198) (.agg cx.toArray) rfl rfl (by kernel_rfl) (fun _ _ _ h=>h) hS0 (Or.inl ⟨by rfl,?_⟩) ?_
      ·(intro w' hSw;exact ybuild _ (by simp only [Array.toList_map,List.map_cons,List.map_nil];exact HBU.out) rfl)
      simp only [Act.put,yB,yC,yD]
      refine wpAnyT_take 10 (some 200) ?_ rfl rfl (by kernel_rfl) (fun _ _ _ h=>h) hS0 (Or.inl ⟨by rfl,?_⟩) ?_
      rotate_left
      ·(intro w' hSw;go_simp;try with_reducible rfl)
      simp only [Act.put,yB,yC,yD]
      refine wpAnyT_take 11 (some 201) (.slice va n vc) rfl rfl (by kernel_rfl) (fun _ _ _ h=>h) hS0 (Or.inl ⟨by rfl,?_⟩) ?_
      ·(intro w' hSw;have q0:=HQ.out w' hSw;go_simp;try with_reducible rfl)
      simp only [Act.put,yB,yC,yD]
      refine wpAnyT_take 12 (some 202) ?_ rfl rfl (by kernel_rfl) (fun _ _ _ h=>h) hS0 (Or.inl ⟨by rfl,?_⟩) ?_
      rotate_left
      ·(intro w' hSw;go_simp;try with_reducible rfl)
      simp only [Act.put,yB,yC,yD]
      refine wpAnyT_take 13 (some 203) tv rfl rfl (by kernel_rfl) (fun _ _ _ h=>h) hS0 (Or.inl ⟨by rfl,?_⟩) ?_
      ·(intro w' hSw;apply yslice1 (HTV.out w') (.tmp 201) (.tmp 202) <;> rfl)
      simp only [Act.put,yB,yC,yD]
      refine wpAnyT_one 9 rfl (by kernel_rfl) rfl ?_
      intro K hK
      obtain ⟨ga,hga⟩:∃ ga,ga=wD.heap.size:=⟨_,rfl⟩
      obtain ⟨wD_9,hwD_9⟩:∃ y,y=wD.alloc (.cells cx.toArray 81):=⟨_,rfl⟩
      have HGA:=zh (show wD_9.heap[ga]? = some (.cells cx.toArray 81 (0,0)) by rw [hwD_9,hga];exact heap_alloc_new _ _)
      have hmwD_9:Mod No wD wD_9:=by rw [hwD_9];exact (Mod.refl No _).alloc _
      have HGL:=zh (show wD.heap.size<=ga by omega)
      refine wp_value (v:=.slice (some ⟨ga,0,none⟩) 1 1) (w':=wD_9) (by rw [hga,hwD_9];apply nd_new HC.out (.tmp 198) <;> rfl) ?_
      clear hwD_9 hga
      show K (Act.put _ (some 199) _) _
      have hS1:=hS0.trans hmwD_9
      refine hK.out _ _ (fun _=>hS1) ?_
      clear hK K
      refine wpAnyT_one 14 rfl (by kernel_rfl) rfl ?_
      intro K hK
      refine wp_app_sl wD_9 (.tmp 199) (.tmp 203) 44 (by rfl) ga 81 i0 _ 4 64 underlying44 hi0 hz0 hz1 hz2 rfl (by decide) (.slice (some ⟨ga,0,none⟩) 1 1) 1 cx (by rfl) ⟨by rw [HC.out],.inr ⟨ga,1,_,rfl,Nat.le_refl _,HGA.out,Nat.le_refl _,by unfold maxLen;omega,by simp [HC.out],by rw [List.toList_toArray,List.take_of_length_le (by rw [HC.out];decide)]⟩⟩ No 81 tv (n - n) (XS.drop (n*4)) (by rfl) (HTS.out.kn hS1) HLD.out H1D.out (by unfold maxLen;omega) (by omega) (Nat.le_of_lt (lt_of_heap HGA.out)) ?_
      intro v6 w6 hown hg6 _
      obtain ⟨g6,c6,rfl,hg6a⟩:=own_shape hown (by omega)
      have HO6:=zh hown
      have hm6:Mod No wD w6:=hS1.then (Mod.of_grown (S:=fun q=>q=ga) hg6 (fun q e _=>by cases e;rfl)) (fun q hq e=>by have e:q=ga:=e;have h1:=HGL.out;omega)
      have HB6:=zh (show wD.heap.size<=w6.heap.size from Nat.le_trans HBD.out hm6.size)
      clear hown hg6
      show K (Act.put _ (some 204) _) _
      have hS2:=hm6
      refine hK.out _ _ (fun _=>hS2) ?_
      clear hK K
      refine wpAnyT_one 15 rfl (by kernel_rfl) rfl ?_
      intro K hK
      refine wp_app_full w6 (.tmp 194) (.tmp 204) 44 (by rfl) wD.heap.size 81 i0 _ 4 64 underlying44 hi0 hz0 hz1 hz2 rfl sv n (XS.take (n*4)) (by rfl) (by
       rcases HSC.out with h | ⟨a0,h1,h2,h3⟩
       ·exact .inl h
       ·exact .inr ⟨a0,h1,h2,fun j u e=>hS2.cell (h3 j u e) (fun f=>f)⟩) ⟨g6,0,none⟩ (1+(n - n)) c6 (cx++XS.drop (n*4)) (by rfl) (by omega) HO6.out.1 (fun j u e=>HO6.out.cells (g:=g6) rfl j u e) (by unfold maxLen;omega) (by omega) HB6.out ?_
      intro v7 w7 hown7 hm7
      have HO7:=zh hown7
      clear hown7
      show K (Act.put _ (some 205) _) _
      have hS3:=hS2.trans hm7
      refine hK.out _ _ (fun _=>hS3) ?_
      clear hK K
      refine wpAnyT_take 16 (some 206) ?_ rfl rfl (by kernel_rfl) (fun _ _ _ h=>h) hS3 (Or.inl ⟨by rfl,?_⟩) ?_
      rotate_left
      ·(intro w' hSw;go_simp;try with_reducible rfl)
      simp only [Act.put,yB,yC,yD]
      refine wpAnyT_one 17 rfl (by kernel_rfl) rfl ?_
      intro K hK
      have HO8:=zh (show w7.ownsRow wD.heap.size 81 4 v7 (n+1) ((insR (fun y=>decide ((ndK t).name < y.n.name)) ⟨ndK t,.slice oa om oc⟩ ys).flatMap NdX.cells) by
       have h9:=HO7.out
       rw [HFX.out,show n+(1+(n - n))=n+1 by omega] at h9
       exact h9)
      obtain ⟨v7a,v7c,hv7⟩:=own_len HO8.out
      subst hv7
      have HX:=zh (HEND.out w7 _ hS3 HO8.out)
      obtain ⟨c38,hc38,hf38⟩:=HC38.out w7 hS3
      go_simp
      show K _ _
      refine hK.out _ _ (fun h=>absurd rfl h) ?_
      clear hK K
      refine wpAnyT_done (by kernel_rfl) ?_ _
      clear hS0 hS1 hS2 hS3
      go_wp2_with fail
      exact Met.intro (HJ.out _ _ ⟨_,⟨rfl,rfl,rfl,rfl,rfl,rfl,rfl,rfl,rfl,rfl,rfl,rfl,rfl,rfl,rfl,rfl,rfl,trivial⟩,HX.out.1,HX.out.2.1,HX.out.2.2.1,HX.out.2.2.2⟩)
end Go.Proofs.YtgiigemfbebcgaaGreatDoor
