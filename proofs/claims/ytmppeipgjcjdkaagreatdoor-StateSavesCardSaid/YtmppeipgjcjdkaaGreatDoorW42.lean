/-
  Layers 0 to 14: helps of the laws of indexes. No statement is proved here; no condition.
-/
import Derived.Test.YtmppeipgjcjdkaaGreatDoorW39
import Derived.Test.YtmppeipgjcjdkaaGreatDoorW41
import Derived.Test.YtmppeipgjcjdkaaGreatDoorW29
import Derived.Test.YtmppeipgjcjdkaaGreatDoorW38
import Derived.Test.YtmppeipgjcjdkaaGreatDoorW31
import Derived.Test.YtmppeipgjcjdkaaGreatDoorW27
namespace Go.Proofs.YtmppeipgjcjdkaaGreatDoor
open _root_.Go.Proofs.Tryz
open Go.RowKit Go.Maps
def kyM:List UInt8:=[115,47,109,97,110,105,102,101,115,116]
def kyL:List UInt8:=[115,47,108,111,99,107]
def kyT:List UInt8:=[115,47,116,114,101,101]
set_option maxRecDepth 100000 in
set_option maxHeartbeats 8000000 in
theorem load_any {w0 w:World} {N sz b s n cnt:Nat} {O:Nat->Prop} {M:Mt} {A:List UInt8->Option (List UInt8)} (h:Sto w0 w N sz b s O n M cnt) (hK:CaK M A) (hn:n<=100000) (hkn:∀ ks,KeysOfM M ks->ks.length<=100000) (hlen:((M kyT).getD []).length<=300000) :
  Calls prog 13 #[.pointer (some ⟨s,0,none⟩)] w fun e w'=>(∃ (v:Value) (L:List (List UInt8)),e=.returned v/\L.Pairwise (· < ·)/\(∀ S,S ∈ L ↔ (A S).isSome=true)/\StaAt w' (fun q=>q < w.heap.size) v ((M kyM).getD []) ((M kyL).getD []) L (filesD ((M kyT).getD [])))/\Mod No w w':=by
 refine calls_hide fun R hR=>?_
 obtain ⟨xm,hxm⟩:∃ x,x=(M kyM).getD []:=⟨_,rfl⟩
 obtain ⟨xl,hxl⟩:∃ x,x=(M kyL).getD []:=⟨_,rfl⟩
 obtain ⟨xt,hxt⟩:∃ x,x=(M kyT).getD []:=⟨_,rfl⟩
 obtain ⟨bm,hbm⟩:∃ x,x=(M kyM).isSome:=⟨_,rfl⟩
 obtain ⟨bl,hbl⟩:∃ x,x=(M kyL).isSome:=⟨_,rfl⟩
 obtain ⟨bt,hbt⟩:∃ x,x=(M kyT).isSome:=⟨_,rfl⟩
 have HG:=zh (show ∀ W,Mod No w W->Calls prog 21 #[.pointer (some ⟨s,0,none⟩),.string ⟨#[115,47,109,97,110,105,102,101,115,116]⟩] W fun e w'=>e=.returned (.tuple #[strV xm,.bool bm])/\w'=W from fun W hm=>by rw [hxm,hbm];exact (h.stay hm).get kyM (by decide))
 have HG2:=zh (show ∀ W,Mod No w W->Calls prog 21 #[.pointer (some ⟨s,0,none⟩),.string ⟨#[115,47,108,111,99,107]⟩] W fun e w'=>e=.returned (.tuple #[strV xl,.bool bl])/\w'=W from fun W hm=>by rw [hxl,hbl];exact (h.stay hm).get kyL (by decide))
 have HG3:=zh (show ∀ W,Mod No w W->Calls prog 21 #[.pointer (some ⟨s,0,none⟩),.string ⟨#[115,47,116,114,101,101]⟩] W fun e w'=>e=.returned (.tuple #[strV xt,.bool bt])/\w'=W from fun W hm=>by rw [hxt,hbt];exact (h.stay hm).get kyT (by decide))
 have HCK:=zh (fun W cb (hm:Mod No w W) (hc:CaObj W cb s)=>ckeys_any (h.stay hm) hc hK hn hkn)
 have HFL:=zh (fun W=>stfiles_any xt (by rw [hxt];exact hlen) W)
 have HCN:=zh (fun W=>cnew_any s W)
 rw [<- hxm,<- hxl,<- hxt] at hR
 clear h hK hn hkn hlen hxm hxl hxt hbm hbl hbt
 obtain ⟨PM,hPM⟩:∃ P,P=strV xm:=⟨_,rfl⟩
 obtain ⟨PL,hPL⟩:∃ P,P=strV xl:=⟨_,rfl⟩
 obtain ⟨PT,hPT⟩:∃ P,P=strV xt:=⟨_,rfl⟩
 unfold strV at *
 obtain ⟨QM,hQM⟩:∃ Q:ByteArray,Q=⟨xm.toArray⟩:=⟨_,rfl⟩
 obtain ⟨QL,hQL⟩:∃ Q:ByteArray,Q=⟨xl.toArray⟩:=⟨_,rfl⟩
 rw [<- hQM] at HG
 rw [<- hQL] at HG2
 have HQM:=zh hQM
 have HQL:=zh hQL
 generalize (⟨xt.toArray⟩:ByteArray)=QT at *
 clear hPM hPL hPT PM PL PT hQM hQL
 obtain ⟨gb,hgb⟩:∃ g,g=w.heap.size:=⟨_,rfl⟩
 obtain ⟨w1,hw1⟩:∃ w1,w1=w.alloc (.cells #[.string ⟨#[]⟩,.string ⟨#[]⟩,.slice none 0 0,.slice none 0 0] 38):=⟨_,rfl⟩
 have m1:Mod No w w1:=by rw [hw1];exact (Mod.refl No w).alloc _
 have HF1:=zh (show w1.heap[gb]? = some (.cells #[.string ⟨#[]⟩,.string ⟨#[]⟩,.slice none 0 0,.slice none 0 0] 38 (0,0)) by rw [hw1,hgb];exact heap_alloc_new w _)
 have HW1:=zh hw1
 have HM1:=zh m1
 have HGB:=zh hgb
 have HG1w:=zh (HG.out w1 m1)
 clear hw1 m1 hgb HG
 go_enter func13,ntmps13
 go_upto_region 1 with fail
 rw [<- HW1.out,<- HGB.out]
 go_wp2_with fail
 with_reducible refine HG1w.out.mono ?_
 rintro e w2 ⟨rfl,rfl⟩
 have HG2w:=zh (HG2.out w2 HM1.out)
 clear HG1w HG2
 go_wp2_with fail
 with_reducible refine HG2w.out.mono ?_
 rintro e w3 ⟨rfl,rfl⟩
 have HG3w:=zh (HG3.out w3 HM1.out)
 clear HG2w HG3
 go_wp2_with fail
 with_reducible refine HG3w.out.mono ?_
 rintro e w4 ⟨rfl,rfl⟩
 clear HG3w
 go_wp2_with fail
 with_reducible refine (HCN.out w4).mono ?_
 rintro e w5 ⟨rfl,hc5,hm5,hz5⟩
 have HM5:=zh (HM1.out.trans hm5)
 have HK5:=zh (HCK.out w5 _ HM5.out hc5)
 have HF5:=zh (hm5.keep HF1.out (fun f=>f))
 clear hc5 hm5 hz5 HCK HCN HF1
 go_wp2_with fail
 with_reducible refine HK5.out.mono ?_
 rintro e w6 ⟨⟨kv,L,rfl,hL1,hL2,hL3,hown⟩,hm6⟩
 have HM6:=zh (HM5.out.trans hm6)
 have HF6:=zh (hm6.keep HF5.out (fun f=>f))
 have HKS:=zh (show Sl w6 (fun q=>q < w.heap.size) 47 kv L.length (keyCells L) from Sl.of_own hown (fun k hk f=>by have:=HM5.out.size;omega))
 obtain ⟨ka,kc,rfl⟩:=own_len hown
 have HLL:=zh (And.intro hL1 (And.intro hL2 hL3))
 have HFL6:=zh (HFL.out w6)
 clear hL1 hL2 hL3 hown hm6 HK5 HF5 HFL
 go_wp2_with fail
 with_reducible refine HFL6.out.mono ?_
 rintro e w7 ⟨⟨tv,ys,rfl,hys,hsv,hfl⟩,hm7⟩
 have hf7:=hm7.keep HF6.out (fun f=>f)
 have HM7:=zh (HM6.out.trans hm7)
 have HST:=zh (show ∀ w8,Mod (fun k=>k=gb) w7 w8->StaAt w8 (fun q=>q < w.heap.size) (.agg #[strV xm,strV xl,.slice ka L.length kc,tv]) xm xl L (filesD xt) from fun w8 hm8=>by
  have ha:Apart [47,51,5] (fun k=>k=gb) w7:=fun k cur fz e hk hc he=>by
   subst hk
   rw [hf7] at hc
   cases hc
   simp at he
  have hsz6:=HM6.out.size
  exact ⟨_,tv,ys,rfl,HLL.out.1,SvX.of ((HKS.out.kn hm7).keep hm8 (fun k cur fz hk _ hc=>ha k cur fz _ hk hc (by simp))),hys,SvX.of ((hsv.keep hm8 (fun k cur fz hk _ hc=>ha k cur fz _ hk hc (by simp))).shrink (fun k _ h=>by omega)),fun y hy=>SvX.of (((hfl y hy).keep hm8 (fun k cur fz hk _ hc=>ha k cur fz _ hk hc (by simp))).shrink (fun k _ h=>by omega))⟩)
 obtain ⟨ta,tc,rfl⟩:=hsv.len
 have HF7:=zh hf7
 clear hys hsv hfl hm7 HFL6 HF6
 have k0:w7.cell? ⟨gb,0,none⟩=some (.string ⟨#[]⟩):=cell_ofA hf7 rfl
 have k1:w7.cell? ⟨gb,1,none⟩=some (.string ⟨#[]⟩):=cell_ofA hf7 rfl
 have k2:w7.cell? ⟨gb,2,none⟩=some (.slice none 0 0):=cell_ofA hf7 rfl
 have k3:w7.cell? ⟨gb,3,none⟩=some (.slice none 0 0):=cell_ofA hf7 rfl
 have z0:=frozen_of 0 hf7
 have z1:=frozen_of 1 hf7
 have z2:=frozen_of 2 hf7
 have z3:=frozen_of 3 hf7
 clear hf7
 go_wp2_with fail
 have m8:Mod (fun k=>k=gb) w7 ((((w7.setCell ⟨gb,0,none⟩ (.string QM)).setCell ⟨gb,1,none⟩ (.string QL)).setCell ⟨gb,2,none⟩ (.slice ka L.length kc)).setCell ⟨gb,3,none⟩ (.slice ta ys.length tc)):=((((Mod.refl (fun k=>k=gb) w7).setCell (fun _=>rfl) _).setCell (fun _=>rfl) _).setCell (fun _=>rfl) _).setCell (fun _=>rfl) _
 have hf8:((((w7.setCell ⟨gb,0,none⟩ (.string QM)).setCell ⟨gb,1,none⟩ (.string QL)).setCell ⟨gb,2,none⟩ (.slice ka L.length kc)).setCell ⟨gb,3,none⟩ (.slice ta ys.length tc)).heap[gb]? = some (.cells #[.string QM,.string QL,.slice ka L.length kc,.slice ta ys.length tc] 38 (0,0)):=by
  rw [heap_setCell (heap_setCell (heap_setCell (heap_setCell HF7.out _) _) _) _]
  rfl
 have hst8:=HST.out _ m8
 have hm8:Mod No w _:=HM7.out.then m8 (fun i hi e=>by have e:i=gb:=e;have:=HGB.out;omega)
 generalize ((((w7.setCell ⟨gb,0,none⟩ (.string QM)).setCell ⟨gb,1,none⟩ (.string QL)).setCell ⟨gb,2,none⟩ (.slice ka L.length kc)).setCell ⟨gb,3,none⟩ (.slice ta ys.length tc))=w8 at *
 refine bodyPost_ret (v:=.agg #[.string QM,.string QL,.slice ka L.length kc,.slice ta ys.length tc]) (results_cell_row rfl _ _ gb 38 #[.string QM,.string QL,.slice ka L.length kc,.slice ta ys.length tc] (0,0) _ rfl hf8 underlying38 (by kernel_rfl) (by kernel_rfl)) rfl (fin hR ⟨⟨_,L,rfl,HLL.out.2.1,HLL.out.2.2,?_⟩,hm8⟩)
 rw [HQM.out,HQL.out]
 exact hst8
theorem info_pr:(prog.info? 33).map (fun i=>(i.zero,i.size,i.bytes))=some (some (.agg #[.string ⟨#[]⟩,.string ⟨#[]⟩,.bool false]),3,40):=by kernel_rfl
def prC (p:Pr):List Value:=[.string ⟨p.key.toArray⟩,.string ⟨p.value.toArray⟩,.bool p.gone]
theorem prC_length (p:Pr):(prC p).length=3:=rfl
theorem prCells_flat (l:List Pr):prCells l=l.flatMap prC:=rfl
theorem prC_one (l:List Pr):∀ u ∈ prCells l,u.oneCell'=true:=fun u hu=>by
 obtain ⟨p,-,hp⟩:=List.mem_flatMap.1 hu
 simp only [List.mem_cons,List.not_mem_nil,or_false] at hp
 rcases hp with rfl | rfl | rfl <;> rfl
theorem prs_of_sl {w:World} {X:Nat->Prop} {e:TypeId} {a:Option Addr} {n c:Nat} {l:List Pr} (h:Sl w X e (.slice a n c) n (prCells l)):Prs w X a l :=
 ⟨fun i hi=>by
  have hl:=flat_length prC_length l
  rw [<- prCells_flat] at hl
  rcases h with ⟨-,-,h0⟩ | ⟨b,o,c',cur,fz,hv,h1,h2,h3,h4,h5,h6⟩
  ·rw [h0] at hl;simp at hl;omega
  ·cases hv
   have key:∀ j u,(prC l[i])[j]? = some u->w.cell? ⟨b,o+(i*3+j),none⟩=some u:=fun j u hu=>by
    have h7:=flat_get prC_length l hi hu
    rw [<- prCells_flat] at h7
    have h8:=(List.getElem?_eq_some_iff.1 h7).1
    simp only [World.cell?,h4]
    rw [h6 _ h8,h7]
    rfl
   exact ⟨b,o,rfl,h3,key 0 _ rfl,key 1 _ rfl,key 2 _ rfl⟩⟩
def savP (m l:List UInt8) (t:Tr):List Pr:=[⟨kyM,m,false⟩,⟨kyL,l,false⟩,⟨kyT,treeB t,false⟩]
def SavPost (w0 w w':World) (N sz b s:Nat) (O:Nat->Prop) (n:Nat) (M:Mt) (cnt:Nat) (m l:List UInt8) (fl:List Fl) (ps:List Pr) (e:Ending):Prop:=match ofT fl with
 | .inr _=>e=.returned (.int .i64 55)/\Mod No w w'
 | .inl t=>e=.returned (.int .i64 0)/\∃ O',Sto w0 w' N sz b s O' (n+(3+ps.length)) (M.changes (savP m l t++ps)) (cnt+1)/\(∀ q,q < w.heap.size->O' q->O q)/\Mod O w w'
theorem fitsT_light {l:List Fl} (hl:l.length<=20) (h:∀ f ∈ l,f.path.length<=300/\f.b.length<=500):fitsT l=match ofT l with | .inl _=>true | .inr _=>false:=by
 have h1:=packL_le hl h
 unfold fitsT
 cases ofT l with
 | inl t=>simp;omega
 | inr c=>rfl
set_option maxRecDepth 100000 in
set_option maxHeartbeats 8000000 in
theorem save_any {w0 w:World} {N sz b s n cnt:Nat} {O:Nat->Prop} {M:Mt} (h:Sto w0 w N sz b s O n M cnt) (m l:List UInt8) (hm:m.length<=1000) (hl:l.length<=1000) (xs:List FlX) (v:Value) (hv:SvX w No v xs.length (xs.flatMap FlX.cells)) (hx:∀ x ∈ xs,FlIn w x) (hxl:xs.length<=20) (hb:∀ x ∈ xs,x.f.path.length<=300/\x.f.b.length<=500)
  (ps:List Pr) (u:Value) (hps:ps.length<=100) (hu:Sl w No 33 u ps.length (prCells ps)) (hpm:MidP ps) (hnn:n+(3+ps.length)<=100000) (hcnt:cnt<=1000000000) (hgl:Gl w)
  (hM:∀ t,ofT (xs.map FlX.f)=.inl t->MidM (M.changes (savP m l t++ps))/\Fits N sz (M.changes (savP m l t++ps))) :
  Calls prog 10 #[.pointer (some ⟨s,0,none⟩),strV m,strV l,v,u] w fun e w'=>SavPost w0 w w' N sz b s O n M cnt m l (xs.map FlX.f) ps e:=by
 refine calls_hide fun R hR=>?_
 obtain ⟨i0,hi0,hz0,hz1,hz2⟩:=info_parts info_pr
 have H:=zh h
 have HFI:=zh (fits_any xs v w hv hx hxl (fun x hx=>⟨by have:=hb x hx;omega,(hb x hx).2⟩) hgl)
 have HOF:=zh (fun W (hm:Mod No w W)=>tof_any xs v W (hv.kn hm) (fun x h=>(hx x h).no hm) hxl (fun x hx=>⟨by have:=hb x hx;omega,(hb x hx).2⟩) (hgl.stay hm (fun f=>f)))
 have HFT:=zh (fitsT_light (l:=xs.map FlX.f) (by rw [List.length_map];exact hxl) (fun f hf=>by
  obtain ⟨x,hx,rfl⟩:=List.mem_map.1 hf
  exact hb x hx))
 have HSM:=zh (fun t (ht:ofT (xs.map FlX.f)=.inl t)=>of_sm (l:=xs.map FlX.f) (by rw [List.length_map];exact hxl) (fun f hf=>by
  obtain ⟨x,hx,rfl⟩:=List.mem_map.1 hf
  exact (hb x hx).2) ht)
 have HMM:=zh hM
 have HU:=zh hu
 have HPM:=zh hpm
 obtain ⟨va,vc,rfl⟩:=hv.1
 obtain ⟨ua,uc,rfl⟩:=hu.len
 generalize hn1:xs.length=xn at *
 clear h hv hx hb hu hpm hM hn1 hgl
 generalize xs.map FlX.f=fl at *
 have HML:=zh (And.intro hm hl)
 obtain ⟨PM,hPM⟩:∃ P:ByteArray,P=⟨m.toArray⟩:=⟨_,rfl⟩
 obtain ⟨PL,hPL⟩:∃ P:ByteArray,P=⟨l.toArray⟩:=⟨_,rfl⟩
 unfold strV
 rw [<- hPM,<- hPL]
 have HPML:=zh (And.intro hPM hPL)
 clear hm hl hPM hPL
 go_enter func10,ntmps10
 go_wp2_with fail
 with_reducible refine HFI.out.mono ?_
 rintro e w1 ⟨rfl,hm1⟩
 have HM1:=zh hm1
 clear hm1 HFI
 cases ho:ofT fl with
 | inr c =>
  have HE:=zh (show fitsT fl=false by rw [HFT.out,ho])
  have HP:=zh (show ∀ w',Mod No w w'->SavPost w0 w w' N sz b s O n M cnt m l fl ps (.returned (.int .i64 55)) from fun w' h=>by
   unfold SavPost
   rw [ho]
   exact ⟨rfl,h⟩)
  clear HFT ho HMM HSM HOF
  rw [HE.out]
  go_wp2_with fail
  exact fin hR (HP.out _ HM1.out)
 | inl t =>
  have HE:=zh (show fitsT fl=true by rw [HFT.out,ho])
  have hsm:=HSM.out t ho
  obtain ⟨hmid,hfit⟩:=HMM.out t ho
  have HP:=zh (show ∀ w',(∃ O',Sto w0 w' N sz b s O' (n+(3+ps.length)) (M.changes (savP m l t++ps)) (cnt+1)/\(∀ q,q < w.heap.size->O' q->O q)/\Mod O w w')->SavPost w0 w w' N sz b s O n M cnt m l fl ps (.returned (.int .i64 0)) from fun w' h=>by
   unfold SavPost
   rw [ho]
   exact ⟨rfl,h⟩)
  have HOW:=zh (HOF.out w1 HM1.out)
  have HTO:=zh ho
  have HS:=zh hsm
  have HMF:=zh (And.intro hmid hfit)
  clear HFT ho HMM HSM HOF hsm hmid hfit
  rw [HE.out]
  go_wp2_with fail
  with_reducible refine HOW.out.mono ?_
  rintro e w2 ⟨hof,hm2⟩
  have HM2:=zh (HM1.out.trans hm2)
  unfold OfPost at hof
  rw [HTO.out] at hof
  obtain ⟨q,mm,g,rfl,htr⟩:=hof
  have HTF:=zh (tfiles_any htr (by have:=HS.out.1;omega) (fun f hf=>by have:=HS.out.2 f hf;omega))
  clear hm2 htr HOW
  go_wp2_with fail
  with_reducible refine HTF.out.mono ?_
  rintro e w3 ⟨⟨tv,ys,rfl,hys,hsv,hfy⟩,hm3⟩
  have HM3:=zh (HM2.out.trans hm3)
  have hyl:ys.length<=240:=by
   have h1:=HS.out.1
   rw [<- hys,List.length_map] at h1
   exact h1
  have HBY:=zh (stbytes_any ys tv w3 hsv hfy hyl (fun y hy=>HS.out.2 _ (by rw [<- hys];exact List.mem_map.2 ⟨y,hy,rfl⟩)))
  rw [hys] at HBY
  have HTL:=zh (treeB_len HS.out)
  have HPT:=zh (show savP m l t=[⟨kyM,m,false⟩,⟨kyL,l,false⟩,⟨kyT,treeB t,false⟩] from rfl)
  generalize treeB t=tb at *
  obtain ⟨ta,tc,rfl⟩:=hsv.len
  clear hys hsv hfy hm3 HTF
  go_wp2_with fail
  with_reducible refine HBY.out.mono ?_
  rintro e w4 ⟨rfl,hm4⟩
  have HM4:=zh (HM3.out.trans hm4)
  unfold strV
  obtain ⟨PT,hPT⟩:∃ P:ByteArray,P=⟨tb.toArray⟩:=⟨_,rfl⟩
  rw [<- hPT]
  have HPTB:=zh hPT
  clear hm4 HBY hPT
  obtain ⟨w5,hw5⟩:∃ w5,w5=w4.alloc (.cells #[.string ⟨#[115,47,109,97,110,105,102,101,115,116]⟩,.string PM,.bool false,.string ⟨#[115,47,108,111,99,107]⟩,.string PL,.bool false,.string ⟨#[115,47,116,114,101,101]⟩,.string PT,.bool false] 33):=⟨_,rfl⟩
  have hf5:w5.heap[w4.heap.size]? = some (.cells #[.string ⟨#[115,47,109,97,110,105,102,101,115,116]⟩,.string PM,.bool false,.string ⟨#[115,47,108,111,99,107]⟩,.string PL,.bool false,.string ⟨#[115,47,116,114,101,101]⟩,.string PT,.bool false] 33 (0,0)):=by rw [hw5];exact heap_alloc_new w4 _
  have m5:Mod No w4 w5:=by rw [hw5];exact (Mod.refl No w4).alloc _
  have hown:w5.ownsRow w4.heap.size 33 3 (.slice (some ⟨w4.heap.size,0,none⟩) 3 3) 3 (prCells (savP m l t)):=by
   rw [HPT.out]
   refine ⟨rfl,.inr ⟨w4.heap.size,3,_,rfl,Nat.le_refl _,hf5,Nat.le_refl _,by unfold maxLen;omega,by simp,?_⟩⟩
   rw [HPML.out.1,HPML.out.2,HPTB.out]
   rfl
  have HM5:=zh (HM4.out.trans m5)
  have HO5:=zh hown
  have HU5:=zh (HU.out.kn HM5.out)
  have HW5:=zh hw5
  have HZ5:=zh m5.size
  generalize hpl:ps.length=pn at *
  clear hf5 m5 hown hw5
  go_wp2_with (at_builtin;rw [<- HW5.out];refine app_sl _ rfl _ _ 78 rfl w4.heap.size 33 i0 _ 3 40 underlying78 hi0 hz0 hz1 hz2 rfl (by decide) (.slice (some ⟨w4.heap.size,0,none⟩) 3 3) 3 (prCells (savP m l t)) rfl HO5.out No 33 (.slice ua pn uc) pn (prCells ps) rfl HU5.out (by rw [prCells_flat,flat_length prC_length,hpl]) (prC_one ps) (by unfold maxLen;omega) (by omega) HZ5.out ?_;intro v6 w6 hown6 hg6 _;have HO6:=zh hown6;have HG6:=zh (Mod.of_grown (S:=fun k=>w4.heap.size<=k) hg6 (fun k e _=>(HO5.out.lt _ e).1));clear hown6 hg6)
  obtain ⟨a6,c6,rfl⟩:=own_len HO6.out
  have HM6:=zh (show Mod No w w6 from HM5.out.then HG6.out (fun i hi e=>by have e:w4.heap.size<=i:=e;have:=HM4.out.size;omega))
  have hcells:prCells (savP m l t)++prCells ps=prCells (savP m l t++ps):=by unfold prCells;rw [List.flatMap_append]
  have hprs:Prs w6 No a6 (savP m l t++ps):=prs_of_sl (e:=33) (c:=c6) (n:=3+pn) (by rw [<- hcells];exact Sl.of_own HO6.out (fun _ _ f=>f))
  have hlen:(savP m l t++ps).length=3+pn:=by rw [List.length_append,hpl];rfl
  have hmidp:MidP (savP m l t++ps):=fun p hp=>by
   rcases List.mem_append.1 hp with hp | hp
   ·rw [HPT.out] at hp
    have h1:=HML.out
    have h2:=HTL.out
    simp only [List.mem_cons,List.not_mem_nil,or_false] at hp
    rcases hp with rfl | rfl | rfl
    ·exact ⟨by show kyM.length<=_;decide,by show m.length<=_;omega⟩
    ·exact ⟨by show kyL.length<=_;decide,by show l.length<=_;omega⟩
    ·exact ⟨by show kyT.length<=_;decide,by show tb.length<=_;omega⟩
   ·exact HPM.out p hp
  have hap:=(H.out.stay HM6.out).apply (c:=c6) hprs hmidp HMF.out.1 HMF.out.2 (by rw [hlen];omega) (by rw [hlen];exact hnn) hcnt
  rw [hlen] at hap
  have HAP:=zh hap
  clear hcells hprs hlen hmidp hap
  go_wp2_with fail
  with_reducible refine HAP.out.mono ?_
  rintro e w7 ⟨rfl,O',h1,h2,h3⟩
  have HR7:=zh (HP.out w7 ⟨O',h1,fun q hq e=>h2 q (Nat.lt_of_lt_of_le hq HM6.out.size) e,(HM6.out.weaken (fun _ _ f=>f.elim)).trans h3⟩)
  clear h1 h2 h3 HAP
  go_wp2_with fail
  exact fin hR HR7.out
end Go.Proofs.YtmppeipgjcjdkaaGreatDoor
namespace Go.Proofs.YtmppeipgjcjdkaaGreatDoor
open _root_.Go.Proofs.Tryz
open Go.RowKit
theorem nodup_sum_le {α:Type} [DecidableEq α] (f:α->Nat):∀ (ks K:List α),ks.Nodup->(∀ k ∈ ks,k ∈ K)->(ks.map f).sum<=(K.map f).sum
 | [],K,_,_=>Nat.zero_le _
 | k :: ks,K,hn,hs=>by
  obtain ⟨h1,h2⟩:=List.nodup_cons.1 hn
  have hk:=hs k (by simp)
  have hp:=List.perm_cons_erase hk
  have h3:=(hp.map f).sum_nat
  have h4:=nodup_sum_le f ks (K.erase k) h2 fun x hx=>(List.mem_erase_of_ne (fun e=>h1 (by rw [<- e];exact hx))).2 (hs x (by simp [hx]))
  rw [List.map_cons,List.sum_cons] at h3 ⊢
  omega
theorem body_sum:∀ {l:List Pr},(∀ p ∈ l,p.key.length<=10000000/\p.value.length<=10000000)->(bodyB (prB l)).length<=(l.map fun p=>p.key.length+p.value.length+25).sum
 | [],_=>by simp [bodyB,prB]
 | p :: l,h=>by
  have h1:=h p (by simp)
  have h2:=body_sum (l:=l) fun q hq=>h q (by simp [hq])
  have h3:=pairB_len p h1.1 h1.2
  have e:bodyB (prB (p :: l))=recB (pairB p)++bodyB (prB l):=by simp [bodyB,prB]
  rw [e,List.length_append,List.map_cons,List.sum_cons]
  simp only [recB,List.length_append,be_len]
  omega
structure SM (M:Mt) (K:List (List UInt8)) (B:Nat) (m l tb:List UInt8):Prop where
 only:∀ k,(M k).isSome=true->k ∈ kyM :: kyL :: kyT :: K
 val:∀ k v,M k=some v->k ≠ kyT->v.length<=1000
 tree:tb.length<=B
 m:(M kyM).getD []=m
 l:(M kyL).getD []=l
 t:(M kyT).getD []=tb
 few:K.length<=4
 short:∀ k ∈ K,k.length<=100/\k ≠ kyM/\k ≠ kyL/\k ≠ kyT
theorem SM.first {K:List (List UInt8)} (hf:K.length<=4) (hs:∀ k ∈ K,k.length<=100/\k ≠ kyM/\k ≠ kyL/\k ≠ kyT) (B:Nat):SM (fun _=>none) K B [] [] [] :=
 ⟨fun k h=>(by cases h),fun k v h=>(by cases h),Nat.zero_le _,rfl,rfl,rfl,hf,hs⟩
theorem SM.klen {M:Mt} {K:List (List UInt8)} {B:Nat} {m l tb:List UInt8} (h:SM M K B m l tb) {k:List UInt8} (hk:k ∈ kyM :: kyL :: kyT :: K):k.length<=100:=by
 simp only [List.mem_cons] at hk
 rcases hk with rfl | rfl | rfl | hk
 ·decide
 ·decide
 ·decide
 ·exact (h.short k hk).1
theorem SM.vlen {M:Mt} {K:List (List UInt8)} {B:Nat} {m l tb:List UInt8} (h:SM M K B m l tb) (hB:B<=400000) {k v:List UInt8} (hv:M k=some v):v.length<=400000:=by
 by_cases e:k=kyT
 ·subst e
  have h1:=h.t
  rw [hv] at h1
  have h2:=h.tree
  rw [<- h1] at h2
  exact Nat.le_trans h2 hB
 ·have:=h.val k v hv e
  omega
theorem SM.mid {M:Mt} {K:List (List UInt8)} {B:Nat} {m l tb:List UInt8} (h:SM M K B m l tb) (hB:B<=400000):MidM M:=fun k v e=>by
 have h1:=h.klen (h.only k (by rw [e];rfl))
 have h2:=h.vlen hB e
 omega
theorem SM.keysLen {M:Mt} {K:List (List UInt8)} {B:Nat} {m l tb:List UInt8} (h:SM M K B m l tb) {ks:List (List UInt8)} (hk:KeysOfM M ks):ks.length<=7:=by
 have h1:ks.length<=(kyM :: kyL :: kyT :: K).length:=hk.nodup.length_le_of_subset fun k hm=>h.only k ((hk.mem k).1 hm)
 have h2:=h.few
 simp only [List.length_cons] at h1
 omega
theorem SM.fits {M:Mt} {K:List (List UInt8)} {B:Nat} {m l tb:List UInt8} (h:SM M K B m l tb) (hB:B<=400000) {N sz:Nat} (hN:B+9000<=(N / 2)*(sz - 16)):Fits N sz M:=fun ks hk=>by
 have h1:=body_sum (l:=recsOf M ks) (fun p hp=>by
  obtain ⟨k,hkm,rfl⟩:=List.mem_map.1 hp
  obtain ⟨v,hv⟩:=Option.isSome_iff_exists.1 ((hk.mem k).1 hkm)
  have h2:=h.klen (h.only k (by rw [hv];rfl))
  have h3:=h.vlen hB hv
  refine ⟨by show k.length<=_;omega,?_⟩
  show ((M k).getD []).length<=_
  rw [hv]
  show v.length<=_
  omega)
 have e1:((recsOf M ks).map fun p=>p.key.length+p.value.length+25).sum=(ks.map fun k=>k.length+((M k).getD []).length+25).sum:=by
  unfold recsOf
  rw [List.map_map]
  rfl
 have h2:=nodup_sum_le (fun k=>k.length+((M k).getD []).length+25) ks (kyM :: kyL :: kyT :: K) hk.nodup (fun k hm=>h.only k ((hk.mem k).1 hm))
 have hv:∀ k,k ≠ kyT->((M k).getD []).length<=1000:=fun k hne=>by
  cases hM:M k with
  | none=>exact Nat.zero_le _
  | some v=>exact h.val k v hM hne
 have h3:∀ L:List (List UInt8),(∀ k ∈ L,k.length<=100/\k ≠ kyT)->(L.map fun k=>k.length+((M k).getD []).length+25).sum<=1125*L.length:=fun L=>by
  induction L with
  | nil=>intro _;exact Nat.le_refl _
  | cons k L ih =>
   intro hL
   have i1:=ih fun x hx=>hL x (by simp [hx])
   have i2:=hL k (by simp)
   have i3:=hv k i2.2
   rw [List.map_cons,List.sum_cons,List.length_cons]
   omega
 have h4:=h3 K fun k hk=>⟨(h.short k hk).1,(h.short k hk).2.2.2⟩
 have h5:=hv kyM (by decide)
 have h6:=hv kyL (by decide)
 have h7:=h.tree
 have h8:=h.t
 have h9:=h.few
 have l1:kyM.length=10:=rfl
 have l2:kyL.length=6:=rfl
 have l3:kyT.length=6:=rfl
 simp only [List.map_cons,List.sum_cons] at h2
 rw [h8] at h2
 omega
theorem SM.change {M:Mt} {K:List (List UInt8)} {B:Nat} {m l tb:List UInt8} (h:SM M K B m l tb) {p:Pr} (hk:p.key ∈ K) (hv:p.value.length<=1000):SM (M.change p) K B m l tb:=by
 have hs:=h.short p.key hk
 have key:∀ k,k ≠ p.key->(M.change p) k=M k:=fun k hne=>by
  unfold Mt.change Mt.del Mt.put
  split <;> exact if_neg hne
 have at_:(M.change p) p.key=if p.gone then none else some p.value:=by
  unfold Mt.change Mt.del Mt.put
  split <;> exact if_pos rfl
 refine ⟨fun k hk2=>?_,fun k v hk2 hne=>?_,h.tree,?_,?_,?_,h.few,h.short⟩
 ·by_cases e:k=p.key
  ·subst e;simp [hk]
  ·rw [key k e] at hk2;exact h.only k hk2
 ·by_cases e:k=p.key
  ·subst e
   rw [at_] at hk2
   split at hk2
   ·cases hk2
   ·cases hk2;exact hv
  ·rw [key k e] at hk2;exact h.val k v hk2 hne
 ·rw [key _ (Ne.symm hs.2.1)];exact h.m
 ·rw [key _ (Ne.symm hs.2.2.1)];exact h.l
 ·rw [key _ (Ne.symm hs.2.2.2)];exact h.t
theorem SM.changes:∀ {ps:List Pr} {M:Mt} {K:List (List UInt8)} {B:Nat} {m l tb:List UInt8} (_:SM M K B m l tb) (_:∀ p ∈ ps,p.key ∈ K/\p.value.length<=1000),SM (M.changes ps) K B m l tb
 | [],_,_,_,_,_,_,h,_=>h
 | p :: ps,M,_,_,_,_,_,h,hp=>SM.changes (ps:=ps) (M:=M.change p) (h.change (hp p (by simp)).1 (hp p (by simp)).2) fun q hq=>hp q (by simp [hq])
theorem SM.save {M:Mt} {K:List (List UInt8)} {B:Nat} {m l tb:List UInt8} (h:SM M K B m l tb) (m' l':List UInt8) (t:Tr) (hm:m'.length<=1000) (hl:l'.length<=1000) (ht:(treeB t).length<=B):SM (M.changes (savP m' l' t)) K B m' l' (treeB t):=by
 have e:∀ k,(M.changes (savP m' l' t)) k=if k=kyT then some (treeB t) else if k=kyL then some l' else if k=kyM then some m' else M k:=fun k=>rfl
 refine ⟨fun k hk=>?_,fun k v hk hne=>?_,ht,?_,?_,?_,h.few,h.short⟩
 ·rw [e] at hk
  by_cases h1:k=kyT
  ·simp [h1]
  ·by_cases h2:k=kyL
   ·simp [h2]
   ·by_cases h3:k=kyM
    ·simp [h3]
    ·rw [if_neg h1,if_neg h2,if_neg h3] at hk
     exact h.only k hk
 ·rw [e,if_neg hne] at hk
  by_cases h2:k=kyL
  ·rw [if_pos h2] at hk;cases hk;exact hl
  ·rw [if_neg h2] at hk
   by_cases h3:k=kyM
   ·rw [if_pos h3] at hk;cases hk;exact hm
   ·rw [if_neg h3] at hk
    exact h.val k v hk hne
 ·rw [e];rfl
 ·rw [e];rfl
 ·rw [e];rfl
theorem SM.cak {M:Mt} {K:List (List UInt8)} {B:Nat} {m l tb:List UInt8} (h:SM M K B m l tb) (hp:∀ k ∈ K,pref [99,47] k=false):CaK M (fun _=>none):=by
 have key:∀ k,pref [99,47] k=true->M k=none:=fun k hk=>by
  cases hM:M k with
  | none=>rfl
  | some v =>
   have h1:=h.only k (by rw [hM];rfl)
   simp only [List.mem_cons] at h1
   rcases h1 with rfl | rfl | rfl | h1
   ·exact absurd hk (by decide)
   ·exact absurd hk (by decide)
   ·exact absurd hk (by decide)
   ·rw [hp k h1] at hk;cases hk
 exact ⟨fun S _=>key _ (pref_nC S),(fun k hk hpk=>by rw [key k hpk] at hk;cases hk),fun S l h=>by cases h⟩
structure SX (M:Mt) (S arch m l tb:List UInt8):Prop where
 sm:SM M [nC S,nP S] 180000 m l tb
 c:M (nC S)=some arch
theorem keys_sx {S:List UInt8} (hS:S.length=32):∀ k ∈ [nC S,nP S],k.length<=100/\k ≠ kyM/\k ≠ kyL/\k ≠ kyT:=fun k hk=>by
 simp only [List.mem_cons,List.not_mem_nil,or_false] at hk
 rcases hk with rfl | rfl
 ·exact ⟨by rw [nC_length hS];decide,(fun e=>by cases e),(fun e=>by cases e),(fun e=>by cases e)⟩
 ·exact ⟨by rw [nP_length hS];decide,(fun e=>by cases e),(fun e=>by cases e),(fun e=>by cases e)⟩
theorem SX.first {S arch:List UInt8} (hS:S.length=32) (ha:arch.length<=1000):SX (Mt.changes (fun _=>none) [⟨nC S,arch,false⟩,⟨nP S,[],true⟩]) S arch [] [] []:=by
 refine ⟨SM.changes (SM.first (by simp) (keys_sx hS) 180000) (fun p hp=>?_),?_⟩
 ·simp only [List.mem_cons,List.not_mem_nil,or_false] at hp
  rcases hp with rfl | rfl
  ·exact ⟨by simp,ha⟩
  ·exact ⟨by simp,Nat.zero_le _⟩
 ·show (Mt.change (Mt.change (fun _=>none) ⟨nC S,arch,false⟩) ⟨nP S,[],true⟩) (nC S)=some arch
  have hne:nC S ≠ nP S:=fun e=>by
   have h1:=pref_nC S
   rw [e,pref_nP] at h1
   cases h1
  show (if nC S=nP S then none else (if nC S=nC S then some arch else none))=some arch
  rw [if_neg hne,if_pos rfl]
theorem SX.save {M:Mt} {S arch m l tb:List UInt8} (h:SX M S arch m l tb) (m' l':List UInt8) (t:Tr) (hm:m'.length<=1000) (hl:l'.length<=1000) (ht:(treeB t).length<=180000):SX (M.changes (savP m' l' t++[])) S arch m' l' (treeB t):=by
 rw [List.append_nil]
 have e:∀ k,(M.changes (savP m' l' t)) k=if k=kyT then some (treeB t) else if k=kyL then some l' else if k=kyM then some m' else M k:=fun k=>rfl
 refine ⟨h.sm.save m' l' t hm hl ht,?_⟩
 obtain ⟨-,h1,h2,h3⟩:=h.sm.short (nC S) (by simp)
 rw [e,if_neg h3,if_neg h2,if_neg h1]
 exact h.c
theorem SX.cak {M:Mt} {S arch m l tb:List UInt8} (h:SX M S arch m l tb) (hS:sumF arch=S) (ha:arch.length<=1000):CaK M (fun T=>if T=S then some arch else none):=by
 have key:∀ k,pref [99,47] k=true->(M k).isSome=true->k=nC S:=fun k hp hk=>by
  have h1:=h.sm.only k hk
  simp only [List.mem_cons,List.not_mem_nil,or_false] at h1
  rcases h1 with rfl | rfl | rfl | rfl | rfl
  ·exact absurd hp (by decide)
  ·exact absurd hp (by decide)
  ·exact absurd hp (by decide)
  ·rfl
  ·rw [pref_nP] at hp;cases hp
 refine ⟨fun T _=>?_,fun k hk hp=>⟨S,by rw [<- hS];exact sumF_length arch,key k hp hk⟩,fun T l h=>?_⟩
 ·by_cases e:T=S
  ·rw [e,if_pos rfl];exact h.c
  ·rw [if_neg e]
   cases hM:M (nC T) with
   | none=>rfl
   | some v=>exact absurd (nC_inj (key (nC T) (pref_nC T) (by rw [hM];rfl))) e
 ·by_cases e:T=S
  ·rw [if_pos e] at h
   cases h
   exact ⟨hS.trans e.symm,ha⟩
  ·rw [if_neg e] at h;cases h
def SavX (w0 w w':World) (N sz b s:Nat) (O:Nat->Prop) (n cnt:Nat) (S arch m l:List UInt8) (fl:List Fl) (e:Ending):Prop:=match ofT fl with
 | .inr _=>e=.returned (.int .i64 55)/\Mod No w w'
 | .inl t=>e=.returned (.int .i64 0)/\∃ O' M',Sto w0 w' N sz b s O' (n+3) M' (cnt+1)/\SX M' S arch m l (treeB t)/\SmT 240 t/\(∀ q,q < w.heap.size->O' q->O q)/\Mod O w w'
theorem save_sx {w0 w:World} {N sz b s n cnt:Nat} {O:Nat->Prop} {M:Mt} (h:Sto w0 w N sz b s O n M cnt) {S arch om ol ot:List UInt8} (hs:SX M S arch om ol ot) (hN:189000<=(N / 2)*(sz - 16)) (m l:List UInt8) (hm:m.length<=1000) (hl:l.length<=1000) (xs:List FlX) (v:Value) (hv:SvX w No v xs.length (xs.flatMap FlX.cells)) (hx:∀ x ∈ xs,FlIn w x) (hxl:xs.length<=20) (hb:∀ x ∈ xs,x.f.path.length<=300/\x.f.b.length<=500)
  (hnn:n+3<=100000) (hcnt:cnt<=1000000000) (hgl:Gl w) :
  Calls prog 10 #[.pointer (some ⟨s,0,none⟩),strV m,strV l,v,.slice none 0 0] w fun e w'=>SavX w0 w w' N sz b s O n cnt S arch m l (xs.map FlX.f) e:=by
 have hsm:∀ t,ofT (xs.map FlX.f)=.inl t->SmT 240 t:=fun t ht=>of_sm (l:=xs.map FlX.f) (by rw [List.length_map];exact hxl) (fun f hf=>by
  obtain ⟨x,hx,rfl⟩:=List.mem_map.1 hf
  exact (hb x hx).2) ht
 have hsx:∀ t,ofT (xs.map FlX.f)=.inl t->SX (M.changes (savP m l t++[])) S arch m l (treeB t):=fun t ht=>hs.save m l t hm hl (Nat.le_trans (treeB_len (hsm t ht)) (by decide))
 refine (save_any h m l hm hl xs v hv hx hxl hb [] (.slice none 0 0) (by decide) (.inl ⟨rfl,rfl,rfl⟩) (fun p hp=>by cases hp) hnn hcnt hgl (fun t ht=>⟨(hsx t ht).sm.mid (by decide),(hsx t ht).sm.fits (by decide) hN⟩)).mono ?_
 intro e w' h
 unfold SavPost at h
 unfold SavX
 cases ho:ofT (xs.map FlX.f) with
 | inr c =>
  rw [ho] at h
  exact h
 | inl t =>
  rw [ho] at h
  obtain ⟨rfl,O',h1,h2,h3⟩:=h
  exact ⟨rfl,O',_,h1,hsx t ho,hsm t ho,h2,h3⟩
theorem load_sx {w0 w:World} {N sz b s n cnt:Nat} {O:Nat->Prop} {M:Mt} (h:Sto w0 w N sz b s O n M cnt) {S arch m l tb:List UInt8} (hs:SX M S arch m l tb) (hS:sumF arch=S) (ha:arch.length<=1000) (hn:n<=100000) :
  Calls prog 13 #[.pointer (some ⟨s,0,none⟩)] w fun e w'=>(∃ v,e=.returned v/\StaAt w' (fun q=>q < w.heap.size) v m l [S] (filesD tb))/\Mod No w w':=by
 refine (load_any h (hs.cak hS ha) hn (fun ks hk=>by have:=hs.sm.keysLen hk;omega) (by rw [hs.sm.t];exact Nat.le_trans hs.sm.tree (by decide))).mono ?_
 rintro e w' ⟨⟨v,L,rfl,hp,hL,hst⟩,hm⟩
 have hm1:∀ T,T ∈ L ↔ T=S:=fun T=>by
  rw [hL T]
  by_cases e:T=S
  ·simp [e]
  ·simp [e]
 obtain rfl:L=[S]:=by
  match L,hp,hm1 with
  | [],_,h=>exact absurd ((h S).2 rfl) (by simp)
  | [a],_,h=>rw [(h a).1 (by simp)]
  | a :: c :: L,hp,h =>
   have h1:=(h a).1 (by simp)
   have h2:=(h c).1 (by simp)
   have h3:=(List.pairwise_cons.1 hp).1 c (by simp)
   rw [h1,h2] at h3
   exact absurd h3 (List.lt_irrefl _)
 rw [hs.sm.m,hs.sm.l,hs.sm.t] at hst
 exact ⟨⟨v,rfl,hst⟩,hm⟩
theorem StaAt.avoid {w:World} {X:Nat->Prop} {v:Value} {m l:List UInt8} {K:List (List UInt8)} {t:Tr} (h:StaAt w X v m l K t):StaAt w (fun q=>X q\/w.heap.size<=q) v m l K t:=by
 obtain ⟨kv,tv,ys,h1,h2,h3,h4,h5,h6⟩:=h
 exact ⟨kv,tv,ys,h1,h2,h3.avoid,h4,h5.avoid,fun y hy=>(h6 y hy).avoid⟩
end Go.Proofs.YtmppeipgjcjdkaaGreatDoor
