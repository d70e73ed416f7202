/-
  Layers 0 to 14: helps of the laws of indexes. No statement is proved here; no condition.
-/
import Derived.Test.YtmppeipgjcjdkaaGreatDoorX39
import Derived.Test.YtmppeipgjcjdkaaGreatDoorX41
import Derived.Test.YtmppeipgjcjdkaaGreatDoorX30
import Derived.Test.YtmppeipgjcjdkaaGreatDoorX38
import Derived.Test.YtmppeipgjcjdkaaGreatDoorX34
import Derived.Test.YtmppeipgjcjdkaaGreatDoorX32
namespace Go.Proofs.YtmppeipgjcjdkaaGreatDoor
open _root_.Go.Proofs.Tryz
open Go.RowKit Go.Maps
def kyM:List UInt8:=[115,47,109,97,110,105,102,101,115,116]
def kyL:List UInt8:=[115,47,108,111,99,107]
def kyT:List UInt8:=[115,47,116,114,101,101]
set_option maxRecDepth 100000 in
set_option maxHeartbeats 8000000 in
theorem load_gen {w0 w:World} {N sz b s n cnt:Nat} {O:Nat->Prop} {M:Mt} {A:List UInt8->Option (List UInt8)} (h:Sto w0 w N sz b s O n M cnt) (hck:∀ W cb,Mod No w W->CaObj W cb s->Calls prog 37 #[.pointer (some ⟨cb,0,none⟩)] W fun e w'=>(∃ v L,e=.returned v/\(∀ S ∈ L,S.length=32)/\L.Pairwise (· < ·)/\(∀ S,S ∈ L ↔ (A S).isSome=true)/\w'.ownsRow W.heap.size 47 32 v L.length (keyCells L))/\Mod No W w') (hlen:((M kyT).getD []).length<=300000) :
  Calls prog 13 #[.pointer (some ⟨s,0,none⟩)] w fun e w'=>(∃ (v:Value) (L:List (List UInt8)),e=.returned v/\L.Pairwise (· < ·)/\(∀ S,S ∈ L ↔ (A S).isSome=true)/\StaAt w' (fun q=>q < w.heap.size) v ((M kyM).getD []) ((M kyL).getD []) L (filesD ((M kyT).getD [])))/\Mod No w w':=by
 refine calls_hide fun R hR=>?_
 obtain ⟨xm,hxm⟩:∃ x,x=(M kyM).getD []:=⟨_,rfl⟩
 obtain ⟨xl,hxl⟩:∃ x,x=(M kyL).getD []:=⟨_,rfl⟩
 obtain ⟨xt,hxt⟩:∃ x,x=(M kyT).getD []:=⟨_,rfl⟩
 obtain ⟨bm,hbm⟩:∃ x,x=(M kyM).isSome:=⟨_,rfl⟩
 obtain ⟨bl,hbl⟩:∃ x,x=(M kyL).isSome:=⟨_,rfl⟩
 obtain ⟨bt,hbt⟩:∃ x,x=(M kyT).isSome:=⟨_,rfl⟩
 have HG:=zh (show ∀ W,Mod No w W->Calls prog 21 #[.pointer (some ⟨s,0,none⟩),.string ⟨#[115,47,109,97,110,105,102,101,115,116]⟩] W fun e w'=>e=.returned (.tuple #[strV xm,.bool bm])/\w'=W from fun W hm=>by rw [hxm,hbm];exact (h.stay hm).get kyM (by decide))
 have HG2:=zh (show ∀ W,Mod No w W->Calls prog 21 #[.pointer (some ⟨s,0,none⟩),.string ⟨#[115,47,108,111,99,107]⟩] W fun e w'=>e=.returned (.tuple #[strV xl,.bool bl])/\w'=W from fun W hm=>by rw [hxl,hbl];exact (h.stay hm).get kyL (by decide))
 have HG3:=zh (show ∀ W,Mod No w W->Calls prog 21 #[.pointer (some ⟨s,0,none⟩),.string ⟨#[115,47,116,114,101,101]⟩] W fun e w'=>e=.returned (.tuple #[strV xt,.bool bt])/\w'=W from fun W hm=>by rw [hxt,hbt];exact (h.stay hm).get kyT (by decide))
 have HCK:=zh hck
 have HFL:=zh (fun W=>stfiles_any xt (by rw [hxt];exact hlen) W)
 have HCN:=zh (fun W=>cnew_any s W)
 rw [<- hxm,<- hxl,<- hxt] at hR
 clear h hck hlen hxm hxl hxt hbm hbl hbt
 obtain ⟨PM,hPM⟩:∃ P,P=strV xm:=⟨_,rfl⟩
 obtain ⟨PL,hPL⟩:∃ P,P=strV xl:=⟨_,rfl⟩
 obtain ⟨PT,hPT⟩:∃ P,P=strV xt:=⟨_,rfl⟩
 unfold strV at *
 obtain ⟨QM,hQM⟩:∃ Q:ByteArray,Q=⟨xm.toArray⟩:=⟨_,rfl⟩
 obtain ⟨QL,hQL⟩:∃ Q:ByteArray,Q=⟨xl.toArray⟩:=⟨_,rfl⟩
 rw [<- hQM] at HG
 rw [<- hQL] at HG2
 have HQM:=zh hQM
 have HQL:=zh hQL
 generalize (⟨xt.toArray⟩:ByteArray)=QT at *
 clear hPM hPL hPT PM PL PT hQM hQL
 obtain ⟨gb,hgb⟩:∃ g,g=w.heap.size:=⟨_,rfl⟩
 obtain ⟨w1,hw1⟩:∃ w1,w1=w.alloc (.cells #[.string ⟨#[]⟩,.string ⟨#[]⟩,.slice none 0 0,.slice none 0 0] 38):=⟨_,rfl⟩
 have m1:Mod No w w1:=by rw [hw1];exact (Mod.refl No w).alloc _
 have HF1:=zh (show w1.heap[gb]? = some (.cells #[.string ⟨#[]⟩,.string ⟨#[]⟩,.slice none 0 0,.slice none 0 0] 38 (0,0)) by rw [hw1,hgb];exact heap_alloc_new w _)
 have HW1:=zh hw1
 have HM1:=zh m1
 have HGB:=zh hgb
 have HG1w:=zh (HG.out w1 m1)
 clear hw1 m1 hgb HG
 go_enter func13,ntmps13
 go_upto_region 1 with fail
 rw [<- HW1.out,<- HGB.out]
 go_wp2_with fail
 with_reducible refine HG1w.out.mono ?_
 rintro e w2 ⟨rfl,rfl⟩
 have HG2w:=zh (HG2.out w2 HM1.out)
 clear HG1w HG2
 go_wp2_with fail
 with_reducible refine HG2w.out.mono ?_
 rintro e w3 ⟨rfl,rfl⟩
 have HG3w:=zh (HG3.out w3 HM1.out)
 clear HG2w HG3
 go_wp2_with fail
 with_reducible refine HG3w.out.mono ?_
 rintro e w4 ⟨rfl,rfl⟩
 clear HG3w
 go_wp2_with fail
 with_reducible refine (HCN.out w4).mono ?_
 rintro e w5 ⟨rfl,hc5,hm5,hz5⟩
 have HM5:=zh (HM1.out.trans hm5)
 have HK5:=zh (HCK.out w5 _ HM5.out hc5)
 have HF5:=zh (hm5.keep HF1.out (fun f=>f))
 clear hc5 hm5 hz5 HCK HCN HF1
 go_wp2_with fail
 with_reducible refine HK5.out.mono ?_
 rintro e w6 ⟨⟨kv,L,rfl,hL1,hL2,hL3,hown⟩,hm6⟩
 have HM6:=zh (HM5.out.trans hm6)
 have HF6:=zh (hm6.keep HF5.out (fun f=>f))
 have HKS:=zh (show Sl w6 (fun q=>q < w.heap.size) 47 kv L.length (keyCells L) from Sl.of_own hown (fun k hk f=>by have:=HM5.out.size;omega))
 obtain ⟨ka,kc,rfl⟩:=own_len hown
 have HLL:=zh (And.intro hL1 (And.intro hL2 hL3))
 have HFL6:=zh (HFL.out w6)
 clear hL1 hL2 hL3 hown hm6 HK5 HF5 HFL
 go_wp2_with fail
 with_reducible refine HFL6.out.mono ?_
 rintro e w7 ⟨⟨tv,ys,rfl,hys,hsv,hfl⟩,hm7⟩
 have hf7:=hm7.keep HF6.out (fun f=>f)
 have HM7:=zh (HM6.out.trans hm7)
 have HST:=zh (show ∀ w8,Mod (fun k=>k=gb) w7 w8->StaAt w8 (fun q=>q < w.heap.size) (.agg #[strV xm,strV xl,.slice ka L.length kc,tv]) xm xl L (filesD xt) from fun w8 hm8=>by
  have ha:Apart [47,51,5] (fun k=>k=gb) w7:=fun k cur fz e hk hc he=>by
   subst hk
   rw [hf7] at hc
   cases hc
   simp at he
  have hsz6:=HM6.out.size
  exact ⟨_,tv,ys,rfl,HLL.out.1,SvX.of ((HKS.out.kn hm7).keep hm8 (fun k cur fz hk _ hc=>ha k cur fz _ hk hc (by simp))),hys,SvX.of ((hsv.keep hm8 (fun k cur fz hk _ hc=>ha k cur fz _ hk hc (by simp))).shrink (fun k _ h=>by omega)),fun y hy=>SvX.of (((hfl y hy).keep hm8 (fun k cur fz hk _ hc=>ha k cur fz _ hk hc (by simp))).shrink (fun k _ h=>by omega))⟩)
 obtain ⟨ta,tc,rfl⟩:=hsv.len
 have HF7:=zh hf7
 clear hys hsv hfl hm7 HFL6 HF6
 have k0:w7.cell? ⟨gb,0,none⟩=some (.string ⟨#[]⟩):=cell_ofA hf7 rfl
 have k1:w7.cell? ⟨gb,1,none⟩=some (.string ⟨#[]⟩):=cell_ofA hf7 rfl
 have k2:w7.cell? ⟨gb,2,none⟩=some (.slice none 0 0):=cell_ofA hf7 rfl
 have k3:w7.cell? ⟨gb,3,none⟩=some (.slice none 0 0):=cell_ofA hf7 rfl
 have z0:=frozen_of 0 hf7
 have z1:=frozen_of 1 hf7
 have z2:=frozen_of 2 hf7
 have z3:=frozen_of 3 hf7
 clear hf7
 go_wp2_with fail
 have m8:Mod (fun k=>k=gb) w7 ((((w7.setCell ⟨gb,0,none⟩ (.string QM)).setCell ⟨gb,1,none⟩ (.string QL)).setCell ⟨gb,2,none⟩ (.slice ka L.length kc)).setCell ⟨gb,3,none⟩ (.slice ta ys.length tc)):=((((Mod.refl (fun k=>k=gb) w7).setCell (fun _=>rfl) _).setCell (fun _=>rfl) _).setCell (fun _=>rfl) _).setCell (fun _=>rfl) _
 have hf8:((((w7.setCell ⟨gb,0,none⟩ (.string QM)).setCell ⟨gb,1,none⟩ (.string QL)).setCell ⟨gb,2,none⟩ (.slice ka L.length kc)).setCell ⟨gb,3,none⟩ (.slice ta ys.length tc)).heap[gb]? = some (.cells #[.string QM,.string QL,.slice ka L.length kc,.slice ta ys.length tc] 38 (0,0)):=by
  rw [heap_setCell (heap_setCell (heap_setCell (heap_setCell HF7.out _) _) _) _]
  rfl
 have hst8:=HST.out _ m8
 have hm8:Mod No w _:=HM7.out.then m8 (fun i hi e=>by have e:i=gb:=e;have:=HGB.out;omega)
 generalize ((((w7.setCell ⟨gb,0,none⟩ (.string QM)).setCell ⟨gb,1,none⟩ (.string QL)).setCell ⟨gb,2,none⟩ (.slice ka L.length kc)).setCell ⟨gb,3,none⟩ (.slice ta ys.length tc))=w8 at *
 refine bodyPost_ret (v:=.agg #[.string QM,.string QL,.slice ka L.length kc,.slice ta ys.length tc]) (results_cell_row rfl _ _ gb 38 #[.string QM,.string QL,.slice ka L.length kc,.slice ta ys.length tc] (0,0) _ rfl hf8 underlying38 (by kernel_rfl) (by kernel_rfl)) rfl (fin hR ⟨⟨_,L,rfl,HLL.out.2.1,HLL.out.2.2,?_⟩,hm8⟩)
 rw [HQM.out,HQL.out]
 exact hst8
theorem info_pr:(prog.info? 33).map (fun i=>(i.zero,i.size,i.bytes))=some (some (.agg #[.string ⟨#[]⟩,.string ⟨#[]⟩,.bool false]),3,40):=by kernel_rfl
def prC (p:Pr):List Value:=[.string ⟨p.key.toArray⟩,.string ⟨p.value.toArray⟩,.bool p.gone]
theorem prC_length (p:Pr):(prC p).length=3:=rfl
theorem prCells_flat (l:List Pr):prCells l=l.flatMap prC:=rfl
theorem prC_one (l:List Pr):∀ u ∈ prCells l,u.oneCell'=true:=fun u hu=>by
 obtain ⟨p,-,hp⟩:=List.mem_flatMap.1 hu
 simp only [List.mem_cons,List.not_mem_nil,or_false] at hp
 rcases hp with rfl | rfl | rfl <;> rfl
theorem prs_of_sl {w:World} {X:Nat->Prop} {e:TypeId} {a:Option Addr} {n c:Nat} {l:List Pr} (h:Sl w X e (.slice a n c) n (prCells l)):Prs w X a l :=
 ⟨fun i hi=>by
  have hl:=flat_length prC_length l
  rw [<- prCells_flat] at hl
  rcases h with ⟨-,-,h0⟩ | ⟨b,o,c',cur,fz,hv,h1,h2,h3,h4,h5,h6⟩
  ·rw [h0] at hl;simp at hl;omega
  ·cases hv
   have key:∀ j u,(prC l[i])[j]? = some u->w.cell? ⟨b,o+(i*3+j),none⟩=some u:=fun j u hu=>by
    have h7:=flat_get prC_length l hi hu
    rw [<- prCells_flat] at h7
    have h8:=(List.getElem?_eq_some_iff.1 h7).1
    simp only [World.cell?,h4]
    rw [h6 _ h8,h7]
    rfl
   exact ⟨b,o,rfl,h3,key 0 _ rfl,key 1 _ rfl,key 2 _ rfl⟩⟩
def savP (m l:List UInt8) (t:Tr):List Pr:=[⟨kyM,m,false⟩,⟨kyL,l,false⟩,⟨kyT,treeB t,false⟩]
def SavPost (w0 w w':World) (N sz b s:Nat) (O:Nat->Prop) (n:Nat) (M:Mt) (cnt:Nat) (m l:List UInt8) (fl:List Fl) (ps:List Pr) (e:Ending):Prop:=match ofT fl with
 | .inr _=>e=.returned (.int .i64 55)/\Mod No w w'
 | .inl t=>e=.returned (.int .i64 0)/\∃ O',Sto w0 w' N sz b s O' (n+(3+ps.length)) (M.changes (savP m l t++ps)) (cnt+1)/\(∀ q,q < w.heap.size->O' q->O q)/\Mod O w w'
theorem fitsT_light {l:List Fl} (hl:l.length<=20) (h:∀ f ∈ l,f.path.length<=300/\f.b.length<=500):fitsT l=match ofT l with | .inl _=>true | .inr _=>false:=by
 have h1:=packL_le hl h
 unfold fitsT
 cases ofT l with
 | inl t=>simp;omega
 | inr c=>rfl
set_option maxRecDepth 100000 in
set_option maxHeartbeats 8000000 in
theorem save_any {w0 w:World} {N sz b s n cnt:Nat} {O:Nat->Prop} {M:Mt} (h:Sto w0 w N sz b s O n M cnt) (m l:List UInt8) (hm:m.length<=1000) (hl:l.length<=1000) (xs:List FlX) (v:Value) (hv:SvX w No v xs.length (xs.flatMap FlX.cells)) (hx:∀ x ∈ xs,FlIn w x) (hxl:xs.length<=20) (hb:∀ x ∈ xs,x.f.path.length<=300/\x.f.b.length<=500)
  (ps:List Pr) (u:Value) (hps:ps.length<=100) (hu:Sl w No 33 u ps.length (prCells ps)) (hpm:MidP ps) (hnn:n+(3+ps.length)<=100000) (hcnt:cnt<=1000000000) (hgl:Gl w)
  (hM:∀ t,ofT (xs.map FlX.f)=.inl t->MidM (M.changes (savP m l t++ps))/\Fits N sz (M.changes (savP m l t++ps))) :
  Calls prog 10 #[.pointer (some ⟨s,0,none⟩),strV m,strV l,v,u] w fun e w'=>SavPost w0 w w' N sz b s O n M cnt m l (xs.map FlX.f) ps e:=by
 refine calls_hide fun R hR=>?_
 obtain ⟨i0,hi0,hz0,hz1,hz2⟩:=info_parts info_pr
 have H:=zh h
 have HFI:=zh (fits_any xs v w hv hx hxl (fun x hx=>⟨by have:=hb x hx;omega,(hb x hx).2⟩) hgl)
 have HOF:=zh (fun W (hm:Mod No w W)=>tof_any xs v W (hv.kn hm) (fun x h=>(hx x h).no hm) hxl (fun x hx=>⟨by have:=hb x hx;omega,(hb x hx).2⟩) (hgl.stay hm (fun f=>f)))
 have HFT:=zh (fitsT_light (l:=xs.map FlX.f) (by rw [List.length_map];exact hxl) (fun f hf=>by
  obtain ⟨x,hx,rfl⟩:=List.mem_map.1 hf
  exact hb x hx))
 have HSM:=zh (fun t (ht:ofT (xs.map FlX.f)=.inl t)=>of_sm (l:=xs.map FlX.f) (by rw [List.length_map];exact hxl) (fun f hf=>by
  obtain ⟨x,hx,rfl⟩:=List.mem_map.1 hf
  exact (hb x hx).2) ht)
 have HMM:=zh hM
 have HU:=zh hu
 have HPM:=zh hpm
 obtain ⟨va,vc,rfl⟩:=hv.1
 obtain ⟨ua,uc,rfl⟩:=hu.len
 generalize hn1:xs.length=xn at *
 clear h hv hx hb hu hpm hM hn1 hgl
 generalize xs.map FlX.f=fl at *
 have HML:=zh (And.intro hm hl)
 obtain ⟨PM,hPM⟩:∃ P:ByteArray,P=⟨m.toArray⟩:=⟨_,rfl⟩
 obtain ⟨PL,hPL⟩:∃ P:ByteArray,P=⟨l.toArray⟩:=⟨_,rfl⟩
 unfold strV
 rw [<- hPM,<- hPL]
 have HPML:=zh (And.intro hPM hPL)
 clear hm hl hPM hPL
 go_enter func10,ntmps10
 go_wp2_with fail
 with_reducible refine HFI.out.mono ?_
 rintro e w1 ⟨rfl,hm1⟩
 have HM1:=zh hm1
 clear hm1 HFI
 cases ho:ofT fl with
 | inr c =>
  have HE:=zh (show fitsT fl=false by rw [HFT.out,ho])
  have HP:=zh (show ∀ w',Mod No w w'->SavPost w0 w w' N sz b s O n M cnt m l fl ps (.returned (.int .i64 55)) from fun w' h=>by
   unfold SavPost
   rw [ho]
   exact ⟨rfl,h⟩)
  clear HFT ho HMM HSM HOF
  rw [HE.out]
  go_wp2_with fail
  exact fin hR (HP.out _ HM1.out)
 | inl t =>
  have HE:=zh (show fitsT fl=true by rw [HFT.out,ho])
  have hsm:=HSM.out t ho
  obtain ⟨hmid,hfit⟩:=HMM.out t ho
  have HP:=zh (show ∀ w',(∃ O',Sto w0 w' N sz b s O' (n+(3+ps.length)) (M.changes (savP m l t++ps)) (cnt+1)/\(∀ q,q < w.heap.size->O' q->O q)/\Mod O w w')->SavPost w0 w w' N sz b s O n M cnt m l fl ps (.returned (.int .i64 0)) from fun w' h=>by
   unfold SavPost
   rw [ho]
   exact ⟨rfl,h⟩)
  have HOW:=zh (HOF.out w1 HM1.out)
  have HTO:=zh ho
  have HS:=zh hsm
  have HMF:=zh (And.intro hmid hfit)
  clear HFT ho HMM HSM HOF hsm hmid hfit
  rw [HE.out]
  go_wp2_with fail
  with_reducible refine HOW.out.mono ?_
  rintro e w2 ⟨hof,hm2⟩
  have HM2:=zh (HM1.out.trans hm2)
  unfold OfPost at hof
  rw [HTO.out] at hof
  obtain ⟨q,mm,g,rfl,htr⟩:=hof
  have HTF:=zh (tfiles_any htr (by have:=HS.out.1;omega) (fun f hf=>by have:=HS.out.2 f hf;omega))
  clear hm2 htr HOW
  go_wp2_with fail
  with_reducible refine HTF.out.mono ?_
  rintro e w3 ⟨⟨tv,ys,rfl,hys,hsv,hfy⟩,hm3⟩
  have HM3:=zh (HM2.out.trans hm3)
  have hyl:ys.length<=240:=by
   have h1:=HS.out.1
   rw [<- hys,List.length_map] at h1
   exact h1
  have HBY:=zh (stbytes_any ys tv w3 hsv hfy hyl (fun y hy=>HS.out.2 _ (by rw [<- hys];exact List.mem_map.2 ⟨y,hy,rfl⟩)))
  rw [hys] at HBY
  have HTL:=zh (treeB_len HS.out)
  have HPT:=zh (show savP m l t=[⟨kyM,m,false⟩,⟨kyL,l,false⟩,⟨kyT,treeB t,false⟩] from rfl)
  generalize treeB t=tb at *
  obtain ⟨ta,tc,rfl⟩:=hsv.len
  clear hys hsv hfy hm3 HTF
  go_wp2_with fail
  with_reducible refine HBY.out.mono ?_
  rintro e w4 ⟨rfl,hm4⟩
  have HM4:=zh (HM3.out.trans hm4)
  unfold strV
  obtain ⟨PT,hPT⟩:∃ P:ByteArray,P=⟨tb.toArray⟩:=⟨_,rfl⟩
  rw [<- hPT]
  have HPTB:=zh hPT
  clear hm4 HBY hPT
  obtain ⟨w5,hw5⟩:∃ w5,w5=w4.alloc (.cells #[.string ⟨#[115,47,109,97,110,105,102,101,115,116]⟩,.string PM,.bool false,.string ⟨#[115,47,108,111,99,107]⟩,.string PL,.bool false,.string ⟨#[115,47,116,114,101,101]⟩,.string PT,.bool false] 33):=⟨_,rfl⟩
  have hf5:w5.heap[w4.heap.size]? = some (.cells #[.string ⟨#[115,47,109,97,110,105,102,101,115,116]⟩,.string PM,.bool false,.string ⟨#[115,47,108,111,99,107]⟩,.string PL,.bool false,.string ⟨#[115,47,116,114,101,101]⟩,.string PT,.bool false] 33 (0,0)):=by rw [hw5];exact heap_alloc_new w4 _
  have m5:Mod No w4 w5:=by rw [hw5];exact (Mod.refl No w4).alloc _
  have hown:w5.ownsRow w4.heap.size 33 3 (.slice (some ⟨w4.heap.size,0,none⟩) 3 3) 3 (prCells (savP m l t)):=by
   rw [HPT.out]
   refine ⟨rfl,.inr ⟨w4.heap.size,3,_,rfl,Nat.le_refl _,hf5,Nat.le_refl _,by unfold maxLen;omega,by simp,?_⟩⟩
   rw [HPML.out.1,HPML.out.2,HPTB.out]
   rfl
  have HM5:=zh (HM4.out.trans m5)
  have HO5:=zh hown
  have HU5:=zh (HU.out.kn HM5.out)
  have HW5:=zh hw5
  have HZ5:=zh m5.size
  generalize hpl:ps.length=pn at *
  clear hf5 m5 hown hw5
  go_wp2_with (at_builtin;rw [<- HW5.out];refine app_sl _ rfl _ _ 78 rfl w4.heap.size 33 i0 _ 3 40 underlying78 hi0 hz0 hz1 hz2 rfl (by decide) (.slice (some ⟨w4.heap.size,0,none⟩) 3 3) 3 (prCells (savP m l t)) rfl HO5.out No 33 (.slice ua pn uc) pn (prCells ps) rfl HU5.out (by rw [prCells_flat,flat_length prC_length,hpl]) (prC_one ps) (by unfold maxLen;omega) (by omega) HZ5.out ?_;intro v6 w6 hown6 hg6 _;have HO6:=zh hown6;have HG6:=zh (Mod.of_grown (S:=fun k=>w4.heap.size<=k) hg6 (fun k e _=>(HO5.out.lt _ e).1));clear hown6 hg6)
  obtain ⟨a6,c6,rfl⟩:=own_len HO6.out
  have HM6:=zh (show Mod No w w6 from HM5.out.then HG6.out (fun i hi e=>by have e:w4.heap.size<=i:=e;have:=HM4.out.size;omega))
  have hcells:prCells (savP m l t)++prCells ps=prCells (savP m l t++ps):=by unfold prCells;rw [List.flatMap_append]
  have hprs:Prs w6 No a6 (savP m l t++ps):=prs_of_sl (e:=33) (c:=c6) (n:=3+pn) (by rw [<- hcells];exact Sl.of_own HO6.out (fun _ _ f=>f))
  have hlen:(savP m l t++ps).length=3+pn:=by rw [List.length_append,hpl];rfl
  have hmidp:MidP (savP m l t++ps):=fun p hp=>by
   rcases List.mem_append.1 hp with hp | hp
   ·rw [HPT.out] at hp
    have h1:=HML.out
    have h2:=HTL.out
    simp only [List.mem_cons,List.not_mem_nil,or_false] at hp
    rcases hp with rfl | rfl | rfl
    ·exact ⟨by show kyM.length<=_;decide,by show m.length<=_;omega⟩
    ·exact ⟨by show kyL.length<=_;decide,by show l.length<=_;omega⟩
    ·exact ⟨by show kyT.length<=_;decide,by show tb.length<=_;omega⟩
   ·exact HPM.out p hp
  have hap:=(H.out.stay HM6.out).apply (c:=c6) hprs hmidp HMF.out.1 HMF.out.2 (by rw [hlen];omega) (by rw [hlen];exact hnn) hcnt
  rw [hlen] at hap
  have HAP:=zh hap
  clear hcells hprs hlen hmidp hap
  go_wp2_with fail
  with_reducible refine HAP.out.mono ?_
  rintro e w7 ⟨rfl,O',h1,h2,h3⟩
  have HR7:=zh (HP.out w7 ⟨O',h1,fun q hq e=>h2 q (Nat.lt_of_lt_of_le hq HM6.out.size) e,(HM6.out.weaken (fun _ _ f=>f.elim)).trans h3⟩)
  clear h1 h2 h3 HAP
  go_wp2_with fail
  exact fin hR HR7.out
end Go.Proofs.YtmppeipgjcjdkaaGreatDoor
namespace Go.Proofs.YtmppeipgjcjdkaaGreatDoor
open _root_.Go.Proofs.Tryz
open Go.RowKit
theorem nodup_sum_le {α:Type} [DecidableEq α] (f:α->Nat):∀ (ks K:List α),ks.Nodup->(∀ k ∈ ks,k ∈ K)->(ks.map f).sum<=(K.map f).sum
 | [],K,_,_=>Nat.zero_le _
 | k :: ks,K,hn,hs=>by
  obtain ⟨h1,h2⟩:=List.nodup_cons.1 hn
  have hk:=hs k (by simp)
  have hp:=List.perm_cons_erase hk
  have h3:=(hp.map f).sum_nat
  have h4:=nodup_sum_le f ks (K.erase k) h2 fun x hx=>(List.mem_erase_of_ne (fun e=>h1 (by rw [<- e];exact hx))).2 (hs x (by simp [hx]))
  rw [List.map_cons,List.sum_cons] at h3 ⊢
  omega
theorem body_sum:∀ {l:List Pr},(∀ p ∈ l,p.key.length<=10000000/\p.value.length<=10000000)->(bodyB (prB l)).length<=(l.map fun p=>p.key.length+p.value.length+25).sum
 | [],_=>by simp [bodyB,prB]
 | p :: l,h=>by
  have h1:=h p (by simp)
  have h2:=body_sum (l:=l) fun q hq=>h q (by simp [hq])
  have h3:=pairB_len p h1.1 h1.2
  have e:bodyB (prB (p :: l))=recB (pairB p)++bodyB (prB l):=by simp [bodyB,prB]
  rw [e,List.length_append,List.map_cons,List.sum_cons]
  simp only [recB,List.length_append,be_len]
  omega
structure SM (M:Mt) (K:List (List UInt8)) (B:Nat) (m l tb:List UInt8):Prop where
 only:∀ k,(M k).isSome=true->k ∈ kyM :: kyL :: kyT :: K
 val:∀ k v,M k=some v->k ≠ kyT->v.length<=1000
 tree:tb.length<=B
 m:(M kyM).getD []=m
 l:(M kyL).getD []=l
 t:(M kyT).getD []=tb
 few:K.length<=4
 short:∀ k ∈ K,k.length<=100/\k ≠ kyM/\k ≠ kyL/\k ≠ kyT
theorem SM.first {K:List (List UInt8)} (hf:K.length<=4) (hs:∀ k ∈ K,k.length<=100/\k ≠ kyM/\k ≠ kyL/\k ≠ kyT) (B:Nat):SM (fun _=>none) K B [] [] [] :=
 ⟨fun k h=>(by cases h),fun k v h=>(by cases h),Nat.zero_le _,rfl,rfl,rfl,hf,hs⟩
theorem SM.klen {M:Mt} {K:List (List UInt8)} {B:Nat} {m l tb:List UInt8} (h:SM M K B m l tb) {k:List UInt8} (hk:k ∈ kyM :: kyL :: kyT :: K):k.length<=100:=by
 simp only [List.mem_cons] at hk
 rcases hk with rfl | rfl | rfl | hk
 ·decide
 ·decide
 ·decide
 ·exact (h.short k hk).1
theorem SM.vlen {M:Mt} {K:List (List UInt8)} {B:Nat} {m l tb:List UInt8} (h:SM M K B m l tb) (hB:B<=400000) {k v:List UInt8} (hv:M k=some v):v.length<=400000:=by
 by_cases e:k=kyT
 ·subst e
  have h1:=h.t
  rw [hv] at h1
  have h2:=h.tree
  rw [<- h1] at h2
  exact Nat.le_trans h2 hB
 ·have:=h.val k v hv e
  omega
theorem SM.mid {M:Mt} {K:List (List UInt8)} {B:Nat} {m l tb:List UInt8} (h:SM M K B m l tb) (hB:B<=400000):MidM M:=fun k v e=>by
 have h1:=h.klen (h.only k (by rw [e];rfl))
 have h2:=h.vlen hB e
 omega
theorem SM.fits {M:Mt} {K:List (List UInt8)} {B:Nat} {m l tb:List UInt8} (h:SM M K B m l tb) (hB:B<=400000) {N sz:Nat} (hN:B+9000<=(N / 2)*(sz - 16)):Fits N sz M:=fun ks hk=>by
 have h1:=body_sum (l:=recsOf M ks) (fun p hp=>by
  obtain ⟨k,hkm,rfl⟩:=List.mem_map.1 hp
  obtain ⟨v,hv⟩:=Option.isSome_iff_exists.1 ((hk.mem k).1 hkm)
  have h2:=h.klen (h.only k (by rw [hv];rfl))
  have h3:=h.vlen hB hv
  refine ⟨by show k.length<=_;omega,?_⟩
  show ((M k).getD []).length<=_
  rw [hv]
  show v.length<=_
  omega)
 have e1:((recsOf M ks).map fun p=>p.key.length+p.value.length+25).sum=(ks.map fun k=>k.length+((M k).getD []).length+25).sum:=by
  unfold recsOf
  rw [List.map_map]
  rfl
 have h2:=nodup_sum_le (fun k=>k.length+((M k).getD []).length+25) ks (kyM :: kyL :: kyT :: K) hk.nodup (fun k hm=>h.only k ((hk.mem k).1 hm))
 have hv:∀ k,k ≠ kyT->((M k).getD []).length<=1000:=fun k hne=>by
  cases hM:M k with
  | none=>exact Nat.zero_le _
  | some v=>exact h.val k v hM hne
 have h3:∀ L:List (List UInt8),(∀ k ∈ L,k.length<=100/\k ≠ kyT)->(L.map fun k=>k.length+((M k).getD []).length+25).sum<=1125*L.length:=fun L=>by
  induction L with
  | nil=>intro _;exact Nat.le_refl _
  | cons k L ih =>
   intro hL
   have i1:=ih fun x hx=>hL x (by simp [hx])
   have i2:=hL k (by simp)
   have i3:=hv k i2.2
   rw [List.map_cons,List.sum_cons,List.length_cons]
   omega
 have h4:=h3 K fun k hk=>⟨(h.short k hk).1,(h.short k hk).2.2.2⟩
 have h5:=hv kyM (by decide)
 have h6:=hv kyL (by decide)
 have h7:=h.tree
 have h8:=h.t
 have h9:=h.few
 have l1:kyM.length=10:=rfl
 have l2:kyL.length=6:=rfl
 have l3:kyT.length=6:=rfl
 simp only [List.map_cons,List.sum_cons] at h2
 rw [h8] at h2
 omega
theorem SM.change {M:Mt} {K:List (List UInt8)} {B:Nat} {m l tb:List UInt8} (h:SM M K B m l tb) {p:Pr} (hk:p.key ∈ K) (hv:p.value.length<=1000):SM (M.change p) K B m l tb:=by
 have hs:=h.short p.key hk
 have key:∀ k,k ≠ p.key->(M.change p) k=M k:=fun k hne=>by
  unfold Mt.change Mt.del Mt.put
  split <;> exact if_neg hne
 have at_:(M.change p) p.key=if p.gone then none else some p.value:=by
  unfold Mt.change Mt.del Mt.put
  split <;> exact if_pos rfl
 refine ⟨fun k hk2=>?_,fun k v hk2 hne=>?_,h.tree,?_,?_,?_,h.few,h.short⟩
 ·by_cases e:k=p.key
  ·subst e;simp [hk]
  ·rw [key k e] at hk2;exact h.only k hk2
 ·by_cases e:k=p.key
  ·subst e
   rw [at_] at hk2
   split at hk2
   ·cases hk2
   ·cases hk2;exact hv
  ·rw [key k e] at hk2;exact h.val k v hk2 hne
 ·rw [key _ (Ne.symm hs.2.1)];exact h.m
 ·rw [key _ (Ne.symm hs.2.2.1)];exact h.l
 ·rw [key _ (Ne.symm hs.2.2.2)];exact h.t
theorem SM.changes:∀ {ps:List Pr} {M:Mt} {K:List (List UInt8)} {B:Nat} {m l tb:List UInt8} (_:SM M K B m l tb) (_:∀ p ∈ ps,p.key ∈ K/\p.value.length<=1000),SM (M.changes ps) K B m l tb
 | [],_,_,_,_,_,_,h,_=>h
 | p :: ps,M,_,_,_,_,_,h,hp=>SM.changes (ps:=ps) (M:=M.change p) (h.change (hp p (by simp)).1 (hp p (by simp)).2) fun q hq=>hp q (by simp [hq])
theorem SM.save {M:Mt} {K:List (List UInt8)} {B:Nat} {m l tb:List UInt8} (h:SM M K B m l tb) (m' l':List UInt8) (t:Tr) (hm:m'.length<=1000) (hl:l'.length<=1000) (ht:(treeB t).length<=B):SM (M.changes (savP m' l' t)) K B m' l' (treeB t):=by
 have e:∀ k,(M.changes (savP m' l' t)) k=if k=kyT then some (treeB t) else if k=kyL then some l' else if k=kyM then some m' else M k:=fun k=>rfl
 refine ⟨fun k hk=>?_,fun k v hk hne=>?_,ht,?_,?_,?_,h.few,h.short⟩
 ·rw [e] at hk
  by_cases h1:k=kyT
  ·simp [h1]
  ·by_cases h2:k=kyL
   ·simp [h2]
   ·by_cases h3:k=kyM
    ·simp [h3]
    ·rw [if_neg h1,if_neg h2,if_neg h3] at hk
     exact h.only k hk
 ·rw [e,if_neg hne] at hk
  by_cases h2:k=kyL
  ·rw [if_pos h2] at hk;cases hk;exact hl
  ·rw [if_neg h2] at hk
   by_cases h3:k=kyM
   ·rw [if_pos h3] at hk;cases hk;exact hm
   ·rw [if_neg h3] at hk
    exact h.val k v hk hne
 ·rw [e];rfl
 ·rw [e];rfl
 ·rw [e];rfl
end Go.Proofs.YtmppeipgjcjdkaaGreatDoor
namespace Go.Proofs.YtmppeipgjcjdkaaGreatDoor
open _root_.Go.Proofs.Tryz
open Go.RowKit Go.Maps
theorem no_ltS (w:World):∀ k,No k->k < w.heap.size:=fun _ f=>f.elim
def flK:Fl:=⟨[97,47,98],false,[120]⟩
def trK:Tr:=[⟨[97],true,[]⟩,⟨[97,47,98],false,[120]⟩]
def kyX:List UInt8:=[120,47,121]
theorem ofK:ofT [flK]=.inl trK:=by decide +kernel
def prK:Pr:=⟨kyX,[49],false⟩
def mpK:Mt:=Mt.changes (fun _=>none) (savP [109] [108] trK++[prK])
theorem trK_len:(treeB trK).length<=1000:=by decide +kernel
theorem mpK_sm:SM mpK [kyX] 1000 [109] [108] (treeB trK):=by
 unfold mpK
 rw [changes_append]
 refine SM.changes (SM.save (SM.first (by decide) (by decide) 1000) [109] [108] trK (by decide) (by decide) trK_len) (fun p hp=>?_)
 rw [List.mem_singleton.1 hp]
 exact ⟨by decide,by decide⟩
theorem mpK_x:mpK kyX=some [49]:=by decide +kernel
theorem mpK_no:∀ ks,KeysOfM mpK ks->ks.filter (pref [99,47])=[]:=fun ks h=>by
 rw [List.filter_eq_nil_iff]
 intro k hk
 have h1:=mpK_sm.only k ((h.2 k).1 hk)
 simp only [List.mem_cons,List.not_mem_nil,or_false] at h1
 rcases h1 with rfl | rfl | rfl | rfl <;> decide
theorem mpK_tree:filesD ((mpK kyT).getD [])=trK:=by decide +kernel
set_option maxRecDepth 100000 in
set_option maxHeartbeats 8000000 in
theorem known_any (w:World) (hgl:Gl w):Calls prog 6 #[] w fun e w'=>e=.returned (.bool true)/\Mod No w w':=by
 refine calls_hide fun R hR=>?_
 have HGL:=zh hgl
 clear hgl
 go_enter func6,ntmps6
 go_wp2_with fail
 with_reducible refine (disk_new No 400 512 w (no_ltS w)).mono ?_
 rintro e w1 ⟨b,sb,mb,rfl,hb1,hb2,hb3,hd1,hm1⟩
 have HD1:=zh (And.intro hd1 (And.intro (And.intro hb1 (And.intro hb2 hb3)) hm1))
 clear hb1 hb2 hb3 hd1 hm1
 go_wp2_with fail
 with_reducible refine (Sto.first (w0:=w) (n:=400) (z:=512) (N:=400) (sz:=512) (by decide) (by decide) (by decide) (by decide) HD1.out.1 HD1.out.2.1 HD1.out.2.2).mono ?_
 rintro e w2 ⟨s,O,rfl,hs2,-,hm2⟩
 have HS2:=zh hs2
 clear hs2 HD1 hm2
 go_upto_region 5 with fail
 have kc:=Lib.run_convert_bytes_const (P:=prog) w2 41 5 #[.int .u8 120] 1 1 underlying41 underlying5
 go_wp2_with fail
 obtain ⟨g,hg⟩:∃ g,g=w2.heap.size:=⟨_,rfl⟩
 rw [<- hg]
 obtain ⟨w3,hw3⟩:∃ y,y=((w2.alloc (.cells #[.int .u8 120] 5 (1,2))).alloc (.cells #[.string ⟨#[97,47,98]⟩,.bool false,.slice (some ⟨g,0,none⟩) 1 1] 51)).alloc (.cells #[.string ⟨#[120,47,121]⟩,.string ⟨#[49]⟩,.bool false] 33):=⟨_,rfl⟩
 have h0:w3.heap[g]? = some (.cells #[.int .u8 120] 5 (1,2)):=by rw [hw3,hg];exact heap_alloc_old _ (heap_alloc_old _ (heap_alloc_new w2 _))
 have h1:w3.heap[g+1]? = some (.cells #[.string ⟨#[97,47,98]⟩,.bool false,.slice (some ⟨g,0,none⟩) 1 1] 51 (0,0)):=by rw [hw3,hg];exact heap_alloc_old _ (heap_at_new _ _ (by simp))
 have h2:w3.heap[g+1+1]? = some (.cells #[.string ⟨#[120,47,121]⟩,.string ⟨#[49]⟩,.bool false] 33 (0,0)):=by rw [hw3,hg];exact heap_at_new _ _ (by simp)
 have m3:Mod No w2 w3:=by rw [hw3];exact (((Mod.refl No w2).alloc _).alloc _).alloc _
 rw [<- hw3]
 have HS3:=zh (HS2.out.stay m3)
 have hm03:Mod No w w3:=HS3.out.mod
 have HSV:=zh (show Calls prog 10 #[.pointer (some ⟨s,0,none⟩),.string ⟨#[109]⟩,.string ⟨#[108]⟩,.slice (some ⟨g+1,0,none⟩) 1 1,.slice (some ⟨g+1+1,0,none⟩) 1 1] w3 fun e w'=>SavPost w w3 w' 400 512 b s O 0 (fun _=>none) 0 [109] [108] [flK] [prK] e from
  save_any HS3.out [109] [108] (by decide) (by decide) [⟨flK,.slice (some ⟨g,0,none⟩) 1 1⟩] _ ⟨⟨_,_,rfl⟩,.inr ⟨51,.inr ⟨g+1,0,1,_,_,rfl,Nat.le_refl _,by unfold maxLen;omega,fun f=>f,h1,Nat.le_refl _,fun i hi=>by
   match i,hi with
   | 0,_=>rfl
   | 1,_=>rfl
   | 2,_=>rfl
   | k+3,h=>exact absurd h (by simp [FlX.cells])⟩⟩⟩ (fun x hx=>by
   rw [List.mem_singleton.1 hx]
   exact ⟨⟨_,_,rfl⟩,.inr ⟨5,.inr ⟨g,0,1,_,_,rfl,Nat.le_refl _,by unfold maxLen;omega,fun f=>f,h0,Nat.le_refl _,fun i hi=>by
    match i,hi with
    | 0,_=>rfl
    | k+1,h=>exact absurd h (by simp [flK])⟩⟩⟩) (by simp) (fun x hx=>by
   rw [List.mem_singleton.1 hx]
   exact ⟨by show (3:Nat)<=300;decide,by show (1:Nat)<=500;decide⟩) [prK] _ (by decide) (.inr ⟨g+1+1,0,1,_,_,rfl,Nat.le_refl _,by unfold maxLen;omega,fun f=>f,h2,by decide,fun i hi=>by
    match i,hi with
    | 0,_=>rfl
    | 1,_=>rfl
    | 2,_=>rfl
    | k+3,h=>exact absurd h (by simp [prCells])⟩) (fun p hp=>by rw [List.mem_singleton.1 hp];decide) (by decide) (by decide) (HGL.out.stay hm03 (fun f=>f)) (fun t ht=>by
   have h9:=ofK
   have h8:ofT [flK]=.inl t:=ht
   rw [h9] at h8
   cases h8
   exact ⟨mpK_sm.mid (by decide),mpK_sm.fits (by decide) (by decide)⟩))
 clear hg hw3 h0 h1 h2 m3 kc HS2 hm03
 with_reducible refine HSV.out.mono ?_
 rintro e w4 hsp
 unfold SavPost at hsp
 rw [ofK] at hsp
 obtain ⟨rfl,O4,hs4,-,-⟩:=hsp
 have HS4:=zh (show Sto w w4 400 512 b s O4 4 mpK 1 from hs4)
 clear hs4 HSV HS3
 go_wp2_with fail
 with_reducible refine (HS4.out.reopen [kyM,kyL,kyT,kyX] mpK_sm.only).mono ?_
 rintro e w5 ⟨t,O5,rfl,hs5,-,-⟩
 have HS5:=zh (show Sto w w5 400 512 b t O5 4 mpK 1 from hs5)
 have HLD:=zh (load_gen (A:=fun _=>none) HS5.out (fun W cb hm hc=>(ckeys_none (HS5.out.stay hm) hc (by decide) mpK_no).mono fun e w' ⟨he,hm'⟩=>⟨⟨_,[],he,(fun S hS=>by cases hS),.nil,(fun S=>by simp),⟨rfl,.inl ⟨rfl,rfl⟩⟩⟩,hm'⟩) (by rw [mpK_sm.t];have:=trK_len;omega))
 clear hs5 HS4
 go_wp2_with fail
 with_reducible refine HLD.out.mono ?_
 rintro e w6 ⟨⟨v,L,rfl,-,hL,hst⟩,hm6⟩
 obtain rfl:L=[]:=List.eq_nil_iff_forall_not_mem.2 fun S hS=>by have:=(hL S).1 hS;cases this
 rw [mpK_sm.m,mpK_sm.l,mpK_tree] at hst
 have HS6:=zh (HS5.out.stay hm6)
 have HST6:=zh hst
 obtain ⟨kv,tv,ys,rfl,-,hk3,hys,hk5,hk6⟩:=hst.no
 obtain ⟨ka,kc,rfl⟩:=hk3.len
 have hyl:ys.length=2:=by
  have:=congrArg List.length hys
  rw [List.length_map] at this
  exact this
 obtain ⟨tb,tf,tc,rfl,-⟩:=hk5.shape (by omega)
 have hdir:w6.cell? ⟨tb,tf+1,none⟩=some (.bool true):=by
  obtain ⟨-,q1,-⟩:=fls_cells hk5 (k:=0) (by omega)
  have e:ys[0].f.dir=true:=by
   have h9:(ys.map FlX.f)[0]? = trK[0]?:=by rw [hys]
   rw [List.getElem?_map,List.getElem?_eq_getElem (by omega)] at h9
   have h8:=Option.some.inj h9
   rw [h8]
  rw [e] at q1
  simpa using q1
 rw [hyl] at HST6 ⊢
 clear hL hm6 HLD HS5 hk3 hk5 hk6 hys hyl
 obtain ⟨gs,hgs⟩:∃ g,g=w6.heap.size:=⟨_,rfl⟩
 obtain ⟨w7,hw7⟩:∃ y,y=w6.alloc (.cells #[.string ⟨#[109]⟩,.string ⟨#[108]⟩,.slice ka 0 kc,.slice (some ⟨tb,tf,none⟩) 2 tc] 38):=⟨_,rfl⟩
 have m7:Mod No w6 w7:=by rw [hw7];exact (Mod.refl No w6).alloc _
 have h7:w7.heap[gs]? = some (.cells #[.string ⟨#[109]⟩,.string ⟨#[108]⟩,.slice ka 0 kc,.slice (some ⟨tb,tf,none⟩) 2 tc] 38 (0,0)):=by rw [hw7,hgs];exact heap_alloc_new w6 _
 have HS7:=zh (HS6.out.stay m7)
 have HST7:=zh (show StaAt w7 (fun q=>q < w5.heap.size) (.agg #[.string ⟨#[109]⟩,.string ⟨#[108]⟩,.slice ka 0 kc,.slice (some ⟨tb,tf,none⟩) 2 tc]) [109] [108] [] trK from HST6.out.stay m7)
 have HD7:=zh (m7.cell hdir (fun f=>f))
 have HW7:=zh hw7
 have HGS:=zh hgs
 have H7:=zh h7
 have HGX:=zh (show Calls prog 21 #[.pointer (some ⟨t,0,none⟩),.string ⟨#[120,47,121]⟩] w7 fun e w'=>e=.returned (.tuple #[.string ⟨#[49]⟩,.bool true])/\w'=w7 from by
  have h9:=HS7.out.get kyX (by decide)
  unfold getV at h9
  rw [mpK_x] at h9
  exact h9)
 have hs7:=HS7.out.mod
 have HGL7:=zh (HGL.out.stay hs7 (fun f=>f))
 clear hdir m7 h7 hw7 hgs HS6 HST6 HGL hs7
 go_upto_region 10 with fail
 rw [show strV [109]=.string ⟨#[109]⟩ from rfl,show strV [108]=.string ⟨#[108]⟩ from rfl]
 (try simp only [List.length_nil])
 rw [<- HGS.out,<- HW7.out]
 go_wp2_with fail
 with_reducible refine HGX.out.mono ?_
 rintro e w8 ⟨rfl,rfl⟩
 have a0:w8.cell? ⟨gs,0,none⟩=some (.string ⟨#[109]⟩):=cell_ofA H7.out rfl
 have a1:w8.cell? ⟨gs,1,none⟩=some (.string ⟨#[108]⟩):=cell_ofA H7.out rfl
 have a2:w8.cell? ⟨gs,2,none⟩=some (.slice ka 0 kc):=cell_ofA H7.out rfl
 have a3:w8.cell? ⟨gs,3,none⟩=some (.slice (some ⟨tb,tf,none⟩) 2 tc):=cell_ofA H7.out rfl
 have a4:=HD7.out
 clear HGX
 go_wp2_with fail
 with_reducible refine (same_any HST7.out HST7.out).mono ?_
 rintro e w9 ⟨rfl,hm9⟩
 have HM9:=zh (HS7.out.mod.trans hm9)
 have h9:=hm9.keep H7.out (fun f=>f)
 have b0:w9.cell? ⟨gs,0,none⟩=some (.string ⟨#[109]⟩):=cell_ofA h9 rfl
 have b1:w9.cell? ⟨gs,1,none⟩=some (.string ⟨#[108]⟩):=cell_ofA h9 rfl
 have b2:w9.cell? ⟨gs,2,none⟩=some (.slice ka 0 kc):=cell_ofA h9 rfl
 have b3:w9.cell? ⟨gs,3,none⟩=some (.slice (some ⟨tb,tf,none⟩) 2 tc):=cell_ofA h9 rfl
 have HHE:=zh (held_ml (HST7.out.stay hm9) (HGL7.out.stay hm9 (fun f=>f)))
 clear hm9 h9 a0 a1 a2 a3 a4
 go_wp2_with fail
 with_reducible refine HHE.out.mono ?_
 rintro e w10 ⟨rfl,hm10⟩
 have HM10:=zh (HM9.out.trans hm10)
 clear hm10 b0 b1 b2 b3 HHE
 go_wp2_with fail
 with_reducible refine (held_none w10).mono ?_
 rintro e w11 ⟨rfl,hm11⟩
 have HM11:=zh (HM10.out.trans hm11)
 clear hm11
 go_wp2_with fail
 exact fin hR ⟨rfl,HM11.out⟩
end Go.Proofs.YtmppeipgjcjdkaaGreatDoor
