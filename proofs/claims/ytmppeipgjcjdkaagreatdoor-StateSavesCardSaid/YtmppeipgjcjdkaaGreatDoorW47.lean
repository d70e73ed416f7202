/-
  Layers 0 to 14: helps of the laws of indexes. No statement is proved here; no condition.
-/
import Derived.Test.YtmppeipgjcjdkaaGreatDoorW42
import Derived.Test.YtmppeipgjcjdkaaGreatDoorW45
import Derived.Test.YtmppeipgjcjdkaaGreatDoorW38
import Derived.Test.YtmppeipgjcjdkaaGreatDoorW46
import Derived.Test.YtmppeipgjcjdkaaGreatDoorW29
namespace Go.Proofs.YtmppeipgjcjdkaaGreatDoor
open _root_.Go.Proofs.Tryz
open Go.RowKit Go.Maps
def WtAt (w:World) (g:Nat) (O:Nat->Prop) (wm wl S:List UInt8) (wt:Tr):Prop :=
 ∃ kv tv,w.heap[g]? = some (.cells #[strV wm,strV wl,kv,tv] 38 (0,0))/\StaAt w (fun k=>O k\/k=g) (.agg #[strV wm,strV wl,kv,tv]) wm wl [S] wt
theorem WtAt.no {w w':World} {g:Nat} {O:Nat->Prop} {wm wl S:List UInt8} {wt:Tr} (h:WtAt w g O wm wl S wt) (hm:Mod No w w'):WtAt w' g O wm wl S wt:=by
 obtain ⟨kv,tv,h1,h2⟩:=h
 exact ⟨kv,tv,hm.keep h1 (fun f=>f),h2.stay hm⟩
theorem WtAt.save {w w':World} {g:Nat} {O O':Nat->Prop} {wm wl S:List UInt8} {wt:Tr} (h:WtAt w g O wm wl S wt) (hm:Mod O w w') (hg:¬ O g) (hl:∀ q,q < w.heap.size->O' q->O q):WtAt w' g O' wm wl S wt:=by
 obtain ⟨kv,tv,h1,h2⟩:=h
 refine ⟨kv,tv,hm.keep h1 hg,(h2.avoid.keep hm (fun k e=>.inl (.inl e))).shrink fun k _ e=>?_⟩
 rcases e with e | e
 ·rcases Nat.lt_or_ge k w.heap.size with h3 | h3
  ·exact .inl (.inl (hl k h3 e))
  ·exact .inr h3
 ·exact .inl (.inr e)
theorem WtAt.turn {w w':World} {g q B:Nat} {O:Nat->Prop} {wm wl S m l:List UInt8} {wt t:Tr} (h:WtAt w g O wm wl S wt) (hr:RTr w (RX B q) q t) (hO:∀ k,O k->k < B) (hg:g < B) (hm:Mod (fun p=>p=g) w w') (kv tv tv':Value) (h1:w.heap[g]? = some (.cells #[strV wm,strV wl,kv,tv] 38 (0,0))) (h2:w.heap[q]? = some (.cells #[tv'] 64 (0,0))) (h3:w'.heap[g]? = some (.cells #[strV m,strV l,kv,tv'] 38 (0,0))):WtAt w' g O m l S t:=by
 obtain ⟨kv0,tv0,e1,kv1,tv1,ys,e2,e3,e4,e5,e6,e7⟩:=h
 rw [h1] at e1
 cases e1
 cases e2
 obtain ⟨tv2,zs,r1,r2,r3,r4⟩:=hr
 rw [h2] at r1
 cases r1
 have hX:∀ k,k < w.heap.size->(O k\/k=g)->RX B q k:=fun k _ e=>by
  rcases e with e | e
  ·exact .inr (hO k e)
  ·exact .inr (by omega)
 refine ⟨kv,tv',h3,kv,tv',zs,rfl,e3,e4.keep hm (fun k _ _ a b=>b (.inr a)),r2,((SvX.of r3).shrink hX).keep hm (fun k _ _ a b=>b (.inr a)),fun y hy=>((SvX.of (r4 y hy)).shrink hX).keep hm (fun k _ _ a b=>b (.inr a))⟩
theorem SameR.inl {a b:Tr ⊕ Nat} {t:Tr} (h:SameR a b) (e:a=.inl t):b=.inl t:=by
 rcases h with ⟨t',h1,h2⟩ | ⟨c,d,h1,h2⟩
 ·rw [e] at h1;cases h1;exact h2
 ·rw [e] at h1;cases h1
theorem SameR.inr {a b:Tr ⊕ Nat} {c:Nat} (h:SameR a b) (e:a=.inr c):∃ d,b=.inr d:=by
 rcases h with ⟨t',h1,h2⟩ | ⟨c,d,h1,h2⟩
 ·rw [e] at h1;cases h1
 ·exact ⟨d,h2⟩
set_option maxRecDepth 100000 in
theorem load_want {w:World} {g:Nat} {v0 v1 v2 v3:Value} (h:w.heap[g]? = some (.cells #[v0,v1,v2,v3] 38 (0,0))) :
  (loadVar 38 ⟨g,0,none⟩).run prog w=.ok (.agg #[v0,v1,v2,v3]) w :=
 run_loadVar_row (P:=prog) w g 38 38 #[v0,v1,v2,v3] (0,0) _ h underlying38 rfl (by kernel_rfl)
set_option maxRecDepth 100000 in
set_option maxHeartbeats 32000000 in
theorem saves_walk (m l m2 l2 ar:List UInt8) (xs xs2:List FlX) (v v2 av:Value) (w:World) (hv:SvX w No v xs.length (xs.flatMap FlX.cells)) (hx:∀ x ∈ xs,FlIn w x) (hv2:SvX w No v2 xs2.length (xs2.flatMap FlX.cells)) (hx2:∀ x ∈ xs2,FlIn w x) (ha:SvX w No av ar.length (bv ar)) (hgl:Gl w) :
  Calls prog 5 #[strV m,strV l,v,strV m2,strV l2,v2,av] w fun e w'=>e=.returned (.bool true)/\Mod No w w':=by
 refine calls_hide fun R hR=>?_
 have HV:=zh hv
 have HX:=zh hx
 have HV2:=zh hv2
 have HX2:=zh hx2
 have HA:=zh ha
 have HGL:=zh hgl
 have HKN:=zh (known_any w hgl)
 obtain ⟨va,vc,rfl⟩:=hv.1
 obtain ⟨va2,vc2,rfl⟩:=hv2.1
 obtain ⟨aa,ac,rfl⟩:=ha.1
 have z1:=str_len3 m
 have z2:=str_len3 l
 have z3:=str_len3 m2
 have z4:=str_len3 l2
 obtain ⟨PM,hPM⟩:∃ P:ByteArray,P=⟨m.toArray⟩:=⟨_,rfl⟩
 obtain ⟨PL,hPL⟩:∃ P:ByteArray,P=⟨l.toArray⟩:=⟨_,rfl⟩
 obtain ⟨PM2,hPM2⟩:∃ P:ByteArray,P=⟨m2.toArray⟩:=⟨_,rfl⟩
 obtain ⟨PL2,hPL2⟩:∃ P:ByteArray,P=⟨l2.toArray⟩:=⟨_,rfl⟩
 unfold strV
 rw [<- hPM] at z1 ⊢
 rw [<- hPL] at z2 ⊢
 rw [<- hPM2] at z3 ⊢
 rw [<- hPL2] at z4 ⊢
 have HPP:=zh (And.intro hPM (And.intro hPL (And.intro hPM2 hPL2)))
 clear hv hx hv2 hx2 ha hgl hPM hPL hPM2 hPL2
 go_enter func5,ntmps5
 go_wp2_with fail
 with_reducible refine HKN.out.mono ?_
 rintro e w1 ⟨rfl,hm1⟩
 have HM1:=zh hm1
 have HLF:=zh (lightfiles_any xs (.slice va xs.length vc) w1 (HV.out.kn hm1) (fun x hx=>(HX.out x hx).no hm1))
 clear hm1 HKN
 have t1:(300:Int) < (m.length:Int)\/¬ (300:Int) < (m.length:Int):=Decidable.em _
 have t2:(300:Int) < (l.length:Int)\/¬ (300:Int) < (l.length:Int):=Decidable.em _
 have t3:(300:Int) < (m2.length:Int)\/¬ (300:Int) < (m2.length:Int):=Decidable.em _
 have t4:(300:Int) < (l2.length:Int)\/¬ (300:Int) < (l2.length:Int):=Decidable.em _
 have t5:(300:Int) < (ar.length:Int)\/¬ (300:Int) < (ar.length:Int):=Decidable.em _
 rcases t1 with t1 | t1
 ·clear t2 t3 t4 t5
  go_wp2_with fail
  exact fin hR ⟨rfl,HM1.out⟩
 rcases t2 with t2 | t2
 ·clear t3 t4 t5
  go_wp2_with fail
  exact fin hR ⟨rfl,HM1.out⟩
 rcases t3 with t3 | t3
 ·clear t4 t5
  go_wp2_with fail
  exact fin hR ⟨rfl,HM1.out⟩
 rcases t4 with t4 | t4
 ·clear t5
  go_wp2_with fail
  exact fin hR ⟨rfl,HM1.out⟩
 rcases t5 with t5 | t5
 ·go_wp2_with fail
  exact fin hR ⟨rfl,HM1.out⟩
 go_wp2_with fail
 with_reducible refine HLF.out.mono ?_
 rintro e w2 ⟨⟨bl,rfl,hbl⟩,hm2⟩
 have HM2:=zh (HM1.out.trans hm2)
 clear hm2 HLF
 cases bl with
 | false =>
  clear hbl
  go_wp2_with fail
  exact fin hR ⟨rfl,HM2.out⟩
 | true =>
 have HBL:=zh (hbl.1 rfl)
 have HLF:=zh (lightfiles_any xs2 (.slice va2 xs2.length vc2) w2 (HV2.out.kn HM2.out) (fun x hx=>(HX2.out x hx).no HM2.out))
 clear hbl HM1
 go_wp2_with fail
 with_reducible refine HLF.out.mono ?_
 rintro e w3 ⟨⟨bl,rfl,hbl⟩,hm3⟩
 have HM3:=zh (HM2.out.trans hm3)
 clear hm3 HLF
 cases bl with
 | false =>
  clear hbl
  go_wp2_with fail
  exact fin hR ⟨rfl,HM3.out⟩
 | true =>
 have HBL2:=zh (hbl.1 rfl)
 have HLN:=zh (show m.length<=1000/\l.length<=1000/\m2.length<=1000/\l2.length<=1000/\ar.length<=300 by omega)
 clear hbl HM2
 go_wp2_with fail
 with_reducible refine (disk_new No 2000 512 w3 (no_ltS w3)).mono ?_
 rintro e w4 ⟨b1,sb1,mb1,rfl,hb1,hb2,hb3,hd1,hm4⟩
 have hmw4:Mod No w w4:=HM3.out.trans hm4
 have hle:=HM3.out.size
 have HD1:=zh (And.intro hd1 (And.intro (show w.heap.size<=b1/\w.heap.size<=sb1/\w.heap.size<=mb1 by omega) hmw4))
 clear hb1 hb2 hb3 hd1 hm4 hmw4 hle
 go_wp2_with fail
 with_reducible refine (Sto.first (w0:=w) (n:=2000) (z:=512) (N:=2000) (sz:=512) (by decide) (by decide) (by decide) (by decide) HD1.out.1 HD1.out.2.1 HD1.out.2.2).mono ?_
 rintro e w5 ⟨s1,O1,rfl,hs1,-,-⟩
 have H5:=zh hs1
 clear hs1 HD1 HM3
 go_wp2_with fail
 with_reducible refine (cnew_any s1 w5).mono ?_
 rintro e w6 ⟨rfl,hco,hm6,hlt6⟩
 obtain ⟨S,hS⟩:∃ S,S=sumF ar:=⟨_,rfl⟩
 have HS:=zh hS
 have hSL:S.length=32:=by rw [hS];exact sumF_length ar
 have HSL:=zh hSL
 have HSX0:=zh (SX.first (S:=S) (arch:=ar) hSL (by have:=HLN.out;omega))
 have H6:=zh (H5.out.stay hm6)
 have HCP:=zh (show Calls prog 19 #[.pointer (some ⟨w5.heap.size,0,none⟩),.slice aa ar.length ac] w6 fun e w'=>e=.returned (.tuple #[keyV S,.int .i64 0])/\∃ O' M',Sto w w' 2000 512 b1 s1 O' 2 M' 1/\SX M' S ar [] [] [] from by
  have h9:=cput_new H6.out hco (fun f=>absurd (H5.out.high _ f) (Nat.lt_irrefl _)) ar (.slice aa ar.length ac) ((HA.out.avoid.kn H6.out.mod).shrink (fun k _ h=>.inr (H6.out.low k h))) (by have:=HLN.out;omega) rfl (by rw [<- hS];exact HSX0.out.sm.mid (by decide)) (by rw [<- hS];exact HSX0.out.sm.fits (by decide) (by decide)) (by decide) (by decide)
  rw [<- hS] at h9
  refine h9.mono ?_
  rintro e w' ⟨h1,⟨O',h2,-⟩,-,-⟩
  exact ⟨h1,O',_,h2,HSX0.out⟩)
 clear hco hm6 hlt6 H5 hS hSL HSX0
 go_wp2_with fail
 with_reducible refine HCP.out.mono ?_
 rintro e w7 ⟨rfl,O2,M2,h7,hs7⟩
 have H7:=zh h7
 have HS7:=zh hs7
 clear h7 hs7 HCP H6
 go_wp2_with fail
 rw [run_row_new (by simp [HSL.out]) (bv_one _)]
 obtain ⟨kb,hkb⟩:∃ kb,kb=w7.heap.size:=⟨_,rfl⟩
 rw [<- hkb]
 generalize hw8:World.setRow _ kb (bv S).toArray=w8
 have HK8:=zh (show w8.heap[kb]? = some (.cells (bv S).toArray 47 (0,0)) by rw [<- hw8,hkb];exact setRow_heap _ _ _ _ _ _ (heap_alloc_new w7 _))
 have hm8:Mod No w7 w8:=by rw [<- hw8];exact ((Mod.refl No w7).alloc _).setRow (fun e=>by omega) _
 have H8:=zh (H7.out.stay hm8)
 clear hw8 hm8 hkb H7
 go_upto_region 10 with fail
 go_upto_region 11 with fail
 obtain ⟨g,hg⟩:∃ g,g=w8.heap.size:=⟨_,rfl⟩
 rw [<- hg]
 generalize hw9:World.alloc w8 _=w9
 have HG9:=zh (show w9.heap[g]? = some (.cells #[.string ⟨#[]⟩,.string ⟨#[]⟩,.slice none 0 0,.slice none 0 0] 38 (0,0)) by rw [<- hw9,hg];exact heap_alloc_new w8 _)
 have hm9:Mod No w8 w9:=by rw [<- hw9];exact (Mod.refl No w8).alloc _
 have HK9:=zh (hm9.keep HK8.out (fun f=>f))
 have H9:=zh (H8.out.stay hm9)
 have HGO:=zh (show (∀ q,O2 q->q < g)/\w.heap.size<=g/\g < w9.heap.size from ⟨fun q h=>by rw [hg];exact H8.out.high q h,by rw [hg];exact H8.out.mod.size,lt_of_heap HG9.out⟩)
 clear hw9 hm9 hg H8 HK8
 refine wp_region_lit ?_
 refine wpList_load_row rfl 47 _ rfl kb rfl 47 (bv S).toArray (0,0) _ HK9.out underlying47 rfl (key_size HSL.out) ?_
 refine Great.wpList_runTo rfl (some 81) rfl (.slice (some ⟨w9.heap.size,0,none⟩) 1 1) (w9.alloc (.cells (keyCells [S]).toArray 47)) (by apply ybuild1 HSL.out (.tmp 80) <;> rfl) ?_
 obtain ⟨kg,hkg⟩:∃ g,g=w9.heap.size:=⟨_,rfl⟩
 obtain ⟨wA,hwA⟩:∃ z,z=w9.alloc (.cells (keyCells [S]).toArray 47):=⟨_,rfl⟩
 rw [<- hkg,<- hwA]
 have HKG:=zh (show wA.heap[kg]? = some (.cells (keyCells [S]).toArray 47 (0,0)) by rw [hwA,hkg];exact heap_alloc_new _ _)
 have hmA:Mod No w9 wA:=by rw [hwA];exact (Mod.refl No w9).alloc _
 have HA10:=zh (H9.out.stay hmA)
 have HGA:=zh (hmA.keep HG9.out (fun f=>f))
 have HKN2:=zh (show g < kg/\(∀ q,O2 q->q < kg) from ⟨by rw [hkg];exact HGO.out.2.2,fun q h=>by rw [hkg];exact H9.out.high q h⟩)
 clear hkg hwA hmA H9 HG9 HK9
 have c2:=cell_ofA HGA.out (i:=2) rfl
 have f2:=frozen_of 2 HGA.out
 go_wp2_with fail
 obtain ⟨wB,hwB⟩:∃ y,y=wA.setCell ⟨g,2,none⟩ (.slice (some ⟨kg,0,none⟩) 1 1):=⟨_,rfl⟩
 have hgB:wB.heap[g]? = some (.cells #[.string ⟨#[]⟩,.string ⟨#[]⟩,.slice (some ⟨kg,0,none⟩) 1 1,.slice none 0 0] 38 (0,0)):=by rw [hwB,heap_setCell HGA.out];rfl
 have hmB:Mod (fun p=>p=g) wA wB:=by rw [hwB];exact Mod.cell1 wA g 2 _
 have HWB:=zh (show WtAt wB g O2 [] [] S [] from ⟨.slice (some ⟨kg,0,none⟩) 1 1,.slice none 0 0,hgB,.slice (some ⟨kg,0,none⟩) 1 1,.slice none 0 0,[],rfl,(fun T hT=>by rw [List.mem_singleton.1 hT];exact HSL.out),SvX.of (.inr ⟨kg,0,1,_,(0,0),rfl,Nat.le_refl _,by decide,(fun e=>by
   rcases e with e | e
   ·exact absurd (HKN2.out.2 kg e) (Nat.lt_irrefl _)
   ·have:=HKN2.out.1;omega),hmB.keep HKG.out (fun e=>by have:=HKN2.out.1;omega),by simp,fun i hi=>by simp⟩:Sl wB _ 47 _ _ _),rfl,⟨⟨none,0,rfl⟩,.inl ⟨rfl,rfl⟩⟩,fun y hy=>by cases hy⟩)
 have HSB:=zh (HA10.out.keepM hmB (fun q e f=>by have:=HGO.out.1 q e;have f:q=g:=f;omega) (fun q cur fz e h=>by rw [show q=g from e,HGA.out] at h;cases h) (fun q hq e=>by have:=HGO.out.2.1;have e:q=g:=e;omega))
 have HGN:=zh (show w.heap.size<=g/\¬ O2 g from ⟨HGO.out.2.1,fun f=>by have:=HGO.out.1 g f;omega⟩)
 have HGW:=zh (lt_of_heap hgB)
 have HWBE:=zh hwB
 clear hgB hmB c2 f2 HA10 HGA HKG HKN2 HGO hwB
 rw [<- HWBE.out]
 go_loopw [21] (fun q21 wr=>∃ (i n c:Nat) (O:Nat->Prop) (M:Mt) (wm wl tb:List UInt8) (wt:Tr),i<=2/\q21=.int .i64 (i:Int)/\Sto w wr 2000 512 b1 s1 O n M c/\SX M S ar wm wl tb/\filesD tb=wt/\WtAt wr g O wm wl S wt/\¬ O g/\n<=2+3*i/\c<=1+i/\g < wr.heap.size) (fun q _=>2 - (intOf q).toNat)
 case atStart=>exact ⟨0,2,1,O2,M2,[],[],[],[],by omega,rfl,HSB.out,HS7.out,rfl,HWB.out,HGN.out.2,by omega,by omega,HGW.out⟩
 case round =>
  obtain ⟨i,n,c,O,M,wm,wl,tb,wt,hi,rfl,hsto,hsx,hfd,hwt,hog,hn,hc,hgw⟩:=hrel
  have HST:=zh hsto
  have HSX:=zh hsx
  have HFD:=zh hfd
  have HWT:=zh hwt
  have HOG:=zh hog
  have HGR:=zh hgw
  clear hsto hsx hfd hwt hog hgw HWB HSB HS7 HGW HWBE
  rcases (by omega:i=0\/i=1\/i=2) with rfl | rfl | rfl
  ·skip
   have HSV:=zh (show Calls prog 10 #[.pointer (some ⟨s1,0,none⟩),.string PM,.string PL,.slice va xs.length vc,.slice none 0 0] wr _ from by
    have h9:=save_sx HST.out HSX.out (by decide) m l (by have:=HLN.out;omega) (by have:=HLN.out;omega) xs (.slice va xs.length vc) (HV.out.kn HST.out.mod) (fun x hx=>(HX.out x hx).no HST.out.mod) HBL.out.1 HBL.out.2 (by omega) (by omega) (HGL.out.stay HST.out.mod (fun f=>f))
    rw [HPP.out.1,HPP.out.2.1]
    exact h9)
   have HBO:=zh (of_both (l:=xs.map FlX.f) (by rw [List.length_map];exact HBL.out.1) (fun f hf=>by obtain ⟨x,hx,rfl⟩:=List.mem_map.1 hf;exact (HBL.out.2 x hx).2))
   have HCD:=zh (ofR_code (xs.map FlX.f) [] [])
   have HOFF:=zh (fun W (hm:Mod No w W)=>rof_any xs (.slice va xs.length vc) W (HV.out.kn hm) (fun x hx=>(HX.out x hx).no hm) HBL.out.1 (fun x hx=>⟨by have:=(HBL.out.2 x hx).1;omega,(HBL.out.2 x hx).2⟩))
   go_wp2_with fail
   with_reducible refine HSV.out.mono ?_
   rintro e w1 hsv
   unfold SavX at hsv
   cases ho:ofT (xs.map FlX.f) with
   | inl t =>
    rw [ho] at hsv
    obtain ⟨rfl,O',M',h1,hsx1,hsm,hlow,hmd⟩:=hsv
    have HT1:=zh h1
    have HX1:=zh hsx1
    have HF1:=zh (files_tree hsm)
    have HG1:=zh (show g < w1.heap.size from Nat.lt_of_lt_of_le HGR.out hmd.size)
    have HW1:=zh (HWT.out.save hmd HOG.out hlow)
    have HO1:=zh (show ¬ O' g from fun f=>HOG.out (hlow g HGR.out f))
    have HOF:=zh (HOFF.out w1 h1.mod)
    have hor:=HBO.out.inl ho
    rw [hor] at HOF
    clear h1 hsx1 hsm hlow hmd hor ho HSV HWT HST HOFF HBO HCD HSX HFD HOG HGR
    go_wp2_with fail
    with_reducible refine HOF.out.mono ?_
    rintro e w2 ⟨hro,hm2⟩
    unfold RofPost at hro
    obtain ⟨q,hq,rfl,htr⟩:=hro
    have HB2:=zh hq
    have HM2:=zh hm2
    have HR2:=zh htr
    clear hq hm2 htr HOF
    go_upto_region 21 with fail
    obtain ⟨wD,hwD⟩:∃ y,y=w2.drew:=⟨_,rfl⟩
    have hmD:Mod No w1 wD:=by rw [hwD];exact HM2.out.drew
    have HWTD:=zh (HW1.out.no hmD)
    have HRD:=zh (HR2.out.no (by rw [hwD];exact (Mod.refl No w2).drew:Mod No w2 wD))
    have HTD:=zh (HT1.out.stay hmD)
    obtain ⟨kv,tv,hg1,-⟩:=id HWTD.out
    obtain ⟨tv',zs,hq1,-,hz3,-⟩:=id HRD.out
    obtain ⟨ta',tc',rfl⟩:=hz3.len
    obtain ⟨tn',htn⟩:∃ n,n=zs.length:=⟨_,rfl⟩
    rw [<- htn] at hq1
    have hgq:g ≠ q:=by have:=HG1.out;have:=HB2.out;omega
    obtain ⟨w71,h71⟩:∃ y,y=wD.setCell ⟨g,0,none⟩ (.string PM):=⟨_,rfl⟩
    obtain ⟨w72,h72⟩:∃ y,y=w71.setCell ⟨g,1,none⟩ (.string PL):=⟨_,rfl⟩
    obtain ⟨w73,h73⟩:∃ y,y=w72.setCell ⟨g,3,none⟩ (.slice ta' tn' tc'):=⟨_,rfl⟩
    have hg71:w71.heap[g]? = some (.cells #[.string PM,strV wl,kv,tv] 38 (0,0)):=by rw [h71,heap_setCell hg1];rfl
    have hg72:w72.heap[g]? = some (.cells #[.string PM,.string PL,kv,tv] 38 (0,0)):=by rw [h72,heap_setCell hg71];rfl
    have hg73:w73.heap[g]? = some (.cells #[.string PM,.string PL,kv,.slice ta' tn' tc'] 38 (0,0)):=by rw [h73,heap_setCell hg72];rfl
    have m71:Mod (fun p=>p=g) wD w71:=by rw [h71];exact Mod.cell1 wD g 0 _
    have m72:Mod (fun p=>p=g) wD w72:=by rw [h72];exact m71.one (Mod.cell1 w71 g 1 _)
    have m73:Mod (fun p=>p=g) wD w73:=by rw [h73];exact m72.one (Mod.cell1 w72 g 3 _)
    have HQD:=zh (show ∀ W,Mod (fun p=>p=g) wD W->W.cell? ⟨q,0,none⟩=some (.slice ta' tn' tc') from fun W hW=>cell_ofA (hW.keep hq1 (fun e=>hgq e.symm)) rfl)
    have HWT3:=zh (show WtAt w73 g O' m l S t from HWTD.out.turn HRD.out (fun k e=>HT1.out.high k e) HG1.out m73 kv tv (.slice ta' tn' tc') hg1 hq1 (by
     rw [hg73,HPP.out.1,HPP.out.2.1]))
    have HT3:=zh (HTD.out.keepM m73 (fun p e f=>by have f:p=g:=f;subst f;exact HO1.out e) (fun p cur fz e h=>by rw [show p=g from e,hg1] at h;cases h) (fun p hp e=>by have:=HGN.out.1;have e:p=g:=e;omega))
    have HG73:=zh hg73
    have HH:=zh (And.intro hg1 (And.intro hg71 (And.intro hg72 (And.intro h71 (And.intro h72 h73)))))
    have HMM:=zh (And.intro m71 (And.intro m72 m73))
    have HWD:=zh hwD
    have hS0:=Mod.refl (fun p=>p=g) wD
    clear hwD hmD hg1 hq1 hz3 htn h71 h72 h73 hg71 hg72 hg73 m71 m72 m73 HWTD HRD HTD HM2 HR2 HT1 HW1
    refine wp_region_T (fun w'=>Mod (fun p=>p=g) wD w') 99 (by kernel_rfl) ?_
    rw [<- HWD.out]
    refine yT 0 (some 107) ?_ hS0 ?_ ?_
    rotate_left
    ·(intro w' hSw;go_simp;try with_reducible rfl)
    simp only [Act.put,yB,yC,yD]
    refine yT 1 (some 108) ?_ hS0 ?_ ?_
    rotate_left
    ·(intro w' hSw;go_simp;try with_reducible rfl)
    simp only [Act.put,yB,yC,yD]
    refine yT 2 (some 109) ?_ hS0 ?_ ?_
    rotate_left
    ·(intro w' hSw;go_simp;try with_reducible rfl)
    simp only [Act.put,yB,yC,yD]
    refine yT 3 (some 110) ?_ hS0 ?_ ?_
    rotate_left
    ·(intro w' hSw;go_simp;try with_reducible rfl)
    simp only [Act.put,yB,yC,yD]
    refine yT 4 (some 111) ?_ hS0 ?_ ?_
    rotate_left
    ·(intro w' hSw;go_simp;try with_reducible rfl)
    simp only [Act.put,yB,yC,yD]
    refine yT 5 (some 112) (.slice ta' tn' tc') hS0 ?_ ?_
    ·(intro w' hSw;have q0:=HQD.out w' hSw;go_simp;try with_reducible rfl)
    simp only [Act.put,yB,yC,yD]
    refine yT 6 (some 113) ?_ hS0 ?_ ?_
    rotate_left
    ·(intro w' hSw;go_simp;try with_reducible rfl)
    simp only [Act.put,yB,yC,yD]
    refine wpAnyT_one 7 rfl (by kernel_rfl) rfl ?_
    intro K hK
    have k0:=HH.out.1
    have c7:=cell_ofA k0 (i:=0) rfl
    have f7:=frozen_of 0 k0
    clear k0
    go_simp
    rw [<- HH.out.2.2.2.1]
    clear c7 f7
    show K _ _
    have hS1:=HMM.out.1
    refine hK.out _ _ (fun _=>hS1) ?_
    clear hK K
    refine yT 8 (some 114) ?_ hS1 ?_ ?_
    rotate_left
    ·(intro w' hSw;go_simp;try with_reducible rfl)
    simp only [Act.put,yB,yC,yD]
    refine wpAnyT_one 9 rfl (by kernel_rfl) rfl ?_
    intro K hK
    have k0:=HH.out.2.1
    have c7:=cell_ofA k0 (i:=1) rfl
    have f7:=frozen_of 1 k0
    clear k0
    go_simp
    rw [<- HH.out.2.2.2.2.1]
    clear c7 f7
    show K _ _
    have hS2:=HMM.out.2.1
    refine hK.out _ _ (fun _=>hS2) ?_
    clear hK K
    refine yT 10 (some 115) ?_ hS2 ?_ ?_
    rotate_left
    ·(intro w' hSw;go_simp;try with_reducible rfl)
    simp only [Act.put,yB,yC,yD]
    refine wpAnyT_one 11 rfl (by kernel_rfl) rfl ?_
    intro K hK
    have k0:=HH.out.2.2.1
    have c7:=cell_ofA k0 (i:=3) rfl
    have f7:=frozen_of 3 k0
    clear k0
    go_simp
    rw [<- HH.out.2.2.2.2.2]
    clear c7 f7
    show K _ _
    have hS3:=HMM.out.2.2
    refine hK.out _ _ (fun _=>hS3) ?_
    clear hK K
    refine wpAnyT_done (by kernel_rfl) ?_ _
    clear hS0 hS1 hS2 hS3
    go_wp2_with fail
    obtain ⟨wE,hwE⟩:∃ y,y=w73.drew:=⟨_,rfl⟩
    have hmE:Mod No w73 wE:=by rw [hwE];exact (Mod.refl No w73).drew
    have HTE:=zh (HT3.out.stay hmE)
    have HWE:=zh (HWT3.out.no hmE)
    have HGE:=zh (show g < wE.heap.size from Nat.lt_of_lt_of_le (lt_of_heap HG73.out) hmE.size)
    have HLD:=zh (show ∀ w',Mod No wE w'->Calls prog 13 #[.pointer (some ⟨s1,0,none⟩)] w' fun e w''=>(∃ v,e=.returned v/\StaAt w'' (fun q=>q < w'.heap.size) v m l [S] t)/\Mod No w' w'' from fun w' hm=>by
     have h9:=load_sx (HTE.out.stay hm) HX1.out HS.out.symm (by have:=HLN.out;omega) (by omega)
     rw [HF1.out] at h9
     exact h9)
    obtain ⟨kv9,tv9,hgE,hsE⟩:=id HWE.out
    have HG9:=zh hgE
    have HS9:=zh hsE
    have HWD:=zh hwE
    have hS0:=Mod.refl No wE
    clear hwE hmE hgE hsE
    refine wp_region_T (fun w'=>Mod No wE w') 99 (by kernel_rfl) ?_
    rw [<- HWD.out]
    refine yT 0 (some 116) ?_ hS0 ?_ ?_
    rotate_left
    ·(intro w' hSw;go_simp;try with_reducible rfl;try simp)
    simp only [Act.put,yB,yC,yD]
    refine yT 1 (some 117) (.bool true) hS0 ?_ ?_
    ·(intro w' hSw;go_simp;try with_reducible rfl;try simp)
    simp only [Act.put,yB,yC,yD]
    refine yT 2 (some 118) ?_ hS0 ?_ ?_
    rotate_left
    ·(intro w' hSw;go_simp;try with_reducible rfl;try simp)
    simp only [Act.put,yB,yC,yD]
    refine yT 3 (some 119) (.bool true) hS0 ?_ ?_
    ·(intro w' hSw;go_simp;try with_reducible rfl;try simp)
    simp only [Act.put,yB,yC,yD]
    refine yT 4 (some 120) (.bool false) hS0 ?_ ?_
    ·(intro w' hSw;go_simp;try with_reducible rfl;try simp)
    simp only [Act.put,yB,yC,yD]
    refine yT 5 (some 121) ?_ hS0 ?_ ?_
    rotate_left
    ·(intro w' hSw;go_simp;try with_reducible rfl;try simp)
    simp only [Act.put,yB,yC,yD]
    refine yT 6 (some 122) ?_ hS0 ?_ ?_
    rotate_left
    ·(intro w' hSw;go_simp;try with_reducible rfl;try simp)
    simp only [Act.put,yB,yC,yD]
    refine yT 7 (some 123) (.bool false) hS0 ?_ ?_
    ·(intro w' hSw;go_simp;try with_reducible rfl;try simp)
    simp only [Act.put,yB,yC,yD]
    refine yT 8 (some 124) ?_ hS0 ?_ ?_
    rotate_left
    ·(intro w' hSw;go_simp;try with_reducible rfl;try simp)
    simp only [Act.put,yB,yC,yD]
    refine wpAnyT_takeV 9 (some 125) undef rfl rfl (by kernel_rfl) (fun _ _ _ h=>h) hS0 (Or.inr ⟨by rfl,rfl⟩) ?_
    simp only [Act.put,yB,yC,yD]
    refine wpAnyT_takeV 10 (some 126) undef rfl rfl (by kernel_rfl) (fun _ _ _ h=>h) hS0 (Or.inr ⟨by rfl,rfl⟩) ?_
    simp only [Act.put,yB,yC,yD]
    refine yT 11 (some 127) (.bool false) hS0 ?_ ?_
    ·(intro w' hSw;go_simp;try with_reducible rfl;try simp)
    simp only [Act.put,yB,yC,yD]
    refine yT 12 (some 128) (.bool false) hS0 ?_ ?_
    ·(intro w' hSw;go_simp;try with_reducible rfl;try simp)
    simp only [Act.put,yB,yC,yD]
    refine yT 13 (some 129) ?_ hS0 ?_ ?_
    rotate_left
    ·(intro w' hSw;go_simp;try with_reducible rfl;try simp)
    simp only [Act.put,yB,yC,yD]
    refine yT 14 (some 130) ?_ hS0 ?_ ?_
    rotate_left
    ·(intro w' hSw;go_simp;try with_reducible rfl;try simp)
    simp only [Act.put,yB,yC,yD]
    refine yT 16 (some 132) (.agg #[strV m,strV l,kv9,tv9]) hS0 ?_ ?_
    ·(intro w' hSw;apply yloadv (load_want (hSw.keep HG9.out (fun f=>f))) (.tmp 20) <;> rfl)
    simp only [Act.put,yB,yC,yD]
    refine wpAnyT_oneW 15 rfl (by kernel_rfl) (by rfl) ?_
    intro K hK
    go_simp
    go_at_call 13
    with_reducible refine (HLD.out _ hS0).mono ?_
    rintro e wL ⟨⟨lv,rfl,hst⟩,hmL⟩
    have HLV:=zh hst
    have HML:=zh hmL
    clear hst hmL
    show K _ _
    have hS1:=hS0.trans HML.out
    refine hK.out _ _ (fun _=>hS1) ?_
    clear hK K
    refine wpAnyT_oneW 17 rfl (by kernel_rfl) (by rfl) ?_
    intro K hK
    go_simp
    go_at_call 12
    with_reducible refine (hstate_any HLV.out (HS9.out.stay hS1)).mono ?_
    rintro e wM ⟨rfl,hmM⟩
    have HMN:=zh hmM
    clear hmM
    show K _ _
    have hS2:=hS1.trans HMN.out
    refine hK.out _ _ (fun _=>hS2) ?_
    clear hK K
    refine yT 18 (some 134) (.bool false) hS2 ?_ ?_
    ·(intro w' hSw;go_simp;try with_reducible rfl;try simp)
    simp only [Act.put,yB,yC,yD]
    refine yT 19 (some 135) (.bool false) hS2 ?_ ?_
    ·(intro w' hSw;go_simp;try with_reducible rfl;try simp)
    simp only [Act.put]
    refine wpAnyT_done (by kernel_rfl) ?_ _
    have HTF:=zh (HTE.out.stay hS2)
    have HWF:=zh (HWE.out.no hS2)
    have HGF:=zh (Nat.lt_of_lt_of_le HGE.out hS2.size)
    clear hS0 hS1 hS2
    go_wp2_with fail
    exact ⟨⟨1,n+3,c+1,O',M',m,l,treeB t,t,by omega,by first | rfl | simp,HTF.out,HX1.out,HF1.out,HWF.out,HO1.out,by omega,by omega,HGF.out⟩,by decide⟩
   | inr c0 =>
    rw [ho] at hsv
    obtain ⟨rfl,hm1⟩:=hsv
    obtain ⟨d,hor⟩:=HBO.out.inr ho
    have hd0:¬ (d:Int)=0:=by have:=HCD.out d hor;omega
    have hd1:((d:Int) == 0)=false:=by rw [beq_eq_false_iff_ne];exact hd0
    have HM1:=zh hm1
    have HOF:=zh (HOFF.out w1 (HST.out.mod.trans hm1))
    rw [hor] at HOF
    clear hm1 hor ho HSV HOFF HBO HCD
    go_wp2_with fail
    with_reducible refine HOF.out.mono ?_
    rintro e w2 ⟨hro,hm2⟩
    have hro:e=.returned (.tuple #[.pointer none,.int .i64 (d:Int)]):=hro
    subst hro
    have hm12:=HM1.out.trans hm2
    have HST2:=zh (HST.out.stay hm12)
    have HWT2:=zh (HWT.out.no hm12)
    have HGS2:=zh (show g < w2.heap.size from Nat.lt_of_lt_of_le HGR.out hm12.size)
    clear hm12 hm2 HM1 HOF HST HWT
    go_wp2_with fail
    obtain ⟨wE,hwE⟩:∃ y,y=w2.drew:=⟨_,rfl⟩
    have hmE:Mod No w2 wE:=by rw [hwE];exact (Mod.refl No w2).drew
    have HTE:=zh (HST2.out.stay hmE)
    have HWE:=zh (HWT2.out.no hmE)
    have HGE:=zh (show g < wE.heap.size from Nat.lt_of_lt_of_le HGS2.out hmE.size)
    have HLD:=zh (show ∀ w',Mod No wE w'->Calls prog 13 #[.pointer (some ⟨s1,0,none⟩)] w' fun e w''=>(∃ v,e=.returned v/\StaAt w'' (fun q=>q < w'.heap.size) v wm wl [S] wt)/\Mod No w' w'' from fun w' hm=>by
     have h9:=load_sx (HTE.out.stay hm) HSX.out HS.out.symm (by have:=HLN.out;omega) (by omega)
     rw [HFD.out] at h9
     exact h9)
    obtain ⟨kv9,tv9,hgE,hsE⟩:=id HWE.out
    have HG9:=zh hgE
    have HS9:=zh hsE
    have HWD:=zh hwE
    have hS0:=Mod.refl No wE
    clear hwE hmE hgE hsE
    refine wp_region_T (fun w'=>Mod No wE w') 99 (by kernel_rfl) ?_
    rw [<- HWD.out]
    refine yT 0 (some 116) ?_ hS0 ?_ ?_
    rotate_left
    ·(intro w' hSw;go_simp;try with_reducible rfl;try simp)
    simp only [Act.put,yB,yC,yD]
    refine yT 1 (some 117) (.bool false) hS0 ?_ ?_
    ·(intro w' hSw;go_simp;try with_reducible rfl;try simp)
    simp only [Act.put,yB,yC,yD]
    refine yT 2 (some 118) ?_ hS0 ?_ ?_
    rotate_left
    ·(intro w' hSw;go_simp;try with_reducible rfl;try simp)
    simp only [Act.put,yB,yC,yD]
    refine yT 3 (some 119) (.bool false) hS0 ?_ ?_
    ·(intro w' hSw;go_simp;try with_reducible rfl;try simp)
    simp only [Act.put,yB,yC,yD]
    refine yT 4 (some 120) (.bool false) hS0 ?_ ?_
    ·(intro w' hSw;go_simp;try with_reducible rfl;try simp)
    simp only [Act.put,yB,yC,yD]
    refine yT 5 (some 121) ?_ hS0 ?_ ?_
    rotate_left
    ·(intro w' hSw;go_simp;try with_reducible rfl;try simp)
    simp only [Act.put,yB,yC,yD]
    refine yT 6 (some 122) ?_ hS0 ?_ ?_
    rotate_left
    ·(intro w' hSw;go_simp;try with_reducible rfl;try simp)
    simp only [Act.put,yB,yC,yD]
    refine yT 7 (some 123) (.bool true) hS0 ?_ ?_
    ·(intro w' hSw;go_simp;try with_reducible rfl;try simp)
    simp only [Act.put,yB,yC,yD]
    refine yT 8 (some 124) ?_ hS0 ?_ ?_
    rotate_left
    ·(intro w' hSw;go_simp;try with_reducible rfl;try simp)
    simp only [Act.put,yB,yC,yD]
    refine yT 9 (some 125) ?_ hS0 ?_ ?_
    rotate_left
    ·(intro w' hSw;go_simp;try with_reducible rfl;try simp)
    simp only [Act.put,yB,yC,yD]
    refine yT 10 (some 126) (.bool false) hS0 ?_ ?_
    ·(intro w' hSw;go_simp;try with_reducible rfl;try simp)
    simp only [Act.put,yB,yC,yD]
    refine yT 11 (some 127) (.bool false) hS0 ?_ ?_
    ·(intro w' hSw;go_simp;try with_reducible rfl;try simp)
    simp only [Act.put,yB,yC,yD]
    refine yT 12 (some 128) (.bool false) hS0 ?_ ?_
    ·(intro w' hSw;go_simp;try with_reducible rfl;try simp)
    simp only [Act.put,yB,yC,yD]
    refine yT 13 (some 129) ?_ hS0 ?_ ?_
    rotate_left
    ·(intro w' hSw;go_simp;try with_reducible rfl;try simp)
    simp only [Act.put,yB,yC,yD]
    refine yT 14 (some 130) ?_ hS0 ?_ ?_
    rotate_left
    ·(intro w' hSw;go_simp;try with_reducible rfl;try simp)
    simp only [Act.put,yB,yC,yD]
    refine yT 16 (some 132) (.agg #[strV wm,strV wl,kv9,tv9]) hS0 ?_ ?_
    ·(intro w' hSw;apply yloadv (load_want (hSw.keep HG9.out (fun f=>f))) (.tmp 20) <;> rfl)
    simp only [Act.put,yB,yC,yD]
    refine wpAnyT_oneW 15 rfl (by kernel_rfl) (by rfl) ?_
    intro K hK
    go_simp
    go_at_call 13
    with_reducible refine (HLD.out _ hS0).mono ?_
    rintro e wL ⟨⟨lv,rfl,hst⟩,hmL⟩
    have HLV:=zh hst
    have HML:=zh hmL
    clear hst hmL
    show K _ _
    have hS1:=hS0.trans HML.out
    refine hK.out _ _ (fun _=>hS1) ?_
    clear hK K
    refine wpAnyT_oneW 17 rfl (by kernel_rfl) (by rfl) ?_
    intro K hK
    go_simp
    go_at_call 12
    with_reducible refine (hstate_any HLV.out (HS9.out.stay hS1)).mono ?_
    rintro e wM ⟨rfl,hmM⟩
    have HMN:=zh hmM
    clear hmM
    show K _ _
    have hS2:=hS1.trans HMN.out
    refine hK.out _ _ (fun _=>hS2) ?_
    clear hK K
    refine yT 18 (some 134) (.bool false) hS2 ?_ ?_
    ·(intro w' hSw;go_simp;try with_reducible rfl;try simp)
    simp only [Act.put,yB,yC,yD]
    refine yT 19 (some 135) (.bool false) hS2 ?_ ?_
    ·(intro w' hSw;go_simp;try with_reducible rfl;try simp)
    simp only [Act.put]
    refine wpAnyT_done (by kernel_rfl) ?_ _
    have HTF:=zh (HTE.out.stay hS2)
    have HWF:=zh (HWE.out.no hS2)
    have HGF:=zh (Nat.lt_of_lt_of_le HGE.out hS2.size)
    clear hS0 hS1 hS2
    go_wp2_with fail
    exact ⟨⟨1,n,c,O,M,wm,wl,tb,wt,by omega,by first | rfl | simp,HTF.out,HSX.out,HFD.out,HWF.out,HOG.out,by omega,by omega,HGF.out⟩,by decide⟩
  ·skip
   have HSV:=zh (show Calls prog 10 #[.pointer (some ⟨s1,0,none⟩),.string PM2,.string PL2,.slice va2 xs2.length vc2,.slice none 0 0] wr _ from by
    have h9:=save_sx HST.out HSX.out (by decide) m2 l2 (by have:=HLN.out;omega) (by have:=HLN.out;omega) xs2 (.slice va2 xs2.length vc2) (HV2.out.kn HST.out.mod) (fun x hx=>(HX2.out x hx).no HST.out.mod) HBL2.out.1 HBL2.out.2 (by omega) (by omega) (HGL.out.stay HST.out.mod (fun f=>f))
    rw [HPP.out.2.2.1,HPP.out.2.2.2]
    exact h9)
   have HBO:=zh (of_both (l:=xs2.map FlX.f) (by rw [List.length_map];exact HBL2.out.1) (fun f hf=>by obtain ⟨x,hx,rfl⟩:=List.mem_map.1 hf;exact (HBL2.out.2 x hx).2))
   have HCD:=zh (ofR_code (xs2.map FlX.f) [] [])
   have HOFF:=zh (fun W (hm:Mod No w W)=>rof_any xs2 (.slice va2 xs2.length vc2) W (HV2.out.kn hm) (fun x hx=>(HX2.out x hx).no hm) HBL2.out.1 (fun x hx=>⟨by have:=(HBL2.out.2 x hx).1;omega,(HBL2.out.2 x hx).2⟩))
   go_wp2_with fail
   with_reducible refine HSV.out.mono ?_
   rintro e w1 hsv
   unfold SavX at hsv
   cases ho:ofT (xs2.map FlX.f) with
   | inl t =>
    rw [ho] at hsv
    obtain ⟨rfl,O',M',h1,hsx1,hsm,hlow,hmd⟩:=hsv
    have HT1:=zh h1
    have HX1:=zh hsx1
    have HF1:=zh (files_tree hsm)
    have HG1:=zh (show g < w1.heap.size from Nat.lt_of_lt_of_le HGR.out hmd.size)
    have HW1:=zh (HWT.out.save hmd HOG.out hlow)
    have HO1:=zh (show ¬ O' g from fun f=>HOG.out (hlow g HGR.out f))
    have HOF:=zh (HOFF.out w1 h1.mod)
    have hor:=HBO.out.inl ho
    rw [hor] at HOF
    clear h1 hsx1 hsm hlow hmd hor ho HSV HWT HST HOFF HBO HCD HSX HFD HOG HGR
    go_wp2_with fail
    with_reducible refine HOF.out.mono ?_
    rintro e w2 ⟨hro,hm2⟩
    unfold RofPost at hro
    obtain ⟨q,hq,rfl,htr⟩:=hro
    have HB2:=zh hq
    have HM2:=zh hm2
    have HR2:=zh htr
    clear hq hm2 htr HOF
    go_upto_region 21 with fail
    obtain ⟨wD,hwD⟩:∃ y,y=w2.drew:=⟨_,rfl⟩
    have hmD:Mod No w1 wD:=by rw [hwD];exact HM2.out.drew
    have HWTD:=zh (HW1.out.no hmD)
    have HRD:=zh (HR2.out.no (by rw [hwD];exact (Mod.refl No w2).drew:Mod No w2 wD))
    have HTD:=zh (HT1.out.stay hmD)
    obtain ⟨kv,tv,hg1,-⟩:=id HWTD.out
    obtain ⟨tv',zs,hq1,-,hz3,-⟩:=id HRD.out
    obtain ⟨ta',tc',rfl⟩:=hz3.len
    obtain ⟨tn',htn⟩:∃ n,n=zs.length:=⟨_,rfl⟩
    rw [<- htn] at hq1
    have hgq:g ≠ q:=by have:=HG1.out;have:=HB2.out;omega
    obtain ⟨w71,h71⟩:∃ y,y=wD.setCell ⟨g,0,none⟩ (.string PM2):=⟨_,rfl⟩
    obtain ⟨w72,h72⟩:∃ y,y=w71.setCell ⟨g,1,none⟩ (.string PL2):=⟨_,rfl⟩
    obtain ⟨w73,h73⟩:∃ y,y=w72.setCell ⟨g,3,none⟩ (.slice ta' tn' tc'):=⟨_,rfl⟩
    have hg71:w71.heap[g]? = some (.cells #[.string PM2,strV wl,kv,tv] 38 (0,0)):=by rw [h71,heap_setCell hg1];rfl
    have hg72:w72.heap[g]? = some (.cells #[.string PM2,.string PL2,kv,tv] 38 (0,0)):=by rw [h72,heap_setCell hg71];rfl
    have hg73:w73.heap[g]? = some (.cells #[.string PM2,.string PL2,kv,.slice ta' tn' tc'] 38 (0,0)):=by rw [h73,heap_setCell hg72];rfl
    have m71:Mod (fun p=>p=g) wD w71:=by rw [h71];exact Mod.cell1 wD g 0 _
    have m72:Mod (fun p=>p=g) wD w72:=by rw [h72];exact m71.one (Mod.cell1 w71 g 1 _)
    have m73:Mod (fun p=>p=g) wD w73:=by rw [h73];exact m72.one (Mod.cell1 w72 g 3 _)
    have HQD:=zh (show ∀ W,Mod (fun p=>p=g) wD W->W.cell? ⟨q,0,none⟩=some (.slice ta' tn' tc') from fun W hW=>cell_ofA (hW.keep hq1 (fun e=>hgq e.symm)) rfl)
    have HWT3:=zh (show WtAt w73 g O' m2 l2 S t from HWTD.out.turn HRD.out (fun k e=>HT1.out.high k e) HG1.out m73 kv tv (.slice ta' tn' tc') hg1 hq1 (by
     rw [hg73,HPP.out.2.2.1,HPP.out.2.2.2]))
    have HT3:=zh (HTD.out.keepM m73 (fun p e f=>by have f:p=g:=f;subst f;exact HO1.out e) (fun p cur fz e h=>by rw [show p=g from e,hg1] at h;cases h) (fun p hp e=>by have:=HGN.out.1;have e:p=g:=e;omega))
    have HG73:=zh hg73
    have HH:=zh (And.intro hg1 (And.intro hg71 (And.intro hg72 (And.intro h71 (And.intro h72 h73)))))
    have HMM:=zh (And.intro m71 (And.intro m72 m73))
    have HWD:=zh hwD
    have hS0:=Mod.refl (fun p=>p=g) wD
    clear hwD hmD hg1 hq1 hz3 htn h71 h72 h73 hg71 hg72 hg73 m71 m72 m73 HWTD HRD HTD HM2 HR2 HT1 HW1
    refine wp_region_T (fun w'=>Mod (fun p=>p=g) wD w') 99 (by kernel_rfl) ?_
    rw [<- HWD.out]
    refine yT 0 (some 107) ?_ hS0 ?_ ?_
    rotate_left
    ·(intro w' hSw;go_simp;try with_reducible rfl)
    simp only [Act.put,yB,yC,yD]
    refine yT 1 (some 108) ?_ hS0 ?_ ?_
    rotate_left
    ·(intro w' hSw;go_simp;try with_reducible rfl)
    simp only [Act.put,yB,yC,yD]
    refine yT 2 (some 109) ?_ hS0 ?_ ?_
    rotate_left
    ·(intro w' hSw;go_simp;try with_reducible rfl)
    simp only [Act.put,yB,yC,yD]
    refine yT 3 (some 110) ?_ hS0 ?_ ?_
    rotate_left
    ·(intro w' hSw;go_simp;try with_reducible rfl)
    simp only [Act.put,yB,yC,yD]
    refine yT 4 (some 111) ?_ hS0 ?_ ?_
    rotate_left
    ·(intro w' hSw;go_simp;try with_reducible rfl)
    simp only [Act.put,yB,yC,yD]
    refine yT 5 (some 112) (.slice ta' tn' tc') hS0 ?_ ?_
    ·(intro w' hSw;have q0:=HQD.out w' hSw;go_simp;try with_reducible rfl)
    simp only [Act.put,yB,yC,yD]
    refine yT 6 (some 113) ?_ hS0 ?_ ?_
    rotate_left
    ·(intro w' hSw;go_simp;try with_reducible rfl)
    simp only [Act.put,yB,yC,yD]
    refine wpAnyT_one 7 rfl (by kernel_rfl) rfl ?_
    intro K hK
    have k0:=HH.out.1
    have c7:=cell_ofA k0 (i:=0) rfl
    have f7:=frozen_of 0 k0
    clear k0
    go_simp
    rw [<- HH.out.2.2.2.1]
    clear c7 f7
    show K _ _
    have hS1:=HMM.out.1
    refine hK.out _ _ (fun _=>hS1) ?_
    clear hK K
    refine yT 8 (some 114) ?_ hS1 ?_ ?_
    rotate_left
    ·(intro w' hSw;go_simp;try with_reducible rfl)
    simp only [Act.put,yB,yC,yD]
    refine wpAnyT_one 9 rfl (by kernel_rfl) rfl ?_
    intro K hK
    have k0:=HH.out.2.1
    have c7:=cell_ofA k0 (i:=1) rfl
    have f7:=frozen_of 1 k0
    clear k0
    go_simp
    rw [<- HH.out.2.2.2.2.1]
    clear c7 f7
    show K _ _
    have hS2:=HMM.out.2.1
    refine hK.out _ _ (fun _=>hS2) ?_
    clear hK K
    refine yT 10 (some 115) ?_ hS2 ?_ ?_
    rotate_left
    ·(intro w' hSw;go_simp;try with_reducible rfl)
    simp only [Act.put,yB,yC,yD]
    refine wpAnyT_one 11 rfl (by kernel_rfl) rfl ?_
    intro K hK
    have k0:=HH.out.2.2.1
    have c7:=cell_ofA k0 (i:=3) rfl
    have f7:=frozen_of 3 k0
    clear k0
    go_simp
    rw [<- HH.out.2.2.2.2.2]
    clear c7 f7
    show K _ _
    have hS3:=HMM.out.2.2
    refine hK.out _ _ (fun _=>hS3) ?_
    clear hK K
    refine wpAnyT_done (by kernel_rfl) ?_ _
    clear hS0 hS1 hS2 hS3
    go_wp2_with fail
    obtain ⟨wE,hwE⟩:∃ y,y=w73.drew:=⟨_,rfl⟩
    have hmE:Mod No w73 wE:=by rw [hwE];exact (Mod.refl No w73).drew
    have HTE:=zh (HT3.out.stay hmE)
    have HWE:=zh (HWT3.out.no hmE)
    have HGE:=zh (show g < wE.heap.size from Nat.lt_of_lt_of_le (lt_of_heap HG73.out) hmE.size)
    have HLD:=zh (show ∀ w',Mod No wE w'->Calls prog 13 #[.pointer (some ⟨s1,0,none⟩)] w' fun e w''=>(∃ v,e=.returned v/\StaAt w'' (fun q=>q < w'.heap.size) v m2 l2 [S] t)/\Mod No w' w'' from fun w' hm=>by
     have h9:=load_sx (HTE.out.stay hm) HX1.out HS.out.symm (by have:=HLN.out;omega) (by omega)
     rw [HF1.out] at h9
     exact h9)
    obtain ⟨kv9,tv9,hgE,hsE⟩:=id HWE.out
    have HG9:=zh hgE
    have HS9:=zh hsE
    have HWD:=zh hwE
    have hS0:=Mod.refl No wE
    clear hwE hmE hgE hsE
    refine wp_region_T (fun w'=>Mod No wE w') 99 (by kernel_rfl) ?_
    rw [<- HWD.out]
    refine yT 0 (some 116) ?_ hS0 ?_ ?_
    rotate_left
    ·(intro w' hSw;go_simp;try with_reducible rfl;try simp)
    simp only [Act.put,yB,yC,yD]
    refine yT 1 (some 117) (.bool true) hS0 ?_ ?_
    ·(intro w' hSw;go_simp;try with_reducible rfl;try simp)
    simp only [Act.put,yB,yC,yD]
    refine yT 2 (some 118) ?_ hS0 ?_ ?_
    rotate_left
    ·(intro w' hSw;go_simp;try with_reducible rfl;try simp)
    simp only [Act.put,yB,yC,yD]
    refine yT 3 (some 119) (.bool true) hS0 ?_ ?_
    ·(intro w' hSw;go_simp;try with_reducible rfl;try simp)
    simp only [Act.put,yB,yC,yD]
    refine yT 4 (some 120) (.bool false) hS0 ?_ ?_
    ·(intro w' hSw;go_simp;try with_reducible rfl;try simp)
    simp only [Act.put,yB,yC,yD]
    refine yT 5 (some 121) ?_ hS0 ?_ ?_
    rotate_left
    ·(intro w' hSw;go_simp;try with_reducible rfl;try simp)
    simp only [Act.put,yB,yC,yD]
    refine yT 6 (some 122) ?_ hS0 ?_ ?_
    rotate_left
    ·(intro w' hSw;go_simp;try with_reducible rfl;try simp)
    simp only [Act.put,yB,yC,yD]
    refine yT 7 (some 123) (.bool false) hS0 ?_ ?_
    ·(intro w' hSw;go_simp;try with_reducible rfl;try simp)
    simp only [Act.put,yB,yC,yD]
    refine yT 8 (some 124) ?_ hS0 ?_ ?_
    rotate_left
    ·(intro w' hSw;go_simp;try with_reducible rfl;try simp)
    simp only [Act.put,yB,yC,yD]
    refine wpAnyT_takeV 9 (some 125) undef rfl rfl (by kernel_rfl) (fun _ _ _ h=>h) hS0 (Or.inr ⟨by rfl,rfl⟩) ?_
    simp only [Act.put,yB,yC,yD]
    refine wpAnyT_takeV 10 (some 126) undef rfl rfl (by kernel_rfl) (fun _ _ _ h=>h) hS0 (Or.inr ⟨by rfl,rfl⟩) ?_
    simp only [Act.put,yB,yC,yD]
    refine yT 11 (some 127) (.bool false) hS0 ?_ ?_
    ·(intro w' hSw;go_simp;try with_reducible rfl;try simp)
    simp only [Act.put,yB,yC,yD]
    refine yT 12 (some 128) (.bool false) hS0 ?_ ?_
    ·(intro w' hSw;go_simp;try with_reducible rfl;try simp)
    simp only [Act.put,yB,yC,yD]
    refine yT 13 (some 129) ?_ hS0 ?_ ?_
    rotate_left
    ·(intro w' hSw;go_simp;try with_reducible rfl;try simp)
    simp only [Act.put,yB,yC,yD]
    refine yT 14 (some 130) ?_ hS0 ?_ ?_
    rotate_left
    ·(intro w' hSw;go_simp;try with_reducible rfl;try simp)
    simp only [Act.put,yB,yC,yD]
    refine yT 16 (some 132) (.agg #[strV m2,strV l2,kv9,tv9]) hS0 ?_ ?_
    ·(intro w' hSw;apply yloadv (load_want (hSw.keep HG9.out (fun f=>f))) (.tmp 20) <;> rfl)
    simp only [Act.put,yB,yC,yD]
    refine wpAnyT_oneW 15 rfl (by kernel_rfl) (by rfl) ?_
    intro K hK
    go_simp
    go_at_call 13
    with_reducible refine (HLD.out _ hS0).mono ?_
    rintro e wL ⟨⟨lv,rfl,hst⟩,hmL⟩
    have HLV:=zh hst
    have HML:=zh hmL
    clear hst hmL
    show K _ _
    have hS1:=hS0.trans HML.out
    refine hK.out _ _ (fun _=>hS1) ?_
    clear hK K
    refine wpAnyT_oneW 17 rfl (by kernel_rfl) (by rfl) ?_
    intro K hK
    go_simp
    go_at_call 12
    with_reducible refine (hstate_any HLV.out (HS9.out.stay hS1)).mono ?_
    rintro e wM ⟨rfl,hmM⟩
    have HMN:=zh hmM
    clear hmM
    show K _ _
    have hS2:=hS1.trans HMN.out
    refine hK.out _ _ (fun _=>hS2) ?_
    clear hK K
    refine yT 18 (some 134) (.bool false) hS2 ?_ ?_
    ·(intro w' hSw;go_simp;try with_reducible rfl;try simp)
    simp only [Act.put,yB,yC,yD]
    refine yT 19 (some 135) (.bool false) hS2 ?_ ?_
    ·(intro w' hSw;go_simp;try with_reducible rfl;try simp)
    simp only [Act.put]
    refine wpAnyT_done (by kernel_rfl) ?_ _
    have HTF:=zh (HTE.out.stay hS2)
    have HWF:=zh (HWE.out.no hS2)
    have HGF:=zh (Nat.lt_of_lt_of_le HGE.out hS2.size)
    clear hS0 hS1 hS2
    go_wp2_with fail
    exact ⟨⟨2,n+3,c+1,O',M',m2,l2,treeB t,t,by omega,by first | rfl | simp,HTF.out,HX1.out,HF1.out,HWF.out,HO1.out,by omega,by omega,HGF.out⟩,by decide⟩
   | inr c0 =>
    rw [ho] at hsv
    obtain ⟨rfl,hm1⟩:=hsv
    obtain ⟨d,hor⟩:=HBO.out.inr ho
    have hd0:¬ (d:Int)=0:=by have:=HCD.out d hor;omega
    have hd1:((d:Int) == 0)=false:=by rw [beq_eq_false_iff_ne];exact hd0
    have HM1:=zh hm1
    have HOF:=zh (HOFF.out w1 (HST.out.mod.trans hm1))
    rw [hor] at HOF
    clear hm1 hor ho HSV HOFF HBO HCD
    go_wp2_with fail
    with_reducible refine HOF.out.mono ?_
    rintro e w2 ⟨hro,hm2⟩
    have hro:e=.returned (.tuple #[.pointer none,.int .i64 (d:Int)]):=hro
    subst hro
    have hm12:=HM1.out.trans hm2
    have HST2:=zh (HST.out.stay hm12)
    have HWT2:=zh (HWT.out.no hm12)
    have HGS2:=zh (show g < w2.heap.size from Nat.lt_of_lt_of_le HGR.out hm12.size)
    clear hm12 hm2 HM1 HOF HST HWT
    go_wp2_with fail
    obtain ⟨wE,hwE⟩:∃ y,y=w2.drew:=⟨_,rfl⟩
    have hmE:Mod No w2 wE:=by rw [hwE];exact (Mod.refl No w2).drew
    have HTE:=zh (HST2.out.stay hmE)
    have HWE:=zh (HWT2.out.no hmE)
    have HGE:=zh (show g < wE.heap.size from Nat.lt_of_lt_of_le HGS2.out hmE.size)
    have HLD:=zh (show ∀ w',Mod No wE w'->Calls prog 13 #[.pointer (some ⟨s1,0,none⟩)] w' fun e w''=>(∃ v,e=.returned v/\StaAt w'' (fun q=>q < w'.heap.size) v wm wl [S] wt)/\Mod No w' w'' from fun w' hm=>by
     have h9:=load_sx (HTE.out.stay hm) HSX.out HS.out.symm (by have:=HLN.out;omega) (by omega)
     rw [HFD.out] at h9
     exact h9)
    obtain ⟨kv9,tv9,hgE,hsE⟩:=id HWE.out
    have HG9:=zh hgE
    have HS9:=zh hsE
    have HWD:=zh hwE
    have hS0:=Mod.refl No wE
    clear hwE hmE hgE hsE
    refine wp_region_T (fun w'=>Mod No wE w') 99 (by kernel_rfl) ?_
    rw [<- HWD.out]
    refine yT 0 (some 116) ?_ hS0 ?_ ?_
    rotate_left
    ·(intro w' hSw;go_simp;try with_reducible rfl;try simp)
    simp only [Act.put,yB,yC,yD]
    refine yT 1 (some 117) (.bool false) hS0 ?_ ?_
    ·(intro w' hSw;go_simp;try with_reducible rfl;try simp)
    simp only [Act.put,yB,yC,yD]
    refine yT 2 (some 118) ?_ hS0 ?_ ?_
    rotate_left
    ·(intro w' hSw;go_simp;try with_reducible rfl;try simp)
    simp only [Act.put,yB,yC,yD]
    refine yT 3 (some 119) (.bool false) hS0 ?_ ?_
    ·(intro w' hSw;go_simp;try with_reducible rfl;try simp)
    simp only [Act.put,yB,yC,yD]
    refine yT 4 (some 120) (.bool false) hS0 ?_ ?_
    ·(intro w' hSw;go_simp;try with_reducible rfl;try simp)
    simp only [Act.put,yB,yC,yD]
    refine yT 5 (some 121) ?_ hS0 ?_ ?_
    rotate_left
    ·(intro w' hSw;go_simp;try with_reducible rfl;try simp)
    simp only [Act.put,yB,yC,yD]
    refine yT 6 (some 122) ?_ hS0 ?_ ?_
    rotate_left
    ·(intro w' hSw;go_simp;try with_reducible rfl;try simp)
    simp only [Act.put,yB,yC,yD]
    refine yT 7 (some 123) (.bool true) hS0 ?_ ?_
    ·(intro w' hSw;go_simp;try with_reducible rfl;try simp)
    simp only [Act.put,yB,yC,yD]
    refine yT 8 (some 124) ?_ hS0 ?_ ?_
    rotate_left
    ·(intro w' hSw;go_simp;try with_reducible rfl;try simp)
    simp only [Act.put,yB,yC,yD]
    refine yT 9 (some 125) ?_ hS0 ?_ ?_
    rotate_left
    ·(intro w' hSw;go_simp;try with_reducible rfl;try simp)
    simp only [Act.put,yB,yC,yD]
    refine yT 10 (some 126) (.bool false) hS0 ?_ ?_
    ·(intro w' hSw;go_simp;try with_reducible rfl;try simp)
    simp only [Act.put,yB,yC,yD]
    refine yT 11 (some 127) (.bool false) hS0 ?_ ?_
    ·(intro w' hSw;go_simp;try with_reducible rfl;try simp)
    simp only [Act.put,yB,yC,yD]
    refine yT 12 (some 128) (.bool false) hS0 ?_ ?_
    ·(intro w' hSw;go_simp;try with_reducible rfl;try simp)
    simp only [Act.put,yB,yC,yD]
    refine yT 13 (some 129) ?_ hS0 ?_ ?_
    rotate_left
    ·(intro w' hSw;go_simp;try with_reducible rfl;try simp)
    simp only [Act.put,yB,yC,yD]
    refine yT 14 (some 130) ?_ hS0 ?_ ?_
    rotate_left
    ·(intro w' hSw;go_simp;try with_reducible rfl;try simp)
    simp only [Act.put,yB,yC,yD]
    refine yT 16 (some 132) (.agg #[strV wm,strV wl,kv9,tv9]) hS0 ?_ ?_
    ·(intro w' hSw;apply yloadv (load_want (hSw.keep HG9.out (fun f=>f))) (.tmp 20) <;> rfl)
    simp only [Act.put,yB,yC,yD]
    refine wpAnyT_oneW 15 rfl (by kernel_rfl) (by rfl) ?_
    intro K hK
    go_simp
    go_at_call 13
    with_reducible refine (HLD.out _ hS0).mono ?_
    rintro e wL ⟨⟨lv,rfl,hst⟩,hmL⟩
    have HLV:=zh hst
    have HML:=zh hmL
    clear hst hmL
    show K _ _
    have hS1:=hS0.trans HML.out
    refine hK.out _ _ (fun _=>hS1) ?_
    clear hK K
    refine wpAnyT_oneW 17 rfl (by kernel_rfl) (by rfl) ?_
    intro K hK
    go_simp
    go_at_call 12
    with_reducible refine (hstate_any HLV.out (HS9.out.stay hS1)).mono ?_
    rintro e wM ⟨rfl,hmM⟩
    have HMN:=zh hmM
    clear hmM
    show K _ _
    have hS2:=hS1.trans HMN.out
    refine hK.out _ _ (fun _=>hS2) ?_
    clear hK K
    refine yT 18 (some 134) (.bool false) hS2 ?_ ?_
    ·(intro w' hSw;go_simp;try with_reducible rfl;try simp)
    simp only [Act.put,yB,yC,yD]
    refine yT 19 (some 135) (.bool false) hS2 ?_ ?_
    ·(intro w' hSw;go_simp;try with_reducible rfl;try simp)
    simp only [Act.put]
    refine wpAnyT_done (by kernel_rfl) ?_ _
    have HTF:=zh (HTE.out.stay hS2)
    have HWF:=zh (HWE.out.no hS2)
    have HGF:=zh (Nat.lt_of_lt_of_le HGE.out hS2.size)
    clear hS0 hS1 hS2
    go_wp2_with fail
    exact ⟨⟨2,n,c,O,M,wm,wl,tb,wt,by omega,by first | rfl | simp,HTF.out,HSX.out,HFD.out,HWF.out,HOG.out,by omega,by omega,HGF.out⟩,by decide⟩
  ·skip
   have HRO:=zh (HST.out.reopen [kyM,kyL,kyT,nC S,nP S] HSX.out.sm.only)
   go_wp2_with fail
   with_reducible refine HRO.out.mono ?_
   rintro e w2 ⟨s2,O2',rfl,hst2,-,hm2⟩
   have HST2:=zh hst2
   have HWT2:=zh (HWT.out.no hm2)
   have HGS2:=zh (show g < w2.heap.size from Nat.lt_of_lt_of_le HGR.out hm2.size)
   clear hst2 hm2 HRO HST HWT
   go_upto_region 25 with fail
   obtain ⟨wE,hwE⟩:∃ y,y=w2.drew:=⟨_,rfl⟩
   have hmE:Mod No w2 wE:=by rw [hwE];exact (Mod.refl No w2).drew
   have HTE:=zh (HST2.out.stay hmE)
   have HWE:=zh (HWT2.out.no hmE)
   have HGE:=zh (show g < wE.heap.size from Nat.lt_of_lt_of_le HGS2.out hmE.size)
   have HLD:=zh (show ∀ w',Mod No wE w'->Calls prog 13 #[.pointer (some ⟨s2,0,none⟩)] w' fun e w''=>(∃ v,e=.returned v/\StaAt w'' (fun q=>q < w'.heap.size) v wm wl [S] wt)/\Mod No w' w'' from fun w' hm=>by
    have h9:=load_sx (HTE.out.stay hm) HSX.out HS.out.symm (by have:=HLN.out;omega) (by simp)
    rw [HFD.out] at h9
    exact h9)
   obtain ⟨kv9,tv9,hgE,hsE⟩:=id HWE.out
   have HG9:=zh hgE
   have HS9:=zh hsE
   have HWD:=zh hwE
   have hS0:=Mod.refl No wE
   clear hwE hmE hgE hsE
   refine wp_region_T (fun w'=>Mod No wE w') 99 (by kernel_rfl) ?_
   rw [<- HWD.out]
   refine yT 0 (some 141) ?_ hS0 ?_ ?_
   rotate_left
   ·(intro w' hSw;go_simp;try with_reducible rfl;try simp)
   simp only [Act.put,yB,yC,yD]
   refine yT 1 (some 142) (.bool true) hS0 ?_ ?_
   ·(intro w' hSw;go_simp;try with_reducible rfl;try simp)
   simp only [Act.put,yB,yC,yD]
   refine yT 2 (some 143) ?_ hS0 ?_ ?_
   rotate_left
   ·(intro w' hSw;go_simp;try with_reducible rfl;try simp)
   simp only [Act.put,yB,yC,yD]
   refine yT 3 (some 144) ?_ hS0 ?_ ?_
   rotate_left
   ·(intro w' hSw;go_simp;try with_reducible rfl;try simp)
   simp only [Act.put,yB,yC,yD]
   refine yT 4 (some 145) (.bool true) hS0 ?_ ?_
   ·(intro w' hSw;go_simp;try with_reducible rfl;try simp)
   simp only [Act.put,yB,yC,yD]
   refine yT 5 (some 146) (.bool true) hS0 ?_ ?_
   ·(intro w' hSw;go_simp;try with_reducible rfl;try simp)
   simp only [Act.put,yB,yC,yD]
   refine yT 6 (some 147) ?_ hS0 ?_ ?_
   rotate_left
   ·(intro w' hSw;go_simp;try with_reducible rfl;try simp)
   simp only [Act.put,yB,yC,yD]
   refine yT 7 (some 148) ?_ hS0 ?_ ?_
   rotate_left
   ·(intro w' hSw;go_simp;try with_reducible rfl;try simp)
   simp only [Act.put,yB,yC,yD]
   refine yT 9 (some 150) (.agg #[strV wm,strV wl,kv9,tv9]) hS0 ?_ ?_
   ·(intro w' hSw;apply yloadv (load_want (hSw.keep HG9.out (fun f=>f))) (.tmp 20) <;> rfl)
   simp only [Act.put,yB,yC,yD]
   refine wpAnyT_oneW 8 rfl (by kernel_rfl) (by rfl) ?_
   intro K hK
   go_simp
   go_at_call 13
   with_reducible refine (HLD.out _ hS0).mono ?_
   rintro e wL ⟨⟨lv,rfl,hst⟩,hmL⟩
   have HLV:=zh hst
   have HML:=zh hmL
   clear hst hmL
   show K _ _
   have hS1:=hS0.trans HML.out
   refine hK.out _ _ (fun _=>hS1) ?_
   clear hK K
   refine wpAnyT_oneW 10 rfl (by kernel_rfl) (by rfl) ?_
   intro K hK
   go_simp
   go_at_call 12
   with_reducible refine (hstate_any HLV.out (HS9.out.stay hS1)).mono ?_
   rintro e wM ⟨rfl,hmM⟩
   have HMN:=zh hmM
   clear hmM
   show K _ _
   have hS2:=hS1.trans HMN.out
   refine hK.out _ _ (fun _=>hS2) ?_
   clear hK K
   refine yT 11 (some 152) (.bool true) hS2 ?_ ?_
   ·(intro w' hSw;go_simp;try with_reducible rfl;try simp)
   simp only [Act.put,yB,yC,yD]
   refine yT 12 (some 14) ?_ hS2 ?_ ?_
   rotate_left
   ·(intro w' hSw;go_simp;try with_reducible rfl;try simp)
   simp only [Act.put]
   refine wpAnyT_done (by kernel_rfl) ?_ _
   have HTF:=zh (HTE.out.stay hS2)
   clear hS0 hS1 hS2
   go_wp2_with fail
   exact fin hR ⟨rfl,HTF.out.mod⟩
theorem saves_top {w:World} (pm:ByteArray) (_:pm.size<=maxLen) (pl:ByteArray) (_:pl.size<=maxLen) (a:Option Addr) (len cap:Nat) (xs:List FlX) (h:FlsIn w a len xs) (hc:len<=cap/\cap<=maxLen\/len=0) (pm2:ByteArray) (_:pm2.size<=maxLen) (pl2:ByteArray) (_:pl2.size<=maxLen) (a2:Option Addr) (len2 cap2:Nat) (xs2:List FlX) (h2:FlsIn w a2 len2 xs2) (hc2:len2<=cap2/\cap2<=maxLen\/len2=0) (aa:Option Addr) (alen acap:Nat) (ar:List UInt8) (ha:SvX w No (.slice aa alen acap) ar.length (bv ar)) (hgl:Gl w) :
  Calls prog 5 #[.string pm,.string pl,.slice a len cap,.string pm2,.string pl2,.slice a2 len2 cap2,.slice aa alen acap] w fun e w'=>e=.returned (.bool true)/\Mod No w w':=by
 obtain ⟨h1,hx,h3⟩:=h
 obtain ⟨i1,ix,i3⟩:=h2
 have h4:=saves_walk pm.data.toList pl.data.toList pm2.data.toList pl2.data.toList ar xs xs2 (.slice a len cap) (.slice a2 len2 cap2) (.slice aa alen acap) w (by rw [h1];exact h3 cap hc) hx (by rw [i1];exact i3 cap2 hc2) ix ha hgl
 have e1:∀ s:ByteArray,strV s.data.toList=.string s:=fun s=>rfl
 rw [e1,e1,e1,e1] at h4
 exact h4
end Go.Proofs.YtmppeipgjcjdkaaGreatDoor
