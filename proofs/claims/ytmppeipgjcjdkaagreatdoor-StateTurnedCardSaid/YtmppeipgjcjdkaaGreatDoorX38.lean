/-
  Layers 0 to 14: helps of the laws of indexes. No statement is proved here; no condition.
-/
import Derived.Test.YtmppeipgjcjdkaaGreatDoorX37
import Derived.Test.YtmppeipgjcjdkaaGreatDoorX16
import Derived.Test.YtmppeipgjcjdkaaGreatDoorX05
import Derived.Test.YtmppeipgjcjdkaaGreatDoorX25
import Derived.Lib.SlBytesConst
namespace Go.Proofs.YtmppeipgjcjdkaaGreatDoor
open _root_.Go.Proofs.Tryz
open Go.RowKit Go.Maps
theorem sizeT_le {n:Nat}:∀ {t:Tr},(∀ g ∈ t,g.b.length<=n)->sizeT t<=n*t.length
 | [],_=>Nat.zero_le _
 | f :: t,h=>by
  have h1:=sizeT_le (t:=t) fun g hg=>h g (by simp [hg])
  have h2:=h f (by simp)
  have e:sizeT (f :: t)=f.b.length+sizeT t:=by simp [sizeT]
  rw [e,List.length_cons,Nat.mul_succ]
  omega
theorem write_code {t:Tr} {s b:List UInt8} {c:Nat} (h:writeT t s b=.inr c):c ≠ 0:=by
 unfold writeT at h
 split at h
 rename_i p e _
 split at h
 ·cases h;assumption
 ·split at h
  ·cases h;decide
  ·split at h
   ·cases h;decide
   ·split at h
    ·cases h;decide
    ·cases h
  ·split at h
   ·cases h;decide
   ·split at h
    ·cases h;decide
    ·cases h
theorem mkdir_code {t:Tr} {s:List UInt8} {c:Nat} (h:mkdirT t s=.inr c):c ≠ 0:=by
 unfold mkdirT at h
 split at h
 rename_i p e _
 split at h
 ·cases h;assumption
 ·split at h
  ·cases h
  ·cases h;decide
  ·split at h
   ·cases h;decide
   ·split at h
    ·cases h;decide
    ·cases h
def seenV (l:List (List UInt8)):Vt:=fun p=>if p ∈ l then some (.int .i64 1) else none
theorem seen_put (l:List (List UInt8)) (p:List UInt8):vPut (seenV l) p (.int .i64 1)=seenV (p :: l):=by
 funext x
 unfold vPut seenV
 by_cases e:x=p
 ·simp [e]
 ·simp [e]
def OfPost (w':World) (l:List Fl) (e:Ending):Prop:=match ofT l with
 | .inr c=>e=.returned (.tuple #[.pointer none,.int .i64 (c:Int)])
 | .inl t=>∃ q m g,e=.returned (.tuple #[.pointer (some ⟨q,0,none⟩),.int .i64 0])/\TrM w' q m g t (sizeT t:Int)
set_option maxRecDepth 100000 in
set_option maxHeartbeats 8000000 in
theorem tof_any (xs:List FlX) (v:Value) (w:World) (hv:SvX w No v xs.length (xs.flatMap FlX.cells)) (hx:∀ x ∈ xs,FlIn w x) (hl:xs.length<=20) (hb:∀ x ∈ xs,x.f.path.length<=1000000/\x.f.b.length<=500) (hgl:Gl w) :
  Calls prog 27 #[v] w fun e w'=>OfPost w' (xs.map FlX.f) e/\Mod No w w':=by
 refine calls_hide fun R hR=>?_
 have HV:=zh hv
 have HX:=zh hx
 have HGL:=zh hgl
 obtain ⟨va,vc,rfl⟩:=hv.1
 have HNW:=zh (tnew_any w)
 have hmm:=@run_makeMap prog
 clear hv hx hgl
 go_enter func27,ntmps27
 go_upto_region 1 with fail
 go_upto_region 2 with (go_at_call 71;refine HNW.out.mono ?_;rintro e w1 ⟨q,m,g0,rfl,ht,hm1,hq,hmq⟩;have HT1:=zh ht;have HM1:=zh hm1;have HQ:=zh (And.intro hq hmq);clear ht hm1 hq hmq)
 go_wp2_with fail
 obtain ⟨sm,hsm⟩:∃ g,g=w1.heap.size:=⟨_,rfl⟩
 rw [<- hsm]
 generalize hw2:World.alloc w1 _=w2
 have hm2:Mod No w1 w2:=by rw [<- hw2];exact (Mod.refl No w1).alloc _
 have HT2:=zh (HT1.out.no hm2)
 have HS2:=zh (show VMp w2 sm 0 (seenV []) from by
  have h:=VMp.made w1
  rw [hw2,<- hsm] at h
  exact h)
 have HM2:=zh (HM1.out.trans hm2)
 have HSM:=zh (show w.heap.size<=sm/\sm ≠ q/\sm ≠ m from ⟨by rw [hsm];exact HM1.out.size,fun e=>by have h:=lt_of_heap HT1.out.obj;omega,fun e=>by have h:=HT1.out.map.lt;omega⟩)
 clear hw2 hm2 hsm HT1 HM1
 go_loopw [15] (fun q15 wr=>∃ (k ns:Nat) (tk:Tr) (sk:List (List UInt8)) (gk:List UInt8->Nat),k<=xs.length/\ns<=k/\q15=.int .i64 (k:Int)/\ofT (xs.map FlX.f)=ofG tk sk ((xs.map FlX.f).drop k)/\SmT (12*k) tk/\TrM wr q m gk tk (sizeT tk:Int)/\VMp wr sm ns (seenV sk)/\Mod No w wr) (fun q15 _=>xs.length - (intOf q15).toNat)
 case atStart=>exact ⟨0,0,[],[],g0,Nat.zero_le _,Nat.le_refl _,rfl,rfl,⟨Nat.le_refl _,fun g hg=>by cases hg⟩,HT2.out,HS2.out,HM2.out⟩
 case round =>
  obtain ⟨k,ns,tk,sk,gk,hk,hnk,rfl,hof,hsmt,htr,hsn,hm⟩:=hrel
  have hk0:(0:Int)<=(k:Int):=Int.natCast_nonneg _
  have HM:=zh hm
  have HT:=zh htr
  have HS:=zh hsn
  have HOF:=zh hof
  have HST:=zh hsmt
  have htl:tk.length<=240:=by have:=hsmt.1;omega
  have htz:sizeT tk<=120000:=by
   have h1:=sizeT_le (n:=500) fun g hg=>(hsmt.2 g hg).2
   omega
  clear hm htr hsn hof hsmt HT2 HS2 HM2
  by_cases hlt:k < xs.length
  ·have hk1:(k:Int) < (xs.length:Int):=by omega
   obtain ⟨b,o,c,hvs,_⟩:=HV.out.shape (by omega)
   cases hvs
   have HVr:=zh (HV.out.kn HM.out)
   obtain ⟨c0,c1,c2⟩:=fls_cells HVr.out hlt
   have HXK:=zh ((HX.out _ (List.getElem_mem hlt)).no HM.out)
   have hbk:=hb _ (List.getElem_mem hlt)
   have HOK:=zh (show ofT (xs.map FlX.f)=if (cleanP xs[k].f.path).2 ≠ 0 then .inr (cleanP xs[k].f.path).2 else if (cleanP xs[k].f.path).1 ∈ sk\/(xs[k].f.dir=true/\isDirT tk (cleanP xs[k].f.path).1=true) then .inr 53 else
      match (if xs[k].f.dir then mkdirT tk (cleanP xs[k].f.path).1 else writeT tk (cleanP xs[k].f.path).1 xs[k].f.b) with
      | .inr e=>.inr e
      | .inl t'=>ofG t' ((cleanP xs[k].f.path).1 :: sk) ((xs.map FlX.f).drop (k+1)) by
    rw [HOF.out,List.drop_eq_getElem_cons (by rw [List.length_map];exact hlt),List.getElem_map,ofG]
    generalize cleanP xs[k].f.path=z
    obtain ⟨p,e⟩:=z
    rfl)
   generalize xs[k]=x at *
   obtain ⟨⟨pt,dr,bs⟩,bv0⟩:=x
   dsimp only at c0 c1 c2 hbk HOK
   obtain ⟨⟨ba,bc,hbe⟩,-⟩:=HXK.out
   dsimp only at hbe
   subst hbe
   obtain ⟨w3,hw3⟩:∃ w3,w3=wr.alloc (.cells #[strV pt,.bool dr,.slice ba bs.length bc] 51):=⟨_,rfl⟩
   have m3:Mod No wr w3:=by rw [hw3];exact (Mod.refl No wr).alloc _
   have hf3:w3.heap[wr.heap.size]? = some (.cells #[strV pt,.bool dr,.slice ba bs.length bc] 51 (0,0)):=by rw [hw3];exact heap_alloc_new wr _
   have HF3:=zh hf3
   have HM3:=zh m3
   have HW3:=zh hw3
   have p0:=cell_ofA hf3 (i:=0) rfl
   have HCL:=zh (clean_any pt hbk.1 w3 (HGL.out.stay (HM.out.trans m3) (fun f=>f)))
   clear m3 hf3 hw3
   unfold strV at *
   generalize (⟨pt.toArray⟩:ByteArray)=PT at *
   go_upto_region 6 with fail
   rw [<- HW3.out]
   go_wp2_with fail
   with_reducible refine HCL.out.mono ?_
   rintro e w4 ⟨rfl,hm4⟩
   have HM4:=zh (HM3.out.trans hm4)
   have HF4:=zh (hm4.keep HF3.out (fun f=>f))
   have HCA:=zh (clean_all pt)
   generalize cleanP pt=cl at *
   obtain ⟨p,ce⟩:=cl
   dsimp only at HOK HCA
   clear hm4 HCL HM3 HF3 p0 c0 c1 c2 HOF
   by_cases hc:ce=0
   ·subst hc
    rw [if_neg (by simp)] at HOK
    have hpl:p.length<=1000000:=by have:=HCA.out.1;omega
    have HT4:=zh (HT.out.no HM4.out)
    have HAT:=zh (tat_any HT4.out p hpl)
    unfold strV at *
    generalize hPP:(⟨p.toArray⟩:ByteArray)=P at *
    have HPP:=zh (show strV p=.string P by unfold strV;rw [hPP])
    clear hPP
    go_wp2_with fail
    with_reducible refine HAT.out.mono ?_
    rintro e w5 ⟨hat,hm5⟩
    have HM5:=zh (HM4.out.trans hm5)
    have HT5:=zh (HT4.out.no hm5)
    have HF5:=zh (hm5.keep HF4.out (fun f=>f))
    have hs5:=(HS.out.keep HM5.out (fun f=>f))
    have hzi:(zeroValue 3).run prog w5=.ok (.int .i64 0) w5:=by kernel_rfl
    have hlk:=hs5.get (t:=144) underlying144 hzi p (by omega)
    rw [show (.string ⟨p.toArray⟩:Value)=.string P from HPP.out] at hlk
    clear hm5 HAT HF4 HT4
    by_cases hps:p ∈ sk
    ·obtain ⟨pv,rfl⟩:∃ pv,e=.returned pv:=by
      unfold AtPost at hat
      split at hat
      ·exact ⟨_,hat⟩
      ·obtain ⟨_,_,h,_⟩:=hat;exact ⟨_,h⟩
     rw [if_pos (.inl hps)] at HOK
     rw [show seenV sk p=some (.int .i64 1) from if_pos hps] at hlk
     obtain ⟨w6,hst,hvm,hm6,-⟩:=hs5.put (t:=144) underlying144 (by unfold maxLen;omega) p (by omega) (.int .i64 2)
     rw [show (.string ⟨p.toArray⟩:Value)=.string P from HPP.out] at hst
     have hlk6:=hvm.get (t:=144) underlying144 (show (zeroValue 3).run prog w6=.ok (.int .i64 0) w6 by kernel_rfl) p (by omega)
     rw [show (.string ⟨p.toArray⟩:Value)=.string P from HPP.out,show vPut (seenV sk) p (.int .i64 2) p=some (.int .i64 2) from if_pos rfl] at hlk6
     simp only [Option.getD_some] at hlk hlk6
     have HM6:=zh (show Mod No w w6 from (HM.out.trans HM5.out).then hm6 (fun i hi e=>by have:=HSM.out;omega))
     clear hps hat hs5 hzi hvm hm6
     go_wp2_with fail
     exact fin hR ⟨by unfold OfPost;rw [HOK.out];rfl,HM6.out⟩
    ·have hsn0:seenV sk p=none:=if_neg hps
     rw [hsn0] at hlk
     obtain ⟨w6,hst,hvm,hm6,-⟩:=hs5.put (t:=144) underlying144 (by unfold maxLen;omega) p (by omega) (.int .i64 1)
     rw [show (.string ⟨p.toArray⟩:Value)=.string P from HPP.out] at hst
     have hlk6:=hvm.get (t:=144) underlying144 (show (zeroValue 3).run prog w6=.ok (.int .i64 0) w6 by kernel_rfl) p (by omega)
     rw [show (.string ⟨p.toArray⟩:Value)=.string P from HPP.out,show vPut (seenV sk) p (.int .i64 1) p=some (.int .i64 1) from if_pos rfl] at hlk6
     simp only [Option.getD_some,Option.getD_none] at hlk hlk6
     rw [if_pos hsn0,seen_put] at hvm
     have HS6:=zh hvm
     have hap6:Apart [150,5] (· = sm) w5:=fun k cur fz e hk hc _=>by
      subst hk
      exact hs5.not_cells _ _ _ hc
     have HT6:=zh (HT5.out.keep hm6 (fun e=>HSM.out.2.1 e.symm) (fun e=>HSM.out.2.2 e.symm) hap6)
     have hf6:=hm6.keep HF5.out (fun e=>hs5.not_cells _ _ _ (e ▸ HF5.out))
     have p1:=cell_ofA hf6 (i:=1) rfl
     have p2:=cell_ofA hf6 (i:=2) rfl
     have HXK6:=zh (show SvX w6 No (.slice ba bs.length bc) bs.length (bv bs) from (HXK.out.kn HM5.out).keepM hm6 (fun k cur e fz hk hc=>by subst hk;exact hs5.not_cells _ _ _ hc))
     have HM6:=zh (show Mod No w w6 from (HM.out.trans HM5.out).then hm6 (fun i hi e=>by have:=HSM.out;omega))
     have HNS:=zh (show ∀ b cur t fz,w5.heap[b]? = some (.cells cur t fz)->b ≠ sm from fun b cur t fz h e=>hs5.not_cells cur t fz (e ▸ h))
     have HPS:=zh hps
     have HMX:=zh hm6
     clear hs5 hzi hvm hf6 hap6 hsn0 hps hm6 HT5 HF5 HXK HS
     unfold AtPost at hat
     cases hnd:nodeT tk p with
     | none =>
      rw [hnd] at hat
      have hat:e=.returned (.pointer none):=hat
      subst hat
      have HD:=zh (show isDirT tk p=false by unfold isDirT;rw [hnd])
      rw [if_neg (by rw [HD.out];rintro (h | ⟨-,h⟩);exact HPS.out h;cases h)] at HOK
      clear hnd
      cases dr with
      | true =>
       rw [if_pos rfl] at HOK
       have HMKD:=zh (tmkdir_any HT6.out p hpl (by omega) (by omega) (HGL.out.stay HM6.out (fun f=>f)))
       have HMK:=zh (show Calls prog 74 #[.pointer (some ⟨q,0,none⟩),.string P] w6 fun e w'=>ChgPost w' q m tk (mkdirT tk p) e/\Mod (fun k=>k=q\/k=m) w6 w' from by rw [<- HPP.out];exact HMKD.out)
       clear HMKD
       go_wp2_with fail
       with_reducible refine HMK.out.mono ?_
       rintro e w7 ⟨hch,hm7⟩
       unfold ChgPost at hch
       cases hr:mkdirT tk p with
       | inr c7 =>
        rw [hr] at hch HOK
        obtain ⟨rfl,-⟩:=hch
        have hc7:=mkdir_code hr
        have hc8:((c7:Int) == 0)=false:=by rw [beq_eq_false_iff_ne];omega
        have HOE:=zh (show ofT (xs.map FlX.f)=.inr c7 from HOK.out)
        have HM7:=zh (show Mod No w w7 from HM6.out.then hm7 (fun i hi e=>by have:=HQ.out;omega))
        clear HOK hr hm7 HMK hc7
        go_wp2_with fail
        exact fin hR ⟨by unfold OfPost;rw [HOE.out];rfl,HM7.out⟩
       | inl t7 =>
        rw [hr] at hch HOK
        obtain ⟨rfl,g7,ht7⟩:=hch
        have HOE:=zh (show ofT (xs.map FlX.f)=ofG t7 (p :: sk) ((xs.map FlX.f).drop (k+1)) from HOK.out)
        have HT7:=zh ht7
        have HSM7:=zh (mkdir_sm HST.out hr)
        have HS7:=zh (HS6.out.keep hm7 (fun e=>by rcases e with e | e;exact HSM.out.2.1 e;exact HSM.out.2.2 e))
        have HM7:=zh (show Mod No w w7 from HM6.out.then hm7 (fun i hi e=>by have:=HQ.out;omega))
        clear HOK hr hm7 ht7 HMK HS6
        go_wp2_with fail
        exact ⟨⟨k+1,ns+1,t7,p :: sk,g7,by omega,by omega,by simp,HOE.out,HSM7.out,HT7.out,HS7.out,HM7.out⟩,by show xs.length - ((k:Int)+1).toNat < xs.length - (k:Int).toNat;omega⟩
      | false =>
       rw [if_neg (by decide)] at HOK
       have HMKD:=zh (twrite_any HT6.out p bs (.slice ba bs.length bc) hpl HXK6.out (by omega) (by omega) (by omega) (HGL.out.stay HM6.out (fun f=>f)))
       have HMK:=zh (show Calls prog 75 #[.pointer (some ⟨q,0,none⟩),.string P,.slice ba bs.length bc] w6 fun e w'=>ChgPost w' q m tk (writeT tk p bs) e/\Mod (fun k=>k=q\/k=m) w6 w' from by rw [<- HPP.out];exact HMKD.out)
       clear HMKD
       go_wp2_with fail
       with_reducible refine HMK.out.mono ?_
       rintro e w7 ⟨hch,hm7⟩
       unfold ChgPost at hch
       cases hr:writeT tk p bs with
       | inr c7 =>
        rw [hr] at hch HOK
        obtain ⟨rfl,-⟩:=hch
        have hc7:=write_code hr
        have hc8:((c7:Int) == 0)=false:=by rw [beq_eq_false_iff_ne];omega
        have HOE:=zh (show ofT (xs.map FlX.f)=.inr c7 from HOK.out)
        have HM7:=zh (show Mod No w w7 from HM6.out.then hm7 (fun i hi e=>by have:=HQ.out;omega))
        clear HOK hr hm7 HMK hc7
        go_wp2_with fail
        exact fin hR ⟨by unfold OfPost;rw [HOE.out];rfl,HM7.out⟩
       | inl t7 =>
        rw [hr] at hch HOK
        obtain ⟨rfl,g7,ht7⟩:=hch
        have HOE:=zh (show ofT (xs.map FlX.f)=ofG t7 (p :: sk) ((xs.map FlX.f).drop (k+1)) from HOK.out)
        have HT7:=zh ht7
        have HSM7:=zh (write_sm HST.out hbk.2 hr)
        have HS7:=zh (HS6.out.keep hm7 (fun e=>by rcases e with e | e;exact HSM.out.2.1 e;exact HSM.out.2.2 e))
        have HM7:=zh (show Mod No w w7 from HM6.out.then hm7 (fun i hi e=>by have:=HQ.out;omega))
        clear HOK hr hm7 ht7 HMK HS6
        go_wp2_with fail
        exact ⟨⟨k+1,ns+1,t7,p :: sk,g7,by omega,by omega,by simp,HOE.out,HSM7.out,HT7.out,HS7.out,HM7.out⟩,by show xs.length - ((k:Int)+1).toNat < xs.length - (k:Int).toNat;omega⟩
     | some dc =>
      obtain ⟨d,ct⟩:=dc
      rw [hnd] at hat
      obtain ⟨nb,nv,rfl,hnb,-⟩:=hat
      have hnb6:=HMX.out.keep hnb (HNS.out _ _ _ _ hnb)
      have n0:=cell_ofA hnb6 (i:=0) rfl
      have HD:=zh (show isDirT tk p=d by unfold isDirT;rw [hnd])
      clear hnd hnb hnb6
      cases dr with
      | true =>
       cases d with
       | true =>
        rw [if_pos (.inr ⟨rfl,HD.out⟩)] at HOK
        go_wp2_with fail
        exact fin hR ⟨by unfold OfPost;rw [HOK.out];rfl,HM6.out⟩
       | false =>
        rw [if_neg (by rw [HD.out];rintro (h | ⟨-,h⟩);exact HPS.out h;cases h)] at HOK
        rw [if_pos rfl] at HOK
        have HMKD:=zh (tmkdir_any HT6.out p hpl (by omega) (by omega) (HGL.out.stay HM6.out (fun f=>f)))
        have HMK:=zh (show Calls prog 74 #[.pointer (some ⟨q,0,none⟩),.string P] w6 fun e w'=>ChgPost w' q m tk (mkdirT tk p) e/\Mod (fun k=>k=q\/k=m) w6 w' from by rw [<- HPP.out];exact HMKD.out)
        clear HMKD
        go_wp2_with fail
        with_reducible refine HMK.out.mono ?_
        rintro e w7 ⟨hch,hm7⟩
        unfold ChgPost at hch
        cases hr:mkdirT tk p with
        | inr c7 =>
         rw [hr] at hch HOK
         obtain ⟨rfl,-⟩:=hch
         have hc7:=mkdir_code hr
         have hc8:((c7:Int) == 0)=false:=by rw [beq_eq_false_iff_ne];omega
         have HOE:=zh (show ofT (xs.map FlX.f)=.inr c7 from HOK.out)
         have HM7:=zh (show Mod No w w7 from HM6.out.then hm7 (fun i hi e=>by have:=HQ.out;omega))
         clear HOK hr hm7 HMK hc7
         go_wp2_with fail
         exact fin hR ⟨by unfold OfPost;rw [HOE.out];rfl,HM7.out⟩
        | inl t7 =>
         rw [hr] at hch HOK
         obtain ⟨rfl,g7,ht7⟩:=hch
         have HOE:=zh (show ofT (xs.map FlX.f)=ofG t7 (p :: sk) ((xs.map FlX.f).drop (k+1)) from HOK.out)
         have HT7:=zh ht7
         have HSM7:=zh (mkdir_sm HST.out hr)
         have HS7:=zh (HS6.out.keep hm7 (fun e=>by rcases e with e | e;exact HSM.out.2.1 e;exact HSM.out.2.2 e))
         have HM7:=zh (show Mod No w w7 from HM6.out.then hm7 (fun i hi e=>by have:=HQ.out;omega))
         clear HOK hr hm7 ht7 HMK HS6
         go_wp2_with fail
         exact ⟨⟨k+1,ns+1,t7,p :: sk,g7,by omega,by omega,by simp,HOE.out,HSM7.out,HT7.out,HS7.out,HM7.out⟩,by show xs.length - ((k:Int)+1).toNat < xs.length - (k:Int).toNat;omega⟩
      | false =>
       rw [if_neg (by rintro (h | ⟨h,-⟩);exact HPS.out h;cases h)] at HOK
       rw [if_neg (by decide)] at HOK
       have HMKD:=zh (twrite_any HT6.out p bs (.slice ba bs.length bc) hpl HXK6.out (by omega) (by omega) (by omega) (HGL.out.stay HM6.out (fun f=>f)))
       have HMK:=zh (show Calls prog 75 #[.pointer (some ⟨q,0,none⟩),.string P,.slice ba bs.length bc] w6 fun e w'=>ChgPost w' q m tk (writeT tk p bs) e/\Mod (fun k=>k=q\/k=m) w6 w' from by rw [<- HPP.out];exact HMKD.out)
       clear HMKD
       go_wp2_with fail
       with_reducible refine HMK.out.mono ?_
       rintro e w7 ⟨hch,hm7⟩
       unfold ChgPost at hch
       cases hr:writeT tk p bs with
       | inr c7 =>
        rw [hr] at hch HOK
        obtain ⟨rfl,-⟩:=hch
        have hc7:=write_code hr
        have hc8:((c7:Int) == 0)=false:=by rw [beq_eq_false_iff_ne];omega
        have HOE:=zh (show ofT (xs.map FlX.f)=.inr c7 from HOK.out)
        have HM7:=zh (show Mod No w w7 from HM6.out.then hm7 (fun i hi e=>by have:=HQ.out;omega))
        clear HOK hr hm7 HMK hc7
        go_wp2_with fail
        exact fin hR ⟨by unfold OfPost;rw [HOE.out];rfl,HM7.out⟩
       | inl t7 =>
        rw [hr] at hch HOK
        obtain ⟨rfl,g7,ht7⟩:=hch
        have HOE:=zh (show ofT (xs.map FlX.f)=ofG t7 (p :: sk) ((xs.map FlX.f).drop (k+1)) from HOK.out)
        have HT7:=zh ht7
        have HSM7:=zh (write_sm HST.out hbk.2 hr)
        have HS7:=zh (HS6.out.keep hm7 (fun e=>by rcases e with e | e;exact HSM.out.2.1 e;exact HSM.out.2.2 e))
        have HM7:=zh (show Mod No w w7 from HM6.out.then hm7 (fun i hi e=>by have:=HQ.out;omega))
        clear HOK hr hm7 ht7 HMK HS6
        go_wp2_with fail
        exact ⟨⟨k+1,ns+1,t7,p :: sk,g7,by omega,by omega,by simp,HOE.out,HSM7.out,HT7.out,HS7.out,HM7.out⟩,by show xs.length - ((k:Int)+1).toNat < xs.length - (k:Int).toNat;omega⟩
   ·have hc0:((ce:Int) == 0)=false:=by rw [beq_eq_false_iff_ne];omega
    rw [if_pos hc] at HOK
    go_wp2_with fail
    exact fin hR ⟨by unfold OfPost;rw [HOK.out];rfl,HM.out.trans HM4.out⟩
  ·obtain rfl:k=xs.length:=by omega
   have hk1:¬ ((xs.length:Int) < (xs.length:Int)):=by omega
   have HE:=zh (show ofT (xs.map FlX.f)=.inl tk by
    rw [HOF.out,List.drop_eq_nil_of_le (by rw [List.length_map];exact Nat.le_refl _),ofG])
   clear hk
   go_wp2_with fail
   exact fin hR ⟨by unfold OfPost;rw [HE.out];exact ⟨q,m,gk,rfl,HT.out⟩,HM.out⟩
set_option maxRecDepth 100000 in
set_option maxHeartbeats 4000000 in
theorem eqbytes_any (l:List UInt8) (v u:Value) (w:World) (hv:SvX w No v l.length (bv l)) (hu:SvX w No u l.length (bv l)) :
  Calls prog 155 #[v,u] w fun e w'=>e=.returned (.bool true)/\Mod No w w':=by
 refine calls_hide fun R hR=>?_
 have HV:=zh hv
 have HU:=zh hu
 have hlen:=hv.lenle
 obtain ⟨va,vc,rfl⟩:=hv.1
 obtain ⟨ua,uc,rfl⟩:=hu.1
 clear hv hu
 go_enter func155,ntmps155
 go_wp2_with fail
 go_loopw [13] (fun q wr=>∃ k:Nat,k<=l.length/\q=.int .i64 (k:Int)/\Mod No w wr) (fun q _=>l.length - (intOf q).toNat)
 case atStart=>exact ⟨0,Nat.zero_le _,rfl,Mod.refl _ _⟩
 case round =>
  obtain ⟨k,hk,rfl,hm⟩:=hrel
  have hk0:(0:Int)<=(k:Int):=Int.natCast_nonneg _
  have HM:=zh hm
  clear hm
  by_cases hlt:k < l.length
  ·have hk1:(k:Int) < (l.length:Int):=by omega
   obtain ⟨b,o,c,hvs,_⟩:=HV.out.shape (by omega)
   cases hvs
   obtain ⟨b2,o2,c2,hus,_⟩:=HU.out.shape (by omega)
   cases hus
   have d0:=HV.out.cellN (i:=k) (by rw [bv_length];exact hlt)
   have d1:=HU.out.cellN (i:=k) (by rw [bv_length];exact hlt)
   rw [show (bv l)[k]'(by rw [bv_length];exact hlt)=.int .u8 (l[k].toNat:Int) from by simp [bv]] at d0 d1
   generalize l[k].toNat=y at *
   go_upto_region 6 with fail
   obtain ⟨wD,hwD⟩:∃ z,z=wr.drew:=⟨_,rfl⟩
   have hmD:Mod No wr wD:=by rw [hwD];exact (Mod.refl No wr).drew
   have HMD:=zh hmD
   have HSM:=zh (show ∀ w',Mod No wD w'->w'.cell? ⟨b,o+k,none⟩=some (.int .u8 (y:Int))/\w'.cell? ⟨b2,o2+k,none⟩=some (.int .u8 (y:Int)) from
    fun w' h=>⟨((HM.out.trans hmD).trans h).cell d0 (fun f=>f),((HM.out.trans hmD).trans h).cell d1 (fun f=>f)⟩)
   have HWA:=zh hwD
   have hS0:=Mod.refl No wD
   clear hwD hmD d0 d1
   refine wp_region_T (fun w'=>Mod No wD w') 99 (by kernel_rfl) ?_
   rw [<- HWA.out]
   clear HWA
   refine yT 0 (some 16) ?_ hS0 ?_ ?_
   rotate_left
   ·(intro w' hSw;have q0:=(HSM.out w' hSw).1;have q1:=(HSM.out w' hSw).2;go_simp;try with_reducible rfl)
   simp only [Act.put,yB,yC,yD]
   refine yT 1 (some 17) ?_ hS0 ?_ ?_
   rotate_left
   ·(intro w' hSw;have q0:=(HSM.out w' hSw).1;have q1:=(HSM.out w' hSw).2;go_simp;try with_reducible rfl)
   simp only [Act.put,yB,yC,yD]
   refine yT 2 (some 18) ?_ hS0 ?_ ?_
   rotate_left
   ·(intro w' hSw;have q0:=(HSM.out w' hSw).1;have q1:=(HSM.out w' hSw).2;go_simp;try with_reducible rfl)
   simp only [Act.put,yB,yC,yD]
   refine yT 3 (some 19) ?_ hS0 ?_ ?_
   rotate_left
   ·(intro w' hSw;have q0:=(HSM.out w' hSw).1;have q1:=(HSM.out w' hSw).2;go_simp;try with_reducible rfl)
   simp only [Act.put,yB,yC,yD]
   refine yT 4 (some 20) ?_ hS0 ?_ ?_
   rotate_left
   ·(intro w' hSw;have q0:=(HSM.out w' hSw).1;have q1:=(HSM.out w' hSw).2;go_simp;try with_reducible rfl)
   simp only [Act.put,yB,yC,yD]
   refine yT 5 (some 21) ?_ hS0 ?_ ?_
   rotate_left
   ·(intro w' hSw;have q0:=(HSM.out w' hSw).1;have q1:=(HSM.out w' hSw).2;go_simp;try with_reducible rfl)
   simp only [Act.put,yB,yC,yD]
   refine yT 6 (some 22) ?_ hS0 ?_ ?_
   rotate_left
   ·(intro w' hSw;have q0:=(HSM.out w' hSw).1;have q1:=(HSM.out w' hSw).2;go_simp;try with_reducible rfl)
   simp only [Act.put,yB,yC,yD]
   refine yT 7 (some 23) ?_ hS0 ?_ ?_
   rotate_left
   ·(intro w' hSw;have q0:=(HSM.out w' hSw).1;have q1:=(HSM.out w' hSw).2;go_simp;try with_reducible rfl)
   simp only [Act.put,yB,yC,yD]
   refine yT 8 (some 24) ?_ hS0 ?_ ?_
   rotate_left
   ·(intro w' hSw;have q0:=(HSM.out w' hSw).1;have q1:=(HSM.out w' hSw).2;go_simp;try with_reducible rfl)
   simp only [Act.put]
   refine wpAnyT_done (by kernel_rfl) ?_ _
   have HMG:=zh HMD.out
   clear hS0
   go_wp2_with fail
   exact ⟨⟨k+1,by omega,by simp,HM.out.trans HMG.out⟩,by show l.length - ((k:Int)+1).toNat < l.length - (k:Int).toNat;omega⟩
  ·have hk1:¬ (k:Int) < (l.length:Int):=by omega
   go_wp2_with fail
   exact fin hR ⟨rfl,HM.out⟩
set_option maxRecDepth 100000 in
set_option maxHeartbeats 4000000 in
theorem alike_any (f:Fl) (v u:Value) (w:World) (hv:SvX w No v f.b.length (bv f.b)) (hu:SvX w No u f.b.length (bv f.b)) :
  Calls prog 96 #[.agg #[strV f.path,.bool f.dir,v],.agg #[strV f.path,.bool f.dir,u]] w fun e w'=>e=.returned (.bool true)/\Mod No w w':=by
 refine calls_hide fun R hR=>?_
 have HEQ:=zh (fun W (hm:Mod No w W)=>eqbytes_any f.b v u W (hv.kn hm) (hu.kn hm))
 obtain ⟨va,vc,rfl⟩:=hv.1
 obtain ⟨ua,uc,rfl⟩:=hu.1
 clear hv hu
 obtain ⟨p,d,b⟩:=f
 dsimp only at *
 generalize b.length=n at *
 unfold strV
 generalize (⟨p.toArray⟩:ByteArray)=P at *
 go_enter func96,ntmps96
 go_upto_region 1 with fail
 obtain ⟨gx,hgx⟩:∃ g,g=w.heap.size:=⟨_,rfl⟩
 rw [<- hgx]
 generalize hw1:World.alloc (World.alloc w _) _=w1
 have h0:w1.heap[gx]? = some (.cells #[.string P,.bool d,.slice va n vc] 51 (0,0)):=by rw [<- hw1,hgx];exact heap_alloc_old _ (heap_alloc_new w _)
 have h1:w1.heap[gx+1]? = some (.cells #[.string P,.bool d,.slice ua n uc] 51 (0,0)):=by rw [<- hw1,hgx];exact heap_at_new _ _ (by simp)
 have hm1:Mod No w w1:=by rw [<- hw1];exact ((Mod.refl No w).alloc _).alloc _
 have HM1:=zh hm1
 have a0:=cell_ofA h0 (i:=0) rfl
 have a1:=cell_ofA h0 (i:=1) rfl
 have a2:=cell_ofA h0 (i:=2) rfl
 have b0:=cell_ofA h1 (i:=0) rfl
 have b1:=cell_ofA h1 (i:=1) rfl
 have b2:=cell_ofA h1 (i:=2) rfl
 have HEW:=zh (HEQ.out w1 hm1)
 clear hw1 h0 h1 hm1 hgx HEQ
 go_wp2_with fail
 with_reducible refine HEW.out.mono ?_
 rintro e w2 ⟨rfl,hm2⟩
 have HM2:=zh (HM1.out.trans hm2)
 clear hm2
 go_wp2_with fail
 exact fin hR ⟨rfl,HM2.out⟩
set_option maxRecDepth 100000 in
set_option maxHeartbeats 4000000 in
theorem eqfiles_any (xs ys:List FlX) (h:xs.map FlX.f=ys.map FlX.f) (v u:Value) (w:World) (hv:SvX w No v xs.length (xs.flatMap FlX.cells)) (hu:SvX w No u ys.length (ys.flatMap FlX.cells)) (hx:∀ x ∈ xs,FlIn w x) (hy:∀ y ∈ ys,FlIn w y) :
  Calls prog 95 #[v,u,.func (.func 96) #[] #[]] w fun e w'=>e=.returned (.bool true)/\Mod No w w':=by
 refine calls_hide fun R hR=>?_
 have HV:=zh hv
 have HU:=zh hu
 have HX:=zh hx
 have HY:=zh hy
 have hlen:=hv.lenle
 have HE:=zh h
 have hn:ys.length=xs.length:=by have:=congrArg List.length h;simpa using this.symm
 obtain ⟨va,vc,rfl⟩:=hv.1
 obtain ⟨ua,uc,rfl⟩:=hu.1
 have HN:=zh hn
 rw [hn]
 clear hv hu hx hy h hn
 go_enter func95,ntmps95
 go_wp2_with fail
 go_loopw [17] (fun q wr=>∃ k:Nat,k<=xs.length/\q=.int .i64 (k:Int)/\Mod No w wr) (fun q _=>xs.length - (intOf q).toNat)
 case atStart=>exact ⟨0,Nat.zero_le _,rfl,Mod.refl _ _⟩
 case round =>
  obtain ⟨k,hk,rfl,hm⟩:=hrel
  have hk0:(0:Int)<=(k:Int):=Int.natCast_nonneg _
  have HM:=zh hm
  clear hm
  by_cases hlt:k < xs.length
  ·have hk1:(k:Int) < (xs.length:Int):=by omega
   have hlt2:k < ys.length:=by rw [HN.out];exact hlt
   obtain ⟨b,o,c,hvs,_⟩:=HV.out.shape (by omega)
   cases hvs
   obtain ⟨b2,o2,c2',hus,_⟩:=HU.out.shape (by omega)
   rw [HN.out] at hus
   cases hus
   have hv1:=HV.out.kn HM.out
   have hu1:=HU.out.kn HM.out
   obtain ⟨c0,c1,c2⟩:=fls_cells hv1 hlt
   obtain ⟨d0,d1,d2⟩:=fls_cells hu1 hlt2
   have hfk:ys[k].f=xs[k].f:=by
    have h1:(ys.map FlX.f)[k]? = (xs.map FlX.f)[k]?:=by rw [HE.out]
    rw [List.getElem?_map,List.getElem?_map,List.getElem?_eq_getElem hlt,List.getElem?_eq_getElem hlt2] at h1
    exact Option.some.inj h1
   have hxk:=(HX.out _ (List.getElem_mem hlt)).no HM.out
   have hyk:=(HY.out _ (List.getElem_mem hlt2)).no HM.out
   rw [hfk] at d0 d1
   have HAL:=zh (fun (W:World) (hm:Mod No wr W)=>alike_any xs[k].f xs[k].v ys[k].v W (SvX.keep hxk hm (fun _ _ _ f=>f.elim)) (SvX.keep (show SvX wr No ys[k].v xs[k].f.b.length (bv xs[k].f.b) by rw [<- hfk];exact hyk) hm (fun _ _ _ f=>f.elim)))
   obtain ⟨xa,xc,hxe⟩:=hxk.len
   obtain ⟨ya,yc,hye⟩:=hyk.len
   rw [hxe] at c2 HAL
   rw [hfk] at hye
   rw [hye] at d2 HAL
   clear hv1 hu1 hxk hyk hxe hye hfk
   generalize xs[k].f=f at *
   obtain ⟨p,d,bs⟩:=f
   dsimp only at c0 c1 c2 d0 d1 d2 HAL
   generalize bs.length=nb at *
   unfold strV at *
   generalize (⟨p.toArray⟩:ByteArray)=P at *
   obtain ⟨w1,hw1⟩:∃ w1,w1=wr.alloc (.cells #[.string P,.bool d,.slice xa nb xc] 51):=⟨_,rfl⟩
   have m1:Mod No wr w1:=by rw [hw1];exact (Mod.refl No wr).alloc _
   have f1:w1.heap[wr.heap.size]? = some (.cells #[.string P,.bool d,.slice xa nb xc] 51 (0,0)):=by rw [hw1];exact heap_alloc_new wr _
   have e0:=m1.cell d0 (fun f=>f)
   have e1:=m1.cell d1 (fun f=>f)
   have e2:=m1.cell d2 (fun f=>f)
   have HW1:=zh hw1
   clear hw1 d0 d1 d2
   go_upto_region 6 with fail
   rw [<- HW1.out]
   clear c0 c1 c2
   obtain ⟨w2,hw2⟩:∃ w2,w2=w1.alloc (.cells #[.string P,.bool d,.slice ya nb yc] 51):=⟨_,rfl⟩
   have m2:Mod No w1 w2:=by rw [hw2];exact (Mod.refl No w1).alloc _
   have f2:w2.heap[w1.heap.size]? = some (.cells #[.string P,.bool d,.slice ya nb yc] 51 (0,0)):=by rw [hw2];exact heap_alloc_new w1 _
   have HW2:=zh hw2
   clear hw2
   go_upto_region 7 with fail
   rw [<- HW2.out]
   have g1:=m2.keep f1 (fun f=>f)
   have x0:=cell_ofA g1 (i:=0) rfl
   have x1:=cell_ofA g1 (i:=1) rfl
   have x2:=cell_ofA g1 (i:=2) rfl
   have y0:=cell_ofA f2 (i:=0) rfl
   have y1:=cell_ofA f2 (i:=1) rfl
   have y2:=cell_ofA f2 (i:=2) rfl
   have HM2:=zh (m1.trans m2)
   have HA2:=zh (HAL.out w2 HM2.out)
   clear e0 e1 e2 f1 f2 g1 m1 m2 HAL
   go_wp2_with fail
   with_reducible refine HA2.out.mono ?_
   rintro e w3 ⟨rfl,hm3⟩
   have HM3:=zh ((HM.out.trans HM2.out).trans hm3)
   clear hm3 HA2
   go_wp2_with fail
   exact ⟨⟨k+1,by omega,by simp,HM3.out⟩,by show xs.length - ((k:Int)+1).toNat < xs.length - (k:Int).toNat;omega⟩
  ·have hk1:¬ (k:Int) < (xs.length:Int):=by omega
   go_wp2_with fail
   exact fin hR ⟨rfl,HM.out⟩
set_option maxRecDepth 100000 in
theorem trees_any (xs ys:List FlX) (h:xs.map FlX.f=ys.map FlX.f) (v u:Value) (w:World) (hv:SvX w No v xs.length (xs.flatMap FlX.cells)) (hu:SvX w No u ys.length (ys.flatMap FlX.cells)) (hx:∀ x ∈ xs,FlIn w x) (hy:∀ y ∈ ys,FlIn w y) :
  Calls prog 40 #[v,u] w fun e w'=>e=.returned (.bool true)/\Mod No w w':=by
 refine calls_hide fun R hR=>?_
 have HE:=zh (eqfiles_any xs ys h v u w hv hu hx hy)
 obtain ⟨va,vc,rfl⟩:=hv.1
 obtain ⟨ua,uc,rfl⟩:=hu.1
 clear hv hu hx hy h
 go_enter func40,ntmps40
 go_wp2_with fail
 with_reducible refine HE.out.mono ?_
 rintro e w1 ⟨rfl,hm⟩
 have HM:=zh hm
 clear hm HE
 go_wp2_with fail
 exact fin hR ⟨rfl,HM.out⟩
def U8 (w:World) (B q:Nat):Prop:=B<=q/\∃ cur fz,w.heap[q]? = some (.cells cur 5 fz)
theorem own_u8 {w:World} {B:Nat} {v:Value} {n:Nat} {xs:List Value} (h:w.ownsRow B 5 1 v n xs) {q:Nat} (e:v.ownBlock=some q):U8 w B q:=by
 obtain ⟨h1,cur,h2⟩:=own_block_heapP h e
 exact ⟨h1,cur,_,h2⟩
theorem Mod.u8 {w w1 w2:World} {B:Nat} (h1:Mod (U8 w B) w w1) (h2:Mod (U8 w1 B) w1 w2):Mod (U8 w B) w w2 :=
 h1.then h2 fun i hi ⟨hb,cur,fz,hc⟩=>Classical.byContradiction fun hn=>hn ⟨hb,cur,fz,by rw [<- h1.block i hi hn];exact hc⟩
set_option maxRecDepth 100000 in
set_option maxHeartbeats 4000000 in
theorem aput_any {w:World} {B:Nat} {v:Value} {k:Nat} {xs:List Value} (hown:w.ownsRow B 5 1 v k xs) (hB:B<=w.heap.size) (n:Nat) (hn:n<=1000000000) (sz:Nat) (hs:sz<=8) (hk:k<=1000000000) :
  Calls prog 134 #[v,.int .i64 (n:Int),.int .i64 (sz:Int)] w fun e w'=>(∃ v' zs,e=.returned v'/\w'.ownsRow B 5 1 v' (k+sz) (xs++zs))/\Mod (U8 w B) w w':=by
 refine calls_hide fun R hR=>?_
 have HO:=zh hown
 obtain ⟨va,vc,rfl⟩:=own_len hown
 obtain ⟨i1,hi1,hz0,hz1,hz2⟩:=info_parts info_u8
 have hn0:(0:Int)<=(n:Int)/\(n:Int)<=1000000000:=by omega
 have hs0:(0:Int)<=(sz:Int)/\(sz:Int)<=8:=by omega
 clear hown
 go_enter func134,ntmps134
 go_wp2_with fail
 go_loopw [0,9] (fun q0 q9 wr=>∃ (i:Nat) (zs:List Value),i<=sz/\q9=.int .i64 (i:Int)/\wr.ownsRow B 5 1 q0 (k+i) (xs++zs)/\Mod (U8 w B) w wr) (fun _ q9 _=>sz - (intOf q9).toNat)
 case atStart=>exact ⟨0,[],Nat.zero_le _,rfl,by rw [List.append_nil];exact HO.out,Mod.refl _ _⟩
 case round =>
  obtain ⟨i,zs,hi,rfl,hown,hm⟩:=hrel
  have hi0:(0:Int)<=(i:Int):=Int.natCast_nonneg _
  have HW:=zh hown
  have HM:=zh hm
  obtain ⟨wa,wc,rfl⟩:=own_len hown
  clear hown hm
  by_cases hlt:i < sz
  ·have hi2:(i:Int) < (sz:Int):=by omega
   obtain ⟨j,hj⟩:∃ j,j=sz - 1 - i:=⟨_,rfl⟩
   have hj1:(sz:Int) - 1 - (i:Int)=(j:Int):=by omega
   have hj2:(0:Int)<=(j:Int)/\(j:Int)<=7:=by omega
   have hj3:j<=7:=by omega
   clear hj
   obtain ⟨uv,huv⟩:∃ u,u=Value.int .u8 ((n:Int) / 2 ^ (8*j) % 256):=⟨_,rfl⟩
   have hmA:Mod No wr (wr.alloc (.cells #[uv] 5)):=(Mod.refl No wr).alloc _
   have HOV:=zh (own_keepM HW.out hmA (fun _ _ f=>f))
   have hbase:B<=(wr.alloc (.cells #[uv] 5)).heap.size:=Nat.le_trans hB (Nat.le_trans HM.out.size hmA.size)
   have HMA:=zh hmA
   have HSL:=zh (sl_new wr 5 [uv] (Nat.le_refl 1) (by unfold maxLen;omega))
   have h1:∀ u ∈ [uv],u.oneCell'=true:=fun u hu=>by rw [List.mem_singleton.1 hu,huv];rfl
   rw [huv] at HOV hbase HMA HSL h1
   clear huv uv hmA
   go_wp2_with (at_builtin;refine app_sl _ rfl _ _ 41 rfl B 5 i1 (.int .u8 0) 1 1 underlying41 hi1 hz0 hz1 hz2 rfl (by decide) _ _ _ rfl HOV.out No 5 _ 1 _ rfl HSL.out rfl h1 (by unfold maxLen;omega) (by omega) hbase ?_)
   intro v7 w7 hown7 hg7 _
   have HM7:=zh (show Mod (U8 w B) w w7 from (HM.out.u8 (HMA.out.weaken (fun _ _ f=>f.elim))).u8 (Mod.of_grown (S:=U8 _ B) hg7 (fun q e _=>own_u8 HOV.out e)))
   have HO7:=zh hown7
   clear hown7 hg7 HOV HSL h1
   go_wp2_with fail
   exact ⟨⟨i+1,zs++[_],by omega,by simp,HO7.out,HM7.out⟩,by show sz - ((i:Int)+1).toNat < sz - (i:Int).toNat;omega⟩
  ·obtain rfl:i=sz:=by omega
   have hi2:¬ ((i:Int) < (i:Int)):=by omega
   go_wp2_with fail
   exact fin hR ⟨⟨_,zs,rfl,HW.out⟩,HM.out⟩
theorem wpList_app_run {P:Program} {w:World} {ops:Array Oper} {rest:List Oper} {o:Oper} {a:Act} {Q:Exit->Act->World->Prop} (hg:o.guard=none) (s x:Operand) (t t2:TypeId)
  (ho:o.op=.call { callee:=.builtin .append,args:=#[s,x],argTypes:=#[t,t2] }) (v u:Value) (hs:a.eval s=v) (hx:a.eval x=u) (v':Value) (w':World) (hr:(Builtin.append_ #[t,t2] o.type #[v,u]).run P w=.ok v' w')
  (h:wpList P ops Q rest (a.put o.dst v') w'):wpList P ops Q (o :: rest) a w :=
 wpList_plain hg fun K hK=>by
  unfold Oper.wp
  simp only [execOp,ho,resolve,invoke,builtin,Sem.run_bind,Sem.run_pure,Result.andThen_ok,List.map_toArray,List.map_cons,List.map_nil,hs,hx,hr]
  exact hK _ _ h
def BxA (w:World) (B:Nat) (v:Value) (n:Nat):Prop:=∃ zs:List Value,zs.length=n/\(w.ownsRow B 5 1 v n zs\/(0 < n/\∃ g,v=.slice (some ⟨g,0,none⟩) n n/\∀ j u,zs[j]? = some u->w.cell? ⟨g,j,none⟩=some u))
theorem BxA.len {w:World} {B:Nat} {v:Value} {n:Nat} (h:BxA w B v n):∃ a c,v=.slice a n c:=by
 obtain ⟨zs,-,h | ⟨-,g,h,-⟩⟩:=h
 ·exact own_len h
 ·exact ⟨_,_,h⟩
theorem BxA.no {w w':World} {B:Nat} {v:Value} {n:Nat} (h:BxA w B v n) (hm:Mod No w w'):BxA w' B v n:=by
 obtain ⟨zs,h1,h | ⟨h0,g,h2,h3⟩⟩:=h
 ·exact ⟨zs,h1,.inl (own_keepM h hm (fun _ _ f=>f))⟩
 ·exact ⟨zs,h1,.inr ⟨h0,g,h2,fun j u hu=>hm.cell (h3 j u hu) (fun f=>f)⟩⟩
theorem BxA.app {w:World} {B:Nat} {v:Value} {n:Nat} (h:BxA w B v n) (hB:B<=w.heap.size) (hn:n<=1000000000) {xb:Nat} {u:Value} (hu:w.cell? ⟨xb,0,none⟩=some u) (h1:u.oneCell'=true) :
  ∃ v' w' zs,(Builtin.append_ #[41,41] 41 #[v,.slice (some ⟨xb,0,none⟩) 1 1]).run prog w=.ok v' w'/\w'.ownsRow B 5 1 v' (n+1) zs/\Mod (U8 w B) w w':=by
 obtain ⟨i1,hi1,hz0,hz1,hz2⟩:=info_parts info_u8
 have hnews:∀ j v,[u][j]? = some v->w.cell? ((⟨xb,0,none⟩:Addr).add j)=some v:=fun j v hj=>by
  have hj2:j < 1:=(List.getElem?_eq_some_iff.1 hj).1
  obtain rfl:j=0:=by omega
  rw [Addr.add_lit]
  simp at hj
  rw [hu,hj]
 obtain ⟨zs,hz,h | ⟨h0,g,rfl,h3⟩⟩:=h
 ·obtain ⟨v',w',hr,ho,hg,-⟩:=run_append_own (P:=prog) w B 41 41 5 i1 (.int .u8 0) 1 1 underlying41 hi1 hz0 hz1 hz2 rfl (by decide) v n zs h ⟨xb,0,none⟩ 1 1 [u] rfl hnews (fun x hx=>by rw [List.mem_singleton.1 hx];exact h1) (by unfold maxLen;omega) (by omega) hB
  exact ⟨v',w',_,hr,ho,Mod.of_grown (S:=U8 w B) hg (fun q e _=>own_u8 h e)⟩
 ·obtain ⟨v',w',hr,ho,hm⟩:=run_app_full (P:=prog) 41 41 5 i1 (.int .u8 0) 1 1 B underlying41 hi1 hz0 hz1 hz2 rfl (.slice (some ⟨g,0,none⟩) n n) n zs (.inr ⟨⟨g,0,none⟩,rfl,by omega,fun j v hj=>by rw [Addr.add_lit,Nat.zero_add];exact h3 j v hj⟩) ⟨xb,0,none⟩ 1 1 [u] (by decide) rfl hnews (by unfold maxLen;omega) (by omega) hB
  exact ⟨v',w',_,hr,ho,hm.weaken (fun _ _ f=>f.elim)⟩
theorem own_app_sv {w:World} {B:Nat} {v:Value} {n m:Nat} {xs ys:List Value} {sv:Value} (h:w.ownsRow B 5 1 v n xs) (hB:B<=w.heap.size) (hn:n+m<=1000000000) (hs:SvX w No sv m ys) (hl:ys.length=m) (h1:∀ u ∈ ys,u.oneCell'=true) :
  ∃ v' w' zs,(Builtin.append_ #[41,41] 41 #[v,sv]).run prog w=.ok v' w'/\w'.ownsRow B 5 1 v' (n+m) zs/\Mod (U8 w B) w w':=by
 obtain ⟨i1,hi1,hz0,hz1,hz2⟩:=info_parts info_u8
 obtain ⟨⟨a,c,rfl⟩,hs⟩:=hs
 cases a with
 | none =>
  obtain rfl:m=0:=by
   rcases hs with ⟨h,_⟩ | ⟨e,⟨_,h,_⟩ | ⟨blk,o,c,cur,fz,hv,_⟩⟩
   ·exact h
   ·exact h
   ·cases hv
  refine ⟨v,w,xs,?_,h,Mod.refl _ _⟩
  rcases h.2 with ⟨rfl,rfl⟩ | ⟨g,cap,cur,rfl,_,_,hnc,_⟩
  ·simp [Builtin.append_,run_underlying underlying41,sizeOf,typeInfo,hi1,Builtin.lenOf,Builtin.firstCells]
  ·simp [Builtin.append_,run_underlying underlying41,sizeOf,typeInfo,hi1,Builtin.lenOf,Builtin.firstCells,hnc,storeCells]
 | some ad =>
  have hnews:∀ j u,ys[j]? = some u->w.cell? (ad.add j)=some u:=fun j u hu=>by
   rcases hs with ⟨_,h⟩ | ⟨e,hs⟩
   ·rw [h] at hu;cases hu
   ·obtain ⟨hj,rfl⟩:=List.getElem?_eq_some_iff.1 hu
    obtain ⟨b,o,c',hv,-⟩:=hs.shape (by omega)
    cases hv
    rw [Addr.add_lit]
    exact hs.cellN hj
  obtain ⟨v',w',hr,ho,hg,-⟩:=run_append_own (P:=prog) w B 41 41 5 i1 (.int .u8 0) 1 1 underlying41 hi1 hz0 hz1 hz2 rfl (by decide) v n xs h ad m c ys (by omega) hnews h1 (by unfold maxLen;omega) (by omega) hB
  exact ⟨v',w',_,hr,ho,Mod.of_grown (S:=U8 w B) hg (fun q e _=>own_u8 h e)⟩
theorem own_app_str {w:World} {B:Nat} {v:Value} {n:Nat} {xs:List Value} (h:w.ownsRow B 5 1 v n xs) (hB:B<=w.heap.size) (s:ByteArray) (hn:n+s.size<=1000000000) :
  ∃ v' w' zs,(Builtin.append_ #[41,9] 41 #[v,.string s]).run prog w=.ok v' w'/\w'.ownsRow B 5 1 v' (n+s.size) zs/\Mod (U8 w B) w w':=by
 obtain ⟨i1,hi1,hz0,hz1,hz2⟩:=info_parts info_u8
 obtain ⟨v',w',hr,ho,hg,-⟩:=Lib.run_append_own_string (P:=prog) w B 41 9 41 5 i1 underlying41 underlying9 hi1 hz0 hz1 hz2 v n xs h s (by unfold maxLen;omega) (by omega) hB
 exact ⟨v',w',_,hr,ho,Mod.of_grown (S:=U8 w B) hg (fun q e _=>own_u8 h e)⟩
theorem packF_dir (p b:List UInt8) (mp:Nat) (h:mp=min p.length 65535):packF ⟨p,true,b⟩=3+mp:=by
 unfold packF
 dsimp only
 rw [if_pos rfl,<- h]
 rfl
theorem packF_file (p b:List UInt8) (mp:Nat) (h:mp=min p.length 65535):packF ⟨p,false,b⟩=3+mp+(8+b.length):=by
 unfold packF
 dsimp only
 rw [if_neg (by decide),<- h]
theorem packF_le {f:Fl} (h:f.path.length<=1000000/\f.b.length<=1000000):packF f<=1100000:=by
 unfold packF
 have:min f.path.length 65535<=65535:=Nat.min_le_right _ _
 split <;> omega
theorem packS_le:∀ {l:List Fl},(∀ f ∈ l,f.path.length<=1000000/\f.b.length<=1000000)->(l.map packF).sum<=1100000*l.length
 | [],_=>Nat.le_refl 0
 | f :: l,h=>by
  have h1:=packF_le (h f (by simp))
  have h2:=packS_le (l:=l) fun g hg=>h g (by simp [hg])
  rw [List.map_cons,List.sum_cons,List.length_cons]
  omega
set_option maxRecDepth 100000 in
set_option maxHeartbeats 8000000 in
theorem pack_any (xs:List FlX) (v:Value) (w:World) (hv:SvX w No v xs.length (xs.flatMap FlX.cells)) (hx:∀ x ∈ xs,FlIn w x) (hl:xs.length<=100) (hb:∀ x ∈ xs,x.f.path.length<=1000000/\x.f.b.length<=1000000) :
  Calls prog 70 #[v] w fun e w'=>(∃ a c,e=.returned (.slice a (packL (xs.map FlX.f)) c))/\Mod No w w':=by
 refine calls_hide fun R hR=>?_
 have HV:=zh hv
 have HX:=zh hx
 obtain ⟨va,vc,rfl⟩:=hv.1
 obtain ⟨i1,hi1,hz0,hz1,hz2⟩:=info_parts info_u8
 have HPS:=zh (fun k=>packS_le (l:=(xs.take k).map FlX.f) fun f hf=>by
  obtain ⟨x,hx2,rfl⟩:=List.mem_map.1 hf
  exact hb x (List.mem_of_mem_take hx2))
 have kc:=Lib.run_convert_bytes_const (P:=prog) w 41 5 #[.int .u8 80,.int .u8 65,.int .u8 75,.int .u8 49] 4 4 underlying41 underlying5
 obtain ⟨B,hB⟩:∃ B,B=w.heap.size:=⟨_,rfl⟩
 have HBB:=zh hB
 clear hv hx hB
 go_enter func70,ntmps70
 go_wp2_with fail
 clear kc
 rw [<- HBB.out]
 generalize hw1:World.alloc w _=w1
 have HM1:=zh (show Mod (fun q=>B<=q) w w1 from by rw [<- hw1];exact ((Mod.refl No w).alloc _).weaken (fun _ _ f=>f.elim))
 have HBX1:=zh (show BxA w1 B (.slice (some ⟨B,0,none⟩) 4 4) 4 from ⟨[.int .u8 80,.int .u8 65,.int .u8 75,.int .u8 49],rfl,.inr ⟨by decide,B,rfl,fun j u hu=>by
  have h:=heap_alloc_new w (.cells #[.int .u8 80,.int .u8 65,.int .u8 75,.int .u8 49] 5 (4,5))
  rw [<- HBB.out] at h
  rw [<- hw1]
  exact cell_ofA h (by simpa using hu)⟩⟩)
 clear hw1
 go_loopw [3,12] (fun q3 q12 wr=>∃ k:Nat,k<=xs.length/\q12=.int .i64 (k:Int)/\BxA wr B q3 (4+(((xs.take k).map FlX.f).map packF).sum)/\Mod (fun q=>B<=q) w wr) (fun _ q12 _=>xs.length - (intOf q12).toNat)
 case atStart=>exact ⟨0,Nat.zero_le _,rfl,HBX1.out,HM1.out⟩
 case round =>
  obtain ⟨k,hk,rfl,hbx,hm⟩:=hrel
  have hk0:(0:Int)<=(k:Int):=Int.natCast_nonneg _
  have HM:=zh hm
  have hps:=HPS.out k
  rw [List.length_map,List.length_take] at hps
  obtain ⟨sk,hske⟩:∃ s,s=(((xs.take k).map FlX.f).map packF).sum:=⟨_,rfl⟩
  rw [<- hske] at hbx hps
  have HSK:=zh hske
  have HBX:=zh hbx
  obtain ⟨ba,bc,rfl⟩:=hbx.len
  clear hske
  have hbase:=hm.size
  have hBw:=HBB.out
  clear hbx hm HBX1 HM1
  by_cases hlt:k < xs.length
  ·have hk1:(k:Int) < (xs.length:Int):=by omega
   obtain ⟨b,o,c,hvs,_⟩:=HV.out.shape (by omega)
   cases hvs
   have HVr:=zh (HV.out.keepM HM.out (fun q cur e fz hq hc=>by
    have:=lt_of_heap hc;omega))
   obtain ⟨c0,c1,c2⟩:=fls_cells HVr.out hlt
   have HXA:=zh (SvX.avoid (HX.out _ (List.getElem_mem hlt)))
   have HXK:=zh (SvX.keepM (HX.out _ (List.getElem_mem hlt)) HM.out (fun q cur e fz hq hc=>by
    have:=lt_of_heap hc;omega))
   have hbk:=hb _ (List.getElem_mem hlt)
   have HSUM:=zh (show (((xs.take (k+1)).map FlX.f).map packF).sum=sk+packF xs[k].f by
    rw [HSK.out,List.take_succ_eq_append_getElem hlt,List.map_append,List.map_append,List.sum_append];simp)
   clear HSK
   generalize xs[k]=x at *
   obtain ⟨⟨pt,dr,bs⟩,bv0⟩:=x
   dsimp only at c0 c1 c2 hbk HSUM HXK HXA
   obtain ⟨⟨fa,fc,hbe⟩,-⟩:=HXK.out
   subst hbe
   obtain ⟨w3,hw3⟩:∃ w3,w3=wr.alloc (.cells #[strV pt,.bool dr,.slice fa bs.length fc] 51):=⟨_,rfl⟩
   have m3:Mod No wr w3:=by rw [hw3];exact (Mod.refl No wr).alloc _
   have hf3:w3.heap[wr.heap.size]? = some (.cells #[strV pt,.bool dr,.slice fa bs.length fc] 51 (0,0)):=by rw [hw3];exact heap_alloc_new wr _
   have HF3:=zh hf3
   have HM3:=zh m3
   have HW3:=zh hw3
   have p0:=cell_ofA hf3 (i:=0) rfl
   have p1:=cell_ofA hf3 (i:=1) rfl
   obtain ⟨mp,hmp,hmp2⟩:∃ mp:Nat,mp=min pt.length 65535/\mp<=pt.length:=⟨_,rfl,Nat.min_le_left _ _⟩
   have hto:=str_to pt (min pt.length 65535)
   have hpm:(⟨(pt.take (min pt.length 65535)).toArray⟩:ByteArray).size=mp:=by rw [str_len3,List.length_take];omega
   generalize (⟨(pt.take (min pt.length 65535)).toArray⟩:ByteArray)=PM at *
   have hsz:=str_len3 pt
   have hmin:min (pt.length:Int) 65535=(mp:Int):=by omega
   have hm65:mp<=65535:=by omega
   clear m3 hf3 hw3
   unfold strV at *
   generalize (⟨pt.toArray⟩:ByteArray)=PT at *
   have hto2:PT.extract 0 mp=PM:=by rw [hmp];exact hto
   have HMP:=zh hmp
   clear hmp
   have hsk:sk<=110000000:=by omega
   have hbx3:=HBX.out.no HM3.out
   have hsz3:B<=w3.heap.size:=by have:=HM3.out.size;omega
   clear hBw hbase
   cases dr with
   | true =>
    have hlit:=(Mod.refl No w3).alloc (.cells #[.int .u8 1] 5)
    obtain ⟨v5,w5,z5,hr5,ho5,hm5⟩:=(hbx3.no hlit).app (by have:=hlit.size;omega) (by omega) (xb:=w3.heap.size) (u:=.int .u8 1) (cell_ofA (heap_alloc_new w3 _) rfl) rfl
    have hm35:Mod (U8 w3 B) w3 w5:=Mod.u8 (hlit.weaken (fun _ _ f=>f.elim)) hm5
    obtain ⟨a5,e5,rfl⟩:=own_len ho5
    have hsz5:B<=w5.heap.size:=by have:=hm35.size;omega
    have HPU:=zh (show Calls prog 134 #[.slice a5 (4+sk+1) e5,.int .i64 (mp:Int),.int .i64 2] w5 fun e w'=>(∃ v' zs,e=.returned v'/\w'.ownsRow B 5 1 v' (4+sk+1+2) (z5++zs))/\Mod (U8 w5 B) w5 w' from aput_any ho5 hsz5 mp (by omega) 2 (by omega) (by omega))
    have HM5:=zh hm35
    clear ho5 hm5 hbx3 hm35 hlit
    go_upto_region 5 with fail
    rw [<- HW3.out]
    go_upto_region 9 with fail
    go_wp2_with (at_builtin;refine wpList_app_run rfl _ _ 41 41 rfl _ _ rfl rfl _ w5 hr5 ?_)
    with_reducible refine HPU.out.mono ?_
    rintro e w6 ⟨⟨v6,z6,rfl,ho6⟩,hm6⟩
    have hm36:=Mod.u8 HM5.out hm6
    obtain ⟨v7,w7,z7,hr7,ho7,hm7⟩:=own_app_str ho6 (by have:=hm6.size;omega) PM (by omega)
    rw [hpm] at ho7
    have hm37:=Mod.u8 hm36 hm7
    obtain ⟨a6,e6,rfl⟩:=own_len ho6
    obtain ⟨a7,e7,rfl⟩:=own_len ho7
    have hf7:=hm37.keep HF3.out (fun e=>by obtain ⟨-,cur,fz,hc⟩:=e;rw [HF3.out] at hc;cases hc)
    have q1:=cell_ofA hf7 (i:=1) rfl
    have q2:=cell_ofA hf7 (i:=2) rfl
    have HO7:=zh ho7
    have HF7:=zh hf7
    have HM7:=zh hm37
    have hsz7:B<=w7.heap.size:=by have:=hm37.size;omega
    clear ho6 hm6 hm36 hm7 hm37 hf7 ho7 HPU hr5 c0 c1 c2 p0 p1 hto hto2 hsz hmin hps hpm
    go_upto_region 10 with fail
    go_upto_region 11 with (at_builtin;refine wpList_app_run rfl (.tmp 32) (.tmp 33) 41 9 rfl (.slice a6 (4+sk+1+2) e6) (.string PM) rfl rfl (.slice a7 (4+sk+1+2+mp) e7) w7 hr7 ?_;go_frame)
    clear hr7
    have HMF:=zh (show Mod (fun q=>B<=q) w w7 from (HM.out.trans (HM3.out.weaken (fun _ _ f=>f.elim))).trans (HM7.out.weaken (fun _ _ h=>h.1)))
    have HPF:=zh (packF_dir pt bs mp HMP.out)
    have HSE:=zh (show 4+(((xs.take (k+1)).map FlX.f).map packF).sum=4+sk+1+2+mp by rw [HSUM.out,HPF.out];omega)
    go_upto_region 14 with fail
    go_wp2_with fail
    refine ⟨⟨k+1,by omega,by simp,?_,HMF.out⟩,by show xs.length - ((k:Int)+1).toNat < xs.length - (k:Int).toNat;omega⟩
    rw [HSE.out]
    exact ⟨z7,by have h:=HO7.out.1;omega,.inl HO7.out⟩
   | false =>
    have hlit:=(Mod.refl No w3).alloc (.cells #[.int .u8 0] 5)
    obtain ⟨v5,w5,z5,hr5,ho5,hm5⟩:=(hbx3.no hlit).app (by have:=hlit.size;omega) (by omega) (xb:=w3.heap.size) (u:=.int .u8 0) (cell_ofA (heap_alloc_new w3 _) rfl) rfl
    have hm35:Mod (U8 w3 B) w3 w5:=Mod.u8 (hlit.weaken (fun _ _ f=>f.elim)) hm5
    obtain ⟨a5,e5,rfl⟩:=own_len ho5
    have hsz5:B<=w5.heap.size:=by have:=hm35.size;omega
    have HPU:=zh (show Calls prog 134 #[.slice a5 (4+sk+1) e5,.int .i64 (mp:Int),.int .i64 2] w5 fun e w'=>(∃ v' zs,e=.returned v'/\w'.ownsRow B 5 1 v' (4+sk+1+2) (z5++zs))/\Mod (U8 w5 B) w5 w' from aput_any ho5 hsz5 mp (by omega) 2 (by omega) (by omega))
    have HM5:=zh hm35
    clear ho5 hm5 hbx3 hm35 hlit
    go_upto_region 5 with fail
    rw [<- HW3.out]
    go_upto_region 9 with fail
    go_wp2_with (at_builtin;refine wpList_app_run rfl _ _ 41 41 rfl _ _ rfl rfl _ w5 hr5 ?_)
    with_reducible refine HPU.out.mono ?_
    rintro e w6 ⟨⟨v6,z6,rfl,ho6⟩,hm6⟩
    have hm36:=Mod.u8 HM5.out hm6
    obtain ⟨v7,w7,z7,hr7,ho7,hm7⟩:=own_app_str ho6 (by have:=hm6.size;omega) PM (by omega)
    rw [hpm] at ho7
    have hm37:=Mod.u8 hm36 hm7
    obtain ⟨a6,e6,rfl⟩:=own_len ho6
    obtain ⟨a7,e7,rfl⟩:=own_len ho7
    have hf7:=hm37.keep HF3.out (fun e=>by obtain ⟨-,cur,fz,hc⟩:=e;rw [HF3.out] at hc;cases hc)
    have q1:=cell_ofA hf7 (i:=1) rfl
    have q2:=cell_ofA hf7 (i:=2) rfl
    have HO7:=zh ho7
    have HF7:=zh hf7
    have HM7:=zh hm37
    have hsz7:B<=w7.heap.size:=by have:=hm37.size;omega
    clear ho6 hm6 hm36 hm7 hm37 hf7 ho7 HPU hr5 c0 c1 c2 p0 p1 hto hto2 hsz hmin hps hpm
    go_upto_region 10 with fail
    go_upto_region 11 with (at_builtin;refine wpList_app_run rfl (.tmp 32) (.tmp 33) 41 9 rfl (.slice a6 (4+sk+1+2) e6) (.string PM) rfl rfl (.slice a7 (4+sk+1+2+mp) e7) w7 hr7 ?_)
    clear hr7
    have HM37:=zh (show Mod (fun q=>B<=q) w w7 from (HM.out.trans (HM3.out.weaken (fun _ _ f=>f.elim))).trans (HM7.out.weaken (fun _ _ h=>h.1)))
    have HPU2:=zh (show Calls prog 134 #[.slice a7 (4+sk+1+2+mp) e7,.int .i64 (bs.length:Int),.int .i64 8] w7 fun e w'=>(∃ v' zs,e=.returned v'/\w'.ownsRow B 5 1 v' (4+sk+1+2+mp+8) (z7++zs))/\Mod (U8 w7 B) w7 w' from aput_any HO7.out hsz7 bs.length (by omega) 8 (by omega) (by omega))
    go_upto_region 12 with fail
    go_wp2_with fail
    with_reducible refine HPU2.out.mono ?_
    rintro e w8 ⟨⟨v8,z8,rfl,ho8⟩,hm8⟩
    have HM8:=zh (show Mod (fun q=>B<=q) w w8 from HM37.out.trans (hm8.weaken (fun _ _ h=>h.1)))
    have hsx:SvX w8 No (.slice fa bs.length fc) bs.length (bv bs):=(HXA.out.keep HM8.out (fun q _ _ h1 h2=>h2 (.inr (by have:=HBB.out;omega)))).shrink (fun _ _ f=>f.elim)
    have hf8:=hm8.keep HF7.out (fun e=>by obtain ⟨-,cur,fz,hc⟩:=e;rw [HF7.out] at hc;cases hc)
    have r2:=cell_ofA hf8 (i:=2) rfl
    obtain ⟨v9,w9,z9,hr9,ho9,hm9⟩:=own_app_sv ho8 (by have:=hm8.size;omega) (by omega) hsx (bv_length _) (bv_one _)
    have HMF:=zh (show Mod (fun q=>B<=q) w w9 from HM8.out.trans (hm9.weaken (fun _ _ h=>h.1)))
    obtain ⟨a8,e8,rfl⟩:=own_len ho8
    obtain ⟨a9,e9,rfl⟩:=own_len ho9
    have HO9:=zh ho9
    clear ho8 hm8 hsx hf8 ho9 hm9 q1 q2 HPU2
    go_upto_region 13 with fail
    go_upto_region 14 with (at_builtin;refine wpList_app_run rfl (.tmp 43) (.tmp 45) 41 41 rfl (.slice a8 (4+sk+1+2+mp+8) e8) (.slice fa bs.length fc) rfl rfl (.slice a9 (4+sk+1+2+mp+8+bs.length) e9) w9 hr9 ?_)
    clear hr9
    have HPF:=zh (packF_file pt bs mp HMP.out)
    have HSE:=zh (show 4+(((xs.take (k+1)).map FlX.f).map packF).sum=4+sk+1+2+mp+8+bs.length by rw [HSUM.out,HPF.out];omega)
    go_wp2_with fail
    refine ⟨⟨k+1,by omega,by simp,?_,HMF.out⟩,by show xs.length - ((k:Int)+1).toNat < xs.length - (k:Int).toNat;omega⟩
    rw [HSE.out]
    exact ⟨z9,by have h:=HO9.out.1;omega,.inl HO9.out⟩
  ·obtain rfl:k=xs.length:=by omega
   have hk1:¬ ((xs.length:Int) < (xs.length:Int)):=by omega
   have HPL:=zh (show packL (xs.map FlX.f)=4+sk+1 by have h:=HSK.out;rw [List.take_length] at h;unfold packL;omega)
   have hsk:sk<=110000000:=by rw [Nat.min_self] at hps;omega
   have hmA:Mod No wr (wr.alloc (.cells #[.int .u8 255] 5)):=(Mod.refl No wr).alloc _
   obtain ⟨v',w',zs,hr,ho,hm'⟩:=(HBX.out.no hmA).app (by have:=hmA.size;omega) (by omega) (xb:=wr.heap.size) (u:=.int .u8 255) (cell_ofA (heap_alloc_new wr _) rfl) rfl
   have HMF:=zh (show Mod No w w' from (Mod.refl No w).then ((HM.out.trans (hmA.weaken (fun _ _ f=>f.elim))).trans (hm'.weaken (fun _ _ h=>h.1))) (fun i hi e=>by omega))
   have HO:=zh ho
   obtain ⟨ra,rc,rfl⟩:=own_len ho
   clear ho hm' hmA hk hlt hk1 hps
   go_wp2_with (at_builtin;refine wpList_app_run rfl _ _ 41 41 rfl _ _ rfl rfl _ w' hr ?_)
   exact fin hR ⟨⟨ra,rc,by rw [HPL.out];rfl⟩,HMF.out⟩
theorem ofG_code:∀ (l:List Fl) (t:Tr) (seen:List (List UInt8)) (c:Nat),ofG t seen l=.inr c->c ≠ 0
 | [],t,seen,c,h=>by unfold ofG at h;cases h
 | f :: l,t,seen,c,h=>by
  unfold ofG at h
  split at h
  split at h
  ·cases h;assumption
  ·split at h
   ·cases h;decide
   ·split at h
    ·rename_i h1
     cases h
     split at h1
     ·exact mkdir_code h1
     ·exact write_code h1
    ·exact ofG_code l _ _ _ h
def fitsT (l:List Fl):Bool:=match ofT l with
 | .inl _=>decide (packL l<=1048320)
 | .inr _=>false
set_option maxRecDepth 100000 in
set_option maxHeartbeats 4000000 in
theorem fits_any (xs:List FlX) (v:Value) (w:World) (hv:SvX w No v xs.length (xs.flatMap FlX.cells)) (hx:∀ x ∈ xs,FlIn w x) (hl:xs.length<=20) (hb:∀ x ∈ xs,x.f.path.length<=1000000/\x.f.b.length<=500) (hgl:Gl w) :
  Calls prog 26 #[v] w fun e w'=>e=.returned (.bool (fitsT (xs.map FlX.f)))/\Mod No w w':=by
 refine calls_hide fun R hR=>?_
 have HOF:=zh (tof_any xs v w hv hx hl hb hgl)
 have HPK:=zh (fun (W:World) (hm:Mod No w W)=>pack_any xs v W (hv.kn hm) (fun x h=>(hx x h).no hm) (by omega) (fun x h=>by have:=hb x h;omega))
 have HFT:=zh (show fitsT (xs.map FlX.f)=match ofT (xs.map FlX.f) with
  | .inl _=>decide (packL (xs.map FlX.f)<=1048320)
  | .inr _=>false from rfl)
 obtain ⟨va,vc,rfl⟩:=hv.1
 clear hv hx hgl
 go_enter func26,ntmps26
 go_wp2_with fail
 with_reducible refine HOF.out.mono ?_
 rintro e w1 ⟨hp,hm1⟩
 have HM1:=zh hm1
 clear hm1 HOF
 unfold OfPost at hp
 cases ho:ofT (xs.map FlX.f) with
 | inr c =>
  rw [ho] at hp HFT
  have hc:=ofG_code _ _ _ _ ho
  have hc0:((c:Int) == 0)=false:=by rw [beq_eq_false_iff_ne];omega
  have hp:e=.returned (.tuple #[.pointer none,.int .i64 (c:Int)]):=hp
  subst hp
  have HE:=zh (show fitsT (xs.map FlX.f)=false from HFT.out)
  clear HFT ho hc
  go_wp2_with fail
  exact fin hR ⟨by rw [HE.out];rfl,HM1.out⟩
 | inl t =>
  rw [ho] at hp HFT
  obtain ⟨q,m,g,rfl,-⟩:=hp
  have HPW:=zh (HPK.out w1 HM1.out)
  have HE:=zh (show fitsT (xs.map FlX.f)=decide (packL (xs.map FlX.f)<=1048320) from HFT.out)
  clear HFT ho HPK
  go_wp2_with fail
  with_reducible refine HPW.out.mono ?_
  rintro e w2 ⟨⟨pa,pc,rfl⟩,hm2⟩
  have HM2:=zh (HM1.out.trans hm2)
  clear hm2 HPW
  generalize packL (xs.map FlX.f)=pl at *
  go_wp2_with fail
  refine fin hR ⟨bool_ret ?_,HM2.out⟩
  rw [HE.out]
  simp
  try omega
end Go.Proofs.YtmppeipgjcjdkaaGreatDoor
