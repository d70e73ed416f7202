/-
  Layers 0 to 14: helps of the laws of indexes. No statement is proved here; no condition.
-/
import Derived.Test.YticfcmdjplmaeaaGreatDoorX25
import Derived.Test.YticfcmdjplmaeaaGreatDoorX06
set_option maxRecDepth 100000
set_option maxHeartbeats 64000000
namespace Go.Proofs.YticfcmdjplmaeaaGreatDoor
open _root_.Go.Proofs.Tryz
open Go.RowKit Go.Maps
theorem sameKey_strF (x k:List UInt8):(Lit.string x).sameKey (.string k)=decide (x=k):=by
 rw [Bool.eq_iff_iff,decide_eq_true_eq];constructor
 ·intro h;exact Lit.string.inj (WideAt.sameKey_eq h)
 ·rintro rfl;exact WideAt.sameKey_self (isKey_str _)
theorem info_strF:(prog.info? 9).map (fun i=>(i.zero,i.size,i.bytes))=some (some (.string ⟨#[]⟩),1,16):=by kernel_rfl
def seenV (seen:List UInt8->Nat):Vt:=fun n=>if seen n=0 then none else some (.int .i64 (seen n))
theorem seenV_get (seen:List UInt8->Nat) (n:List UInt8):(seenV seen n).getD (.int .i64 0)=.int .i64 (seen n):=by
 unfold seenV;split
 ·rename_i h;rw [h];rfl
 ·rfl
theorem seenV_bump (seen:List UInt8->Nat) (n:List UInt8):vPut (seenV seen) n (.int .i64 ((seen n:Int)+1))=seenV (bump seen n):=by
 funext x;unfold vPut seenV bump;by_cases h:x=n
 ·subst h;simp
 ·simp [h]
theorem seenV_zero:seenV (fun _=>0)=fun _=>none:=by funext n;simp [seenV]
theorem farCost_le {xl:List Rw} (h:∀ i,i < xl.length->(rwAt xl i).needs.length<=1000) (seen:List UInt8->Nat):farCost xl seen<=xl.length*1000:=by
 unfold farCost;have:∀ (l:List Nat),(∀ i ∈ l,i < xl.length)->(l.map fun i=>if 0 < seen (rwAt xl i).name then 0 else (rwAt xl i).needs.length).sum<=l.length*1000:=by
  intro l;induction l with
  | nil=>intro _;simp
  | cons i l ih =>
   intro hl;have h1:=ih fun j hj=>hl j (by simp [hj])
   have h2:=h i (hl i (by simp));simp only [List.map_cons,List.sum_cons,List.length_cons];split <;> omega
 have h1:=this (List.range xl.length) (fun i hi=>List.mem_range.1 hi);rw [List.length_range] at h1;exact h1
def farTo (xs:List Rw) (fx:Fix) (a:List UInt8) (l:List Nat):List (List UInt8):=(l.filter (okFix fx a)).flatMap fun i=>(rwAt xs i).needs.map (·.name)
theorem farTo_le {xl:List Rw} (h:∀ i,i < xl.length->(rwAt xl i).needs.length<=1000) (fx:Fix) (a:List UInt8) (l:List Nat) (hl:∀ i ∈ l,i < xl.length):(farTo xl fx a l).length<=l.length*1000:=by
 have h2:∀ (l:List Nat),(∀ i ∈ l,i < xl.length)->(l.flatMap fun i=>(rwAt xl i).needs.map (·.name)).length<=l.length*1000:=by
  intro l;induction l with
  | nil=>intro _;exact Nat.zero_le _
  | cons i l ih =>
   intro hl;have h1:=ih fun j hj=>hl j (List.mem_cons_of_mem _ hj)
   have h2:=h i (hl i (List.mem_cons_self ..));rw [List.flatMap_cons,List.length_append,List.length_map,List.length_cons,Nat.succ_mul];omega
 have h3:=h2 (l.filter (okFix fx a)) (fun i hi=>hl i (List.mem_filter.1 hi).1);have h4:(l.filter (okFix fx a)).length<=l.length:=List.length_filter_le ..;unfold farTo;exact Nat.le_trans h3 (Nat.mul_le_mul_right _ h4)
def FarRes (g:Sg) (fx:Fix) (c:Chs) (e:Ending):Prop:=∃ (s:ByteArray) (b:Bool),e=.returned (.tuple #[.string s,.bool b]) ∧
 (b=true->∃ a r,fx a=some (some r)/\¬ Sol.Far (solI g.xl g.nl) fx c a)/\(b=false->∀ a r,fx a=some (some r)->Sol.Far (solI g.xl g.nl) fx c a)
theorem far_any {g:Sg} (hg:g.Ok) {fx:Fix} {c:Chs} {A:List UInt8->List SnX} (w:World) (hw:SrAt w g fx c A) (hask:AskOk g.xl g.nl c (spA A)) (hc:∀ a r,c a=some r->r < g.xs.length/\(rwAt g.xl r).name=a) (hroom:∀ k,(A k).length<=1000000) (hfl:∀ a,fx a ≠ none->a.length<=1000000) :
  Calls prog 275 #[.pointer (some ⟨g.sb,0,none⟩)] w fun e w'=>FarRes g fx c e/\Mod No w w':=by
 refine calls_hide fun R hR=>?_
 have hmm:=@run_makeMap prog;obtain ⟨F,ha1,ha2⟩:=hw.asked;obtain ⟨DD,d1,d3⟩:=ha1.map.row;have o5:=cell_ofA hw.fix.obj (i:=5) (v:=.map (some g.ab)) rfl;obtain ⟨i0,hi0,hz0,hz1,hz2⟩:=info_parts info_strF;have HI:=zh (And.intro hi0 (And.intro hz0 (And.intro hz1 hz2)));have HW:=zh hw;have HG:=zh hg;have HASK:=zh hask;have HC:=zh hc;have HRM:=zh hroom;have HFLN:=zh hfl;have HA1:=zh ha1;have HA2:=zh ha2;have HMp:=zh d1;have HD:=zh d3;have habl:=ha1.map.lt;have HABL:=zh habl;clear hw hg hask hc hroom hfl ha1 ha2 d1 d3 hi0 hz0 hz1 hz2 habl;go_enter func275,ntmps275
 go_upto_region 2 with fail
 clear hmm;obtain ⟨mb,hmb⟩:∃ b,b=w.heap.size:=⟨_,rfl⟩
 rw [<- hmb];generalize hw1:World.alloc w _=w1;have hm1:Mod No w w1:=by rw [<- hw1];exact (Mod.refl No w).alloc _
 have HSN:=zh (show NMp w1 mb (seenV fun _=>0) by rw [<- hw1,hmb,seenV_zero];exact NMp.made w);have HMP1:=zh (Mp.keep HMp.out hm1 (fun f=>f));have o5:=hm1.cell o5 (fun f=>f);have HM1:=zh hm1;have HMB:=zh (show w.heap.size<=mb by rw [hmb];exact Nat.le_refl _);have HMB1:=zh (show mb < w1.heap.size by rw [<- hw1,hmb];simp);clear hmb hw1 hm1;go_wp2_with (at_range;refine wpList_range_own _ rfl _ 324 rfl 9 359 key_str underlying324 heldR g.ab (Maps.size DD) DD rfl HMP1.out ?_;intro w0 hrg0 hg0 hs0)
 go_frame
 have hmr:Mod No w1 w0:=Mod.of_grown hg0 (fun k e _=>by cases e);have HRG0:=zh hrg0;have HMR:=zh (HM1.out.trans hmr);have HSN0:=zh (HSN.out.keep hmr (fun f=>f));obtain ⟨r,hr⟩:∃ r,r=w1.heap.size:=⟨_,rfl⟩
 rw [<- hr] at HRG0 ⊢;obtain ⟨base,hbase⟩:∃ b,b=w0.heap.size:=⟨_,rfl⟩
 have HRR:=zh (show r < base from by rw [hbase,hs0,hr];omega);have HRW:=zh (show w1.heap.size<=r by rw [hr];exact Nat.le_refl _);have HMBR:=zh (show mb < r by rw [hr];exact HMB1.out);have HBB:=zh (show w.heap.size<=base from by rw [hbase];exact HMR.out.size);have HB0:=zh hbase;have HALL0:=zh (show ∀ a,A a ≠ []->Maps.has DD (.string a)=false->a ∈ ([]:List (List UInt8)) from fun a ha hl=>by
  have h1:F a ≠ none:=fun e=>ha (HA1.out.no a e)
  cases hF:F a with
  | none=>exact absurd hF h1
  | some v=>have:=((HD.out a).2 v hF).1;rw [hl] at this;cases this)
 clear hrg0 hg0 hs0 hmr hr hbase o5;go_loopw [5] (fun v wr=>∃ (left:Lit->Bool) (cnt:Nat) (l:List (List UInt8)),wr.ranges prog 9 heldR g.ab r (Maps.size DD) DD left cnt/\wr.ownsRow base 9 1 v l.length (strs l)/\(∀ a ∈ l,A a ≠ []/\left (.string a)=false)/\l.Nodup/\(∀ a,A a ≠ []->left (.string a)=false->a ∈ l)/\NMp wr mb (seenV fun _=>0)/\base<=wr.heap.size/\Mod No w wr) (fun _ wr=>wr.rangeLeft g.ab r)
 case atStart=>exact ⟨_,_,[],HRG0.out,World.ownsRow_nil _ _ _ _,(fun y hy=>by cases hy),List.nodup_nil,HALL0.out,HSN0.out,(by rw [HB0.out];exact Nat.le_refl _),HMR.out⟩
 case round =>
  obtain ⟨left,cnt,l,hrg,hown,hls,hnd,hal,hsn,hbs,hmod⟩:=hrel;obtain ⟨v,rfl⟩:∃ v,v=u5:=⟨_,rfl⟩
  have RG:=zh hrg;have MO:=zh hmod;have HO:=zh hown;have HLS:=zh hls;have HND:=zh hnd;have HAL:=zh hal;have HSN1:=zh hsn;have hin:∀ a ∈ l,a ∈ g.names:=fun a ha=>HA2.out a (fun e=>(hls a ha).1 (HA1.out.no a e))
  have hll:l.length<=100000:=Nat.le_trans (nodup_le hnd hin) HG.out.names;have HIN:=zh hin;obtain ⟨la,lc,hlv⟩:=own_len hown;subst hlv;clear hrg hmod hown hls hnd hal hsn hin;go_wp2_with (at_next;refine wpList_next_ranges _ rfl _ rfl 9 key_str heldR Go.Proofs.encStr (fun v:Value=>v) (fun key kl hk=>by obtain ⟨x,hx,_⟩:=Maps.keyOf_str underlying9 hk;exact ⟨x,hx⟩) (fun v y _=>⟨v,rfl⟩) g.ab r (Maps.size DD) DD left cnt rfl RG.out ?_ ?_)
  ·intro _ hl0;have HFI:=zh (show FarI g.xl g.nl fx c (fun _=>0) l from FarI.start HASK.out fun a=>by
    unfold spA;constructor
    ·intro h e;have h2:=(HLS.out a h).1;exact h2 (List.map_eq_nil_iff.1 e)
    ·intro h;exact HAL.out a (fun e=>h (by rw [e];rfl)) (by rw [hl0]))
   clear hl0 RG HLS HND HAL;have hfc:=farCost_le (xl:=g.xl) (fun i hi=>by
    rw [List.length_map] at hi;obtain ⟨h1,h2,-⟩:=HG.out.nds i hi;rw [<- rxAt_r,<- h1,List.length_map];exact h2.few) (fun _=>0)
   have hfw:=HG.out.few;rw [List.length_map] at hfc;have HN0:=zh (show l.length+farCost g.xl (fun _=>0)<=120000 by omega);clear hfc hfw;go_wp2_with fail
   go_loopg [5] (l.length+farCost g.xl (fun _=>0)) (fun k q wr=>∃ (seen:List UInt8->Nat) (l:List (List UInt8)) (v:Value),q=v/\k=l.length+farCost g.xl seen/\wr.ownsRow base 9 1 v l.length (strs l)/\NMp wr mb (seenV seen)/\FarI g.xl g.nl fx c seen l/\(∀ a ∈ l,a ∈ g.names)/\(∀ a,seen a ≠ 0->a ∈ g.names)/\(∀ a,seen a+k<=120000)/\base<=wr.heap.size/\Mod No w wr)
   case atStart=>exact ⟨fun _=>0,l,_,rfl,rfl,HO.out,HSN1.out,HFI.out,HIN.out,(fun a h=>absurd rfl h),(fun a=>by show 0+_<=_;have:=HN0.out;omega),hbs,MO.out⟩
   case round =>
    clear HO HSN1 HFI HIN HN0 MO hbs;obtain ⟨seen,l,v,rfl,hgk,hown,hsn,hfi,hin,hsi,hsk,hbs,hmod⟩:=hrel;have HO:=zh hown;have HSN:=zh hsn;have HFI:=zh hfi;have HIN:=zh hin;have HSI:=zh hsi;have HSK:=zh hsk;have HM:=zh hmod;have HGK:=zh hgk;have hln:l.length<=120000:=by have:=hsk [];omega
    clear hown hsn hfi hin hsi hsk hmod hgk;rcases List.eq_nil_or_concat l with rfl | ⟨l0,nm,rfl⟩
    ·have HFD:=zh (show ∀ a,0 < seen a ↔ Sol.Far (solI g.xl g.nl) fx c a from fun a=>HFI.out.done a);obtain ⟨va,vc,hvv⟩:=own_len HO.out;rw [List.length_nil] at hvv;subst hvv;obtain ⟨D2,e1,e3⟩:=HW.out.fixed.row;have HMP2:=zh (Mp.keep e1 HM.out (fun f=>f));have HD2:=zh e3;have hfbl:=HW.out.fixed.lt;have HFBL:=zh hfbl;have o3:=cell_ofA (HM.out.keep HW.out.fix.obj (fun f=>f)) (i:=3) (v:=.map (some g.fb)) rfl;clear e1 e3 hfbl HO HFI HIN HSK HGK hln;go_wp2_with (at_range;refine wpList_range_own _ rfl _ 282 rfl 9 3 key_str underlying282 heldR g.fb (Maps.size D2) D2 rfl HMP2.out ?_;intro w0 hrg0 hg0 hs0)
     go_frame
     have hmr:Mod No wr w0:=Mod.of_grown hg0 (fun k e _=>by cases e);have HRG0:=zh hrg0;have HMR2:=zh (HM.out.trans hmr);have HSN0:=zh (HSN.out.keep hmr (fun f=>f));obtain ⟨r2,hr2⟩:∃ r,r=wr.heap.size:=⟨_,rfl⟩
     rw [<- hr2] at HRG0 ⊢;have HR2:=zh (show wr.heap.size<=r2 by rw [hr2];exact Nat.le_refl _);have HMBR2:=zh (show mb ≠ r2 from fun e=>by have:=HSN.out.lt;omega);have HALL2:=zh (show ∀ a i,Maps.has D2 (.string a)=false->fx a=some (some i)->0 < seen a from fun a i hl hf=>by
      have h1:fixV fx a=some (.int .i64 (i:Int)):=by unfold fixV;rw [hf];rfl
      have:=((HD2.out a).2 _ h1).1;rw [hl] at this;cases this)
     clear hrg0 hg0 hs0 hmr hr2 o3 HSN;go_loopw [17] (fun _ wq=>∃ (left:Lit->Bool) (cnt:Nat),wq.ranges prog 9 heldR g.fb r2 (Maps.size D2) D2 left cnt/\(∀ a i,left (.string a)=false->fx a=some (some i)->0 < seen a)/\NMp wq mb (seenV seen)/\Mod No w wq) (fun _ wq=>wq.rangeLeft g.fb r2)
     case atStart=>exact ⟨_,_,HRG0.out,HALL2.out,HSN0.out,HMR2.out⟩
     case round =>
      have HWR:=zh HM.out;obtain ⟨left,cnt,hrg,hal,hsn,hmod⟩:=hrel;have RG:=zh hrg;have MO:=zh hmod;have HAL:=zh hal;have HSN:=zh hsn;clear hrg hmod hal hsn HRG0 HALL2 HSN0 HMR2 HMP2;go_wp2_with (at_next;refine wpList_next_ranges _ rfl _ rfl 9 key_str heldR Go.Proofs.encStr (fun v:Value=>v) (fun key kl hk=>by obtain ⟨x,hx,_⟩:=Maps.keyOf_str underlying9 hk;exact ⟨x,hx⟩) (fun v y _=>⟨v,rfl⟩) g.fb r2 (Maps.size D2) D2 left cnt rfl RG.out ?_ ?_)
      ·intro _ hl0;have HE:=zh (show ∀ a i,fx a=some (some i)->Sol.Far (solI g.xl g.nl) fx c a from fun a i hf=>(HFD.out a).1 (HAL.out a i (by rw [hl0]) hf));clear hl0;go_wp2_with fail
       exact fin hR ⟨⟨_,false,rfl,(fun h=>by cases h),fun _=>HE.out⟩,MO.out⟩
      ·intro x cv kl ya yb wN cnt1 hkey hleft hy hat hrg1 hlt hg1 hs1 hen;cases hy
       obtain ⟨x',hx',hkl,-⟩:=Maps.keyOf_str underlying9 hkey;obtain rfl:=encStr_inj hx';subst hkl;have hhas:Maps.has D2 (.string x)=true:=Maps.has_true_of_atKey (y:=.held cv) (fun zd=>hat zd);obtain ⟨u,hu⟩:∃ u,fixV fx x=some u:=by
        cases hM:fixV fx x with
        | none=>have:=(HD2.out x).1 hM;rw [hhas] at this;cases this
        | some v=>exact ⟨v,rfl⟩
       have hcv:cv=u:=by
        have h1:=hat .nil;rw [((HD2.out x).2 u hu).2] at h1;simpa using h1.symm
       subst hcv;have hm1:Mod (· = r2) wr wN:=Mod.of_grown hg1 (by rintro k ⟨⟩ _;rfl);have hm01:Mod No w wN:=MO.out.then hm1 (fun q hq e=>by have e':q=r2:=e;have h1:=HR2.out;have h2:=HWR.out.size;omega);have RG1:=zh hrg1;have M01:=zh hm01;have HLT:=zh hlt;have HSNN:=zh (HSN.out.keep hm1 (fun e=>HMBR2.out e));have HEN:=zh (show Go.Proofs.encStr x=.string ⟨x.toArray⟩ from rfl);rw [HEN.out] at hen ⊢;have HSKK:=zh (show ∀ a:List UInt8,(left (.string a) && !(Lit.string a).sameKey (.string x))=false->left (.string a)=false\/a=x from fun a h=>by
        rw [sameKey_strF] at h;by_cases e:a=x
        ·exact .inr e
        ·rw [decide_eq_false e] at h;exact .inl (by simpa using h))
       have hxl:x.length<=1000000000:=by
        have:=HFLN.out x (fun e=>by unfold fixV at hu;rw [e] at hu;cases hu);omega
       have hls:=HSNN.out.get (t:=282) (z:=.int .i64 0) underlying282 (by kernel_rfl) x hxl;rw [seenV_get] at hls;obtain ⟨NM,hNM⟩:∃ b:ByteArray,b=⟨x.toArray⟩:=⟨_,rfl⟩
       rw [<- hNM] at hls hen ⊢;obtain ⟨sn,hsnn⟩:∃ s:Nat,s=seen x:=⟨_,rfl⟩
       rw [<- hsnn] at hls;have HSNX:=zh hsnn;have hfu:fixV fx x=some cv:=hu;clear hkey hleft hat hrg1 hlt hg1 hs1 hhas hm1 hm01 hu hNM hxl hsnn;unfold fixV at hfu;cases hfx:fx x with
       | none=>rw [hfx] at hfu;cases hfu
       | some o =>
        rw [hfx] at hfu;have HFX:=zh hfx;cases o with
        | none =>
         obtain rfl:cv=.int .i64 (-1):=(Option.some.inj hfu).symm;have HREL:=zh (show ∀ a i,(left (.string a) && !(Lit.string a).sameKey (.string x))=false->fx a=some (some i)->0 < seen a from fun a i hl hf=>by
          rcases HSKK.out a hl with h | h
          ·exact HAL.out a i h hf
          ·subst h;rw [HFX.out] at hf;cases hf)
         clear hfu hfx;go_wp2_with fail
         exact ⟨⟨_,cnt1,RG1.out,HREL.out,HSNN.out,M01.out⟩,by rw [RG1.out.left_eq,RG.out.left_eq];exact HLT.out⟩
        | some i =>
         obtain rfl:cv=.int .i64 (i:Int):=(Option.some.inj hfu).symm;have hi1:((i:Int) == -1)=false:=by rw [beq_eq_false_iff_ne];omega
         have hi0:(0:Int)<=(i:Int):=Int.natCast_nonneg _;clear hfu hfx;rcases Nat.eq_zero_or_pos sn with h0 | h0
         ·subst h0;have HE:=zh (show ∃ a r,fx a=some (some r)/\¬ Sol.Far (solI g.xl g.nl) fx c a from ⟨x,i,HFX.out,fun hf=>by have h1:=(HFD.out x).2 hf;have h2:=HSNX.out;omega⟩);go_wp2_with fail
          exact fin hR ⟨⟨_,true,rfl,(fun _=>HE.out),fun h=>by cases h⟩,M01.out⟩
         ·have hz:((sn:Int) == 0)=false:=by simp;omega
          have HREL:=zh (show ∀ a i,(left (.string a) && !(Lit.string a).sameKey (.string x))=false->fx a=some (some i)->0 < seen a from fun a i hl hf=>by
           rcases HSKK.out a hl with h | h
           ·exact HAL.out a i h hf
           ·subst h;rw [<- HSNX.out];exact h0)
          go_wp2_with fail
          exact ⟨⟨_,cnt1,RG1.out,HREL.out,HSNN.out,M01.out⟩,by rw [RG1.out.left_eq,RG.out.left_eq];exact HLT.out⟩
    ·rw [List.concat_eq_append] at *;obtain ⟨p,hp⟩:∃ p,p=l0.length:=⟨_,rfl⟩
     have hlp:(l0++[nm]).length=p+1:=by simp [hp]
     have hown:=HO.out;rw [hlp] at hown hln;obtain ⟨gb,cap,hvv,hgb⟩:=own_shape hown (by omega);have hcapp:p+1<=cap:=by
      obtain ⟨-,⟨h0,-⟩ | ⟨g',cap',cur,h0,-,-,h1,-⟩⟩:=hown
      ·rw [hvv] at h0;cases h0
      ·rw [hvv] at h0;cases h0;exact h1
     have hcapm:cap<=maxLen:=by
      obtain ⟨-,⟨h0,-⟩ | ⟨g',cap',cur,h0,-,-,-,h1,-⟩⟩:=hown
      ·rw [hvv] at h0;cases h0
      ·rw [hvv] at h0;cases h0;exact h1
     rw [hvv] at hown;subst hvv;have HCAP:=zh hcapm;have hnin:nm ∈ g.names:=HIN.out nm (by simp);have HNIN:=zh hnin;have hnml:=HG.out.nlen nm hnin;have HNL:=zh hnml;have hcell:=(Sl.of_own (X:=No) hown (fun _ _ f=>f)).cellN (i:=p) (by unfold strs;rw [List.length_map,hlp];omega);rw [Nat.zero_add,show (strs (l0++[nm]))[p]'(by unfold strs;rw [List.length_map,hlp];omega)=strV nm from by unfold strs;simp [hp]] at hcell;have HO2:=zh (show wr.ownsRow base 9 1 (.slice (some ⟨gb,0,none⟩) p cap) l0.length (strs l0) by
      have h1:=own_cutN hown (Nat.le_succ p);rw [show (strs (l0++[nm])).take (p*1)=strs l0 by unfold strs;rw [Nat.mul_one,List.map_append,List.take_append_of_le_length (by rw [List.length_map,hp];exact Nat.le_refl _),List.take_of_length_le (by rw [List.length_map,hp];exact Nat.le_refl _)]] at h1;rw [<- hp];exact h1)
     have HP:=zh hp;have hsm:seen nm<=120000:=by have:=HSK.out nm;omega
     obtain ⟨NM,hNM⟩:∃ b:ByteArray,b=⟨nm.toArray⟩:=⟨_,rfl⟩
     have HNMB:=zh hNM;have hl1:=HSN.out.get (t:=282) (z:=.int .i64 0) underlying282 (by kernel_rfl) nm (by omega);rw [seenV_get,<- HNMB.out] at hl1;unfold strV at hcell;rw [<- HNMB.out] at hcell;have hp0:(0:Int)<=(p:Int):=Int.natCast_nonneg _;have hp1:(p:Int)<=120000:=by omega
     have hs0:(0:Int)<=(seen nm:Int):=Int.natCast_nonneg _;have hs1:(seen nm:Int)<=120000:=by omega
     have HNXT:=zh (show ∀ k',k' < gk->∀ a,bump seen nm a+k'<=120000 from fun k' hk' a=>by
      have:=HSK.out a;unfold bump;split
      ·rename_i e;subst e;omega
      ·omega)
     have HBN:=zh (show ∀ a,bump seen nm a ≠ 0->a ∈ g.names from fun a ha=>by
      rcases bump_pos.1 (Nat.pos_of_ne_zero ha) with rfl | h
      ·exact HNIN.out
      ·exact HSI.out a (by omega))
     obtain ⟨sn,hsn⟩:∃ s:Nat,s=seen nm:=⟨_,rfl⟩
     rw [<- hsn] at hl1 hs0 hs1;have HSNM:=zh hsn;clear hown hnin hnml hNM hp hlp hgb hln hsm hsn HO hcapm;go_upto_region 12 with (refine wpList_nput rfl _ _ _ 282 3 rfl underlying282 rfl HSN.out (names:=g.names) (fun k hk=>HSI.out k (fun e=>hk (by unfold seenV;rw [if_pos e]))) (by have:=HG.out.names;unfold maxLen;omega) nm (by have:=HNL.out;omega) (.int .i64 ((sn:Int)+1)) (by show Value.string NM=_;rw [HNMB.out]) rfl ?_;intro w2 hnp hmm hszz)
     have HSN2:=zh (show NMp w2 mb (seenV (bump seen nm)) by rw [<- seenV_bump,<- HSNM.out];exact hnp);have hmm0:Mod No w w2:=HM.out.then hmm (fun q hq e=>by have:=HMB.out;have e':q=mb:=e;omega);have HM2:=zh hmm0;have HO3:=zh (own_keepM HO2.out hmm (fun q hq e=>by have e':q=mb:=e;have h1:=own_baseS HO2.out hq;have h2:=HMBR.out;have h3:=HRR.out;omega));have HBW:=zh (show base<=w2.heap.size from Nat.le_trans hbs hmm.size);have hl2:=HSN2.out.get (t:=282) (z:=.int .i64 0) underlying282 (by kernel_rfl) nm (by have:=HNL.out;omega);rw [seenV_get,show bump seen nm nm=sn+1 by unfold bump;rw [if_pos rfl,HSNM.out],<- HNMB.out] at hl2;have hl2:(Instr.lookup 282 (.map (some mb)) (.string NM) false).run prog w2=.ok (.int .i64 ((sn:Int)+1)) w2:=hl2;clear hnp hmm hszz hmm0 hl1 hcell HSN HM hbs;rcases Nat.eq_zero_or_pos sn with h0 | h0
     ·have hgt:¬ ((1:Int) < (sn:Int)+1):=by omega
      have HZ:=zh (show seen nm=0 by rw [<- HSNM.out];exact h0);have HFT:=zh (HFI.out.take);have HCO:=zh (show l0.length+(farPush g.xl fx c nm).length+farCost g.xl (bump seen nm) < gk by
       have:=far_cost (xs:=g.xl) (fx:=fx) (c:=c) HZ.out (fun i hi=>by have:=HC.out nm i hi;rw [List.length_map];exact this);rw [HGK.out,List.length_append,List.length_singleton];omega)
      have HPN:=zh (show ∀ a ∈ farPush g.xl fx c nm,a ∈ g.names from fun a ha=>by
       obtain ⟨i,nd,h1,-,h3,rfl⟩:=farPush_mem.1 ha;have hil:i < g.xs.length:=by
        cases hcn:c nm with
        | none=>rw [hcn] at h1;have h2:=(rowsN_mem.1 h1).1;rw [List.length_map] at h2;exact h2
        | some j=>rw [hcn] at h1;subst h1;exact (HC.out nm _ hcn).1
       obtain ⟨h4,-,h5⟩:=HG.out.nds i hil;rw [<- rxAt_r,<- h4] at h3;obtain ⟨y,hy,rfl⟩:=List.mem_map.1 h3;exact h5 y hy)
      have HL0:=zh (show l0.length<=120000 by rw [<- HP.out];omega);obtain ⟨bv,hby,hbs2⟩:=HW.out.fix.byAt nm (by have:=HNL.out;omega);have hrle:=rowsN_le g.xl nm;rw [List.length_map] at hrle;have hfew:=HG.out.few;obtain ⟨ba,bc,hbv⟩:=hbs2.len;have hlb:=hby w2 HM2.out;rw [hbv,<- HNMB.out] at hlb;have HBSL:=zh (show Sl w2 No 3 (.slice ba (rowsN g.xl nm).length bc) (rowsN g.xl nm).length ((rowsN g.xl nm).map intV) by rw [<- hbv];exact (hbs2.shrink (fun _ _ f=>f.elim)).kn HM2.out);have hlc:=(HW.out.chosen.keep HM2.out (fun f=>f)).look (t:=282) (z:=.int .i64 0) underlying282 (by kernel_rfl) nm (by have:=HNL.out;omega);rw [<- HNMB.out] at hlc;have o2:=cell_ofA (HM2.out.keep HW.out.fix.obj (fun f=>f)) (i:=2) (v:=.map (some g.bb)) rfl;have o4:=cell_ofA (HM2.out.keep HW.out.fix.obj (fun f=>f)) (i:=4) (v:=.map (some g.cb)) rfl;have hbs:=HBW.out;clear hby hbs2 hbv HFI HZ;rcases cho_look c nm with ⟨h1,h2,h3⟩ | ⟨r1,h1,h2,h3⟩
      ·rw [h2,h3] at hlc;obtain ⟨Rs,hRs⟩:∃ Rs,Rs=rowsN g.xl nm:=⟨_,rfl⟩
       have HFR:=zh (show farPush g.xl fx c nm=farTo g.xl fx nm Rs by unfold farPush farRows farTo;rw [h1,hRs]);have HRI:=zh (show ∀ i ∈ Rs,i < g.xs.length from fun i hi=>by rw [hRs] at hi;have:=(rowsN_mem.1 hi).1;rw [List.length_map] at this;exact this);rw [<- hRs] at HBSL hlb hrle;have HR20:=zh (show Rs.length<=20 by omega);obtain ⟨nr,hnr⟩:∃ n,n=Rs.length:=⟨_,rfl⟩
       rw [<- hnr] at HBSL hlb hrle;have HNR:=zh hnr;have HRS:=HBSL;have HOS:=HO3;have HSS:=HSN2;have HMS:=HM2;obtain ⟨wS,hwS⟩:∃ z,z=w2:=⟨_,rfl⟩
       subst hwS;clear h1 h2 h3 hRs hnr;go_wp2_with fail
       go_loopw [5,83] (fun q5 q83 wr=>∃ (j:Nat) (v:Value),j<=nr/\q83=.int .i64 (j:Int)/\q5=v/\wr.ownsRow base 9 1 v (l0++farTo g.xl fx nm (Rs.take j)).length (strs (l0++farTo g.xl fx nm (Rs.take j)))/\NMp wr mb (seenV (bump seen nm))/\Sl wr No 3 (.slice ba nr bc) nr (Rs.map intV)/\base<=wr.heap.size/\Mod No w wr) (fun _ q _=>nr - (intOf q).toNat)
       case atStart=>exact ⟨0,_,by omega,rfl,rfl,(by rw [List.take_zero];show wS.ownsRow base 9 1 _ (l0++[]).length (strs (l0++[]));rw [List.append_nil];exact HOS.out),HSS.out,HRS.out,hbs,HMS.out⟩
       case round =>
        clear HOS HSS HRS hbs HMS;obtain ⟨j,v,hj,rfl,rfl,hown,hsn,hrs,hbj,hmod⟩:=hrel;have HOJ:=zh hown;have HSJ:=zh hsn;have HRJ:=zh hrs;have HMJ:=zh hmod;have hj0:(0:Int)<=(j:Int):=Int.natCast_nonneg _;obtain ⟨va,vc,hvv⟩:=own_len hown;subst hvv;clear hown hsn hrs hmod;by_cases hlt:j < nr
        ·have hj1:(j:Int) < (nr:Int):=by omega
         have hjl:j < Rs.length:=by rw [<- HNR.out];exact hlt
         obtain ⟨b,o,c2,hvs,_⟩:=HRJ.out.shape (by omega);have hsl:=HRJ.out;rw [hvs] at hsl;have hcell:=hsl.cellN (i:=j) (by rw [List.length_map];exact hjl);rw [List.getElem_map] at hcell;unfold intV at hcell;cases hvs
         try rw [Nat.zero_add] at hcell
         have hil:=HRI.out _ (List.getElem_mem hjl);have HTO:=zh (show okFix fx nm Rs[j]=true->farTo g.xl fx nm (Rs.take (j+1))=farTo g.xl fx nm (Rs.take j)++(rwAt g.xl Rs[j]).needs.map (·.name) from fun h=>by
          unfold farTo;rw [List.take_succ_eq_append_getElem hjl,List.filter_append,List.flatMap_append];simp [h])
         have HTN:=zh (show okFix fx nm Rs[j]=false->farTo g.xl fx nm (Rs.take (j+1))=farTo g.xl fx nm (Rs.take j) from fun h=>by
          unfold farTo;rw [List.take_succ_eq_append_getElem hjl,List.filter_append,List.flatMap_append];simp [h])
         have hlen2:(l0++farTo g.xl fx nm (Rs.take j)).length<=150000:=by
          have h1:=farTo_le (xl:=g.xl) (fun i hi=>by
           rw [List.length_map] at hi;obtain ⟨h1,h2,-⟩:=HG.out.nds i hi;rw [<- rxAt_r,<- h1,List.length_map];exact h2.few) fx nm (Rs.take j) (fun i hi=>by rw [List.length_map];exact HRI.out i (List.mem_of_mem_take hi))
          have h2:(Rs.take j).length<=20:=by rw [List.length_take];have:=HR20.out;omega
          rw [List.length_append];have:=HL0.out;omega
         obtain ⟨fv,fb,hf1,hf2,hf3⟩:=fix_look fx nm Rs[j];have hlf:=(HW.out.fixed.keep HMJ.out (fun f=>f)).look (t:=282) (z:=.int .i64 0) underlying282 (by kernel_rfl) nm (by have:=HNL.out;omega);rw [hf1,hf2,<- HNMB.out] at hlf;have o3:=cell_ofA (HMJ.out.keep HW.out.fix.obj (fun f=>f)) (i:=3) (v:=.map (some g.fb)) rfl;obtain ⟨i,hi⟩:∃ i,i=Rs[j]:=⟨_,rfl⟩
         rw [<- hi] at hcell hil HTO HTN hf3;have HF3:=zh hf3;clear hf1 hf2 hf3 hsl hi;rcases fb with _ | _
         ·have HOKK:=zh (show okFix fx nm i=true by rw [HF3.out];rfl);obtain ⟨rb,ro,rc,hrv,-,-,hr5⟩:=HW.out.fix.cells HG.out hil;have hndl:=HW.out.fix.nds i hil;obtain ⟨na,nc,hnv⟩:=hndl.sl.len;have g0:=cell_ofA (HMJ.out.keep HW.out.fix.obj (fun f=>f)) (i:=0) (v:=g.rv) rfl;rw [hrv] at g0;have hr5:=HMJ.out.cell hr5 (fun f=>f);rw [hnv] at hr5 hndl;obtain ⟨ns,hns⟩:∃ ns,ns=g.nx i:=⟨_,rfl⟩
          rw [<- hns] at hndl hr5;obtain ⟨hq1,hq2,hq3⟩:=HG.out.nds i hil;have HNN:=zh (show (rwAt g.xl i).needs.map (·.name)=ns.map (fun y=>y.n.name) by rw [hns,<- rxAt_r,<- hq1,List.map_map];rfl);have hnf:ns.length<=1000:=by rw [hns];exact hq2.few
          have HNDL:=zh hndl;have hiL:(i:Int) < (g.xs.length:Int):=by omega
          have hiO:(0:Int)<=(i:Int):=Int.natCast_nonneg _;obtain ⟨nn,hnn⟩:∃ n,n=ns.length:=⟨_,rfl⟩
          rw [<- hnn] at hr5 hnf HNDL;have HNNL:=zh hnn;obtain ⟨P,hP⟩:∃ P,P=l0++farTo g.xl fx nm (Rs.take j):=⟨_,rfl⟩
          rw [<- hP] at HOJ hlen2 ⊢;have HPP:=zh hP;have HWJ0:=zh HMJ.out;clear hrv hndl hnv hns hq1 hq2 hq3 hnn hP;go_wp2_with fail
          clear g0 hr5;go_loopw [5,111] (fun q5 q111 wr=>∃ (m:Nat) (v:Value),m<=nn/\q111=.int .i64 (m:Int)/\q5=v/\wr.ownsRow base 9 1 v (P++(ns.take m).map (fun y=>y.n.name)).length (strs (P++(ns.take m).map (fun y=>y.n.name)))/\NMp wr mb (seenV (bump seen nm))/\Sl wr No 3 (.slice (some ⟨b,o,none⟩) nr bc) nr (Rs.map intV)/\base<=wr.heap.size/\Mod No w wr) (fun _ q _=>nn - (intOf q).toNat)
          case atStart=>exact ⟨0,_,by omega,rfl,rfl,(by rw [List.take_zero,List.map_nil,List.append_nil];exact HOJ.out),HSJ.out,HRJ.out,hbj,HMJ.out⟩
          case round =>
           clear HOJ HSJ HRJ HMJ hbj;obtain ⟨m,v,hm,rfl,rfl,hown,hsn,hrs,hbj,hmod⟩:=hrel;have HO:=zh hown;have HSJ:=zh hsn;have HRJ:=zh hrs;have HMJ:=zh hmod;have hm0:(0:Int)<=(m:Int):=Int.natCast_nonneg _;obtain ⟨va,vc,hvv⟩:=own_len hown;subst hvv;have hndl:=HNDL.out.keep HMJ.out (fun _ f=>f.elim);clear hown hsn hrs hmod;by_cases hltm:m < nn
           ·have hm1:(m:Int) < (nn:Int):=by omega
            have hml:m < ns.length:=by rw [<- HNNL.out];exact hltm
            have hsl:=hndl.sl;rw [<- HNNL.out] at hsl;obtain ⟨b,o,c2,hvs,_⟩:=hsl.shape (by omega);have hna:na=some ⟨b,o,none⟩:=by cases hvs;rfl
            rw [hna] at hsl;have hrg:=Sl.at NdX.cells_length (by rw [HNNL.out] at hsl;exact hsl) hml;subst hna;obtain ⟨oa,om,oc,hov⟩:∃ a q c,ns[m].ov=.slice a q c:=by
             obtain ⟨_,-,-,h⟩:=(hndl.each _ (List.getElem_mem hml)).no;obtain ⟨a,c,e⟩:=h.len;exact ⟨a,_,c,e⟩
            have HTKM:=zh (show P++(ns.take (m+1)).map (fun y=>y.n.name)=P++(ns.take m).map (fun y=>y.n.name)++[ns[m].n.name] by
             rw [List.take_succ_eq_append_getElem hml,List.map_append,List.append_assoc];rfl)
            generalize ns[m]=y at *;have hcs:NdX.cells y=[.string ⟨y.n.name.toArray⟩,.bool y.n.span.any,.slice oa om oc,.string ⟨y.n.text.toArray⟩]:=by unfold NdX.cells strV;rw [hov]
            rw [hcs] at hrg;have hlq:(P++(ns.take m).map (fun y=>y.n.name)).length<=200000:=by
             rw [List.length_append,List.length_map,List.length_take];omega
            obtain ⟨Q,hQ⟩:∃ Q,Q=P++(ns.take m).map (fun y=>y.n.name):=⟨_,rfl⟩
            rw [<- hQ] at HO HTKM hlq ⊢;obtain ⟨NY,hNY⟩:∃ b:ByteArray,b=⟨y.n.name.toArray⟩:=⟨_,rfl⟩
            rw [<- hNY] at hrg;have HNY:=zh hNY;generalize y.n.span.any=yan at *;generalize (⟨y.n.text.toArray⟩:ByteArray)=YT at *;have HRG:=zh hrg;obtain ⟨hi0,hz0,hz1,hz2⟩:=HI.out;clear hsl hrg hov hcs hQ hNY hvs hndl;go_upto_region 25 with (refine wpList_load_mid rfl 98 _ rfl b (o+m*4) rfl _ _ HRG.out underlying98 rfl (by kernel_rfl) ?_)
            obtain ⟨nb,hnb⟩:∃ g,g=wr.heap.size:=⟨_,rfl⟩
            rw [<- hnb];generalize hwb:World.alloc wr _=wb;have hmb2:Mod No wr wb:=by rw [<- hwb];exact (Mod.refl No wr).alloc _
            have n0:wb.cell? ⟨nb,0,none⟩=some (.string NY):=cell_ofA (e:=98) (fz:=(0,0)) (xs:=#[.string NY,.bool yan,.slice oa om oc,.string YT]) (by rw [<- hwb,hnb];exact heap_alloc_new wr _) rfl;have HMB2:=zh hmb2;have HOB:=zh (own_keepM HO.out hmb2 (fun _ _ f=>f));have hbb:base<=wb.heap.size:=Nat.le_trans hbj hmb2.size;clear hnb hwb hmb2;go_wp2_with (at_builtin;refine app_sl _ rfl _ _ 38 rfl base 9 i0 (.string ⟨#[]⟩) 1 16 underlying38 hi0 hz0 hz1 hz2 rfl (by decide) _ Q.length _ rfl (own_keepM HOB.out ((Mod.refl No wb).alloc _) (fun _ _ f=>f)) No 9 (.slice (some ⟨wb.heap.size,0,none⟩) 1 1) 1 [.string NY] rfl (.inr ⟨wb.heap.size,0,1,_,_,rfl,Nat.le_refl _,by unfold maxLen;omega,fun f=>f,heap_alloc_new wb _,by simp,fun i hi=>by simp⟩) rfl (fun u hu=>by rw [List.mem_singleton.1 hu];rfl) (by unfold maxLen;omega) (by omega) (Nat.le_trans hbb ((Mod.refl No wb).alloc _).size) ?_;intro v7 w7 hown7 hg7 _;have HO7:=zh hown7;have HG7:=zh hg7;clear hown7 hg7)
            have hm7:Mod (fun q=>(Value.slice va Q.length vc).ownBlock=some q) wr w7:=(HMB2.out.no.trans ((Mod.refl No wb).alloc (.cells #[.string NY] 9)).no).trans (Mod.of_grown HG7.out (fun q e _=>e));have hOff:∀ {q:Nat},(Value.slice va Q.length vc).ownBlock=some q->base<=q:=fun e=>own_baseS HO.out e
            have hTy:∀ {q:Nat} {cur:Array Value} {t:TypeId} {fz:Nat × Nat},t ≠ 9->(Value.slice va Q.length vc).ownBlock=some q->wr.heap[q]? ≠ some (.cells cur t fz):=fun ht e hh=>by
             obtain ⟨cur2,h2⟩:=own_heapM HO.out e;rw [hh] at h2;cases h2;exact ht rfl
            have HM7:=zh (show Mod No w w7 from HMJ.out.then hm7 (fun q hq e=>by have:=hOff e;have:=HBB.out;omega));have HS7:=zh (HSJ.out.keep hm7 (fun e=>by have h0:=hOff e;have h1:=HMBR.out;have h2:=HRR.out;omega));have HR7:=zh (HRJ.out.keep hm7 (fun k cur fz e _ hh=>hTy (by decide) e hh));have HOO:=zh (show w7.ownsRow base 9 1 v7 (Q++[y.n.name]).length (strs (Q++[y.n.name])) by
             rw [List.length_append,List.length_singleton,strs_append];have h:=HO7.out;rw [HNY.out] at h;exact h)
            have hb7:base<=w7.heap.size:=Nat.le_trans hbj hm7.size;clear hOff hTy hm7 hbb;go_wp2_with fail
            exact ⟨⟨m+1,v7,(by omega),rfl,rfl,(by rw [HTKM.out];exact HOO.out),HS7.out,HR7.out,hb7,HM7.out⟩,by show nn - ((m:Int)+1).toNat < nn - (m:Int).toNat;omega⟩
           ·obtain rfl:m=nn:=by omega
            have hm1:¬ ((m:Int) < (m:Int)):=by omega
            have HPF:=zh (show P++(ns.take m).map (fun y=>y.n.name)=l0++farTo g.xl fx nm (Rs.take (j+1)) by
             have h9:ns.take m=ns:=List.take_of_length_le (by have:=HNNL.out;omega);rw [HTO.out HOKK.out,HNN.out,HPP.out,h9,List.append_assoc])
            have HOF:=zh (show wr.ownsRow base 9 1 (.slice va (P++(ns.take m).map (fun y=>y.n.name)).length vc) (l0++farTo g.xl fx nm (Rs.take (j+1))).length (strs (l0++farTo g.xl fx nm (Rs.take (j+1)))) by rw [<- HPF.out];exact HO.out);go_wp2_with fail
            exact ⟨⟨j+1,_,(by omega),rfl,rfl,HOF.out,HSJ.out,HRJ.out,hbj,HMJ.out⟩,by show nr - ((j:Int)+1).toNat < nr - (j:Int).toNat;omega⟩
         ·by_cases hv:fv=(i:Int)
          ·have hv1:(fv == (i:Int))=true:=by simpa using hv
           have HOKK:=zh (show okFix fx nm i=true by rw [HF3.out,hv1];rfl);obtain ⟨rb,ro,rc,hrv,-,-,hr5⟩:=HW.out.fix.cells HG.out hil;have hndl:=HW.out.fix.nds i hil;obtain ⟨na,nc,hnv⟩:=hndl.sl.len;have g0:=cell_ofA (HMJ.out.keep HW.out.fix.obj (fun f=>f)) (i:=0) (v:=g.rv) rfl;rw [hrv] at g0;have hr5:=HMJ.out.cell hr5 (fun f=>f);rw [hnv] at hr5 hndl;obtain ⟨ns,hns⟩:∃ ns,ns=g.nx i:=⟨_,rfl⟩
           rw [<- hns] at hndl hr5;obtain ⟨hq1,hq2,hq3⟩:=HG.out.nds i hil;have HNN:=zh (show (rwAt g.xl i).needs.map (·.name)=ns.map (fun y=>y.n.name) by rw [hns,<- rxAt_r,<- hq1,List.map_map];rfl);have hnf:ns.length<=1000:=by rw [hns];exact hq2.few
           have HNDL:=zh hndl;have hiL:(i:Int) < (g.xs.length:Int):=by omega
           have hiO:(0:Int)<=(i:Int):=Int.natCast_nonneg _;obtain ⟨nn,hnn⟩:∃ n,n=ns.length:=⟨_,rfl⟩
           rw [<- hnn] at hr5 hnf HNDL;have HNNL:=zh hnn;obtain ⟨P,hP⟩:∃ P,P=l0++farTo g.xl fx nm (Rs.take j):=⟨_,rfl⟩
           rw [<- hP] at HOJ hlen2 ⊢;have HPP:=zh hP;have HWJ0:=zh HMJ.out;clear hrv hndl hnv hns hq1 hq2 hq3 hnn hP;go_wp2_with fail
           clear g0 hr5;go_loopw [5,111] (fun q5 q111 wr=>∃ (m:Nat) (v:Value),m<=nn/\q111=.int .i64 (m:Int)/\q5=v/\wr.ownsRow base 9 1 v (P++(ns.take m).map (fun y=>y.n.name)).length (strs (P++(ns.take m).map (fun y=>y.n.name)))/\NMp wr mb (seenV (bump seen nm))/\Sl wr No 3 (.slice (some ⟨b,o,none⟩) nr bc) nr (Rs.map intV)/\base<=wr.heap.size/\Mod No w wr) (fun _ q _=>nn - (intOf q).toNat)
           case atStart=>exact ⟨0,_,by omega,rfl,rfl,(by rw [List.take_zero,List.map_nil,List.append_nil];exact HOJ.out),HSJ.out,HRJ.out,hbj,HMJ.out⟩
           case round =>
            clear HOJ HSJ HRJ HMJ hbj;obtain ⟨m,v,hm,rfl,rfl,hown,hsn,hrs,hbj,hmod⟩:=hrel;have HO:=zh hown;have HSJ:=zh hsn;have HRJ:=zh hrs;have HMJ:=zh hmod;have hm0:(0:Int)<=(m:Int):=Int.natCast_nonneg _;obtain ⟨va,vc,hvv⟩:=own_len hown;subst hvv;have hndl:=HNDL.out.keep HMJ.out (fun _ f=>f.elim);clear hown hsn hrs hmod;by_cases hltm:m < nn
            ·have hm1:(m:Int) < (nn:Int):=by omega
             have hml:m < ns.length:=by rw [<- HNNL.out];exact hltm
             have hsl:=hndl.sl;rw [<- HNNL.out] at hsl;obtain ⟨b,o,c2,hvs,_⟩:=hsl.shape (by omega);have hna:na=some ⟨b,o,none⟩:=by cases hvs;rfl
             rw [hna] at hsl;have hrg:=Sl.at NdX.cells_length (by rw [HNNL.out] at hsl;exact hsl) hml;subst hna;obtain ⟨oa,om,oc,hov⟩:∃ a q c,ns[m].ov=.slice a q c:=by
              obtain ⟨_,-,-,h⟩:=(hndl.each _ (List.getElem_mem hml)).no;obtain ⟨a,c,e⟩:=h.len;exact ⟨a,_,c,e⟩
             have HTKM:=zh (show P++(ns.take (m+1)).map (fun y=>y.n.name)=P++(ns.take m).map (fun y=>y.n.name)++[ns[m].n.name] by
              rw [List.take_succ_eq_append_getElem hml,List.map_append,List.append_assoc];rfl)
             generalize ns[m]=y at *;have hcs:NdX.cells y=[.string ⟨y.n.name.toArray⟩,.bool y.n.span.any,.slice oa om oc,.string ⟨y.n.text.toArray⟩]:=by unfold NdX.cells strV;rw [hov]
             rw [hcs] at hrg;have hlq:(P++(ns.take m).map (fun y=>y.n.name)).length<=200000:=by
              rw [List.length_append,List.length_map,List.length_take];omega
             obtain ⟨Q,hQ⟩:∃ Q,Q=P++(ns.take m).map (fun y=>y.n.name):=⟨_,rfl⟩
             rw [<- hQ] at HO HTKM hlq ⊢;obtain ⟨NY,hNY⟩:∃ b:ByteArray,b=⟨y.n.name.toArray⟩:=⟨_,rfl⟩
             rw [<- hNY] at hrg;have HNY:=zh hNY;generalize y.n.span.any=yan at *;generalize (⟨y.n.text.toArray⟩:ByteArray)=YT at *;have HRG:=zh hrg;obtain ⟨hi0,hz0,hz1,hz2⟩:=HI.out;clear hsl hrg hov hcs hQ hNY hvs hndl;go_upto_region 25 with (refine wpList_load_mid rfl 98 _ rfl b (o+m*4) rfl _ _ HRG.out underlying98 rfl (by kernel_rfl) ?_)
             obtain ⟨nb,hnb⟩:∃ g,g=wr.heap.size:=⟨_,rfl⟩
             rw [<- hnb];generalize hwb:World.alloc wr _=wb;have hmb2:Mod No wr wb:=by rw [<- hwb];exact (Mod.refl No wr).alloc _
             have n0:wb.cell? ⟨nb,0,none⟩=some (.string NY):=cell_ofA (e:=98) (fz:=(0,0)) (xs:=#[.string NY,.bool yan,.slice oa om oc,.string YT]) (by rw [<- hwb,hnb];exact heap_alloc_new wr _) rfl;have HMB2:=zh hmb2;have HOB:=zh (own_keepM HO.out hmb2 (fun _ _ f=>f));have hbb:base<=wb.heap.size:=Nat.le_trans hbj hmb2.size;clear hnb hwb hmb2;go_wp2_with (at_builtin;refine app_sl _ rfl _ _ 38 rfl base 9 i0 (.string ⟨#[]⟩) 1 16 underlying38 hi0 hz0 hz1 hz2 rfl (by decide) _ Q.length _ rfl (own_keepM HOB.out ((Mod.refl No wb).alloc _) (fun _ _ f=>f)) No 9 (.slice (some ⟨wb.heap.size,0,none⟩) 1 1) 1 [.string NY] rfl (.inr ⟨wb.heap.size,0,1,_,_,rfl,Nat.le_refl _,by unfold maxLen;omega,fun f=>f,heap_alloc_new wb _,by simp,fun i hi=>by simp⟩) rfl (fun u hu=>by rw [List.mem_singleton.1 hu];rfl) (by unfold maxLen;omega) (by omega) (Nat.le_trans hbb ((Mod.refl No wb).alloc _).size) ?_;intro v7 w7 hown7 hg7 _;have HO7:=zh hown7;have HG7:=zh hg7;clear hown7 hg7)
             have hm7:Mod (fun q=>(Value.slice va Q.length vc).ownBlock=some q) wr w7:=(HMB2.out.no.trans ((Mod.refl No wb).alloc (.cells #[.string NY] 9)).no).trans (Mod.of_grown HG7.out (fun q e _=>e));have hOff:∀ {q:Nat},(Value.slice va Q.length vc).ownBlock=some q->base<=q:=fun e=>own_baseS HO.out e
             have hTy:∀ {q:Nat} {cur:Array Value} {t:TypeId} {fz:Nat × Nat},t ≠ 9->(Value.slice va Q.length vc).ownBlock=some q->wr.heap[q]? ≠ some (.cells cur t fz):=fun ht e hh=>by
              obtain ⟨cur2,h2⟩:=own_heapM HO.out e;rw [hh] at h2;cases h2;exact ht rfl
             have HM7:=zh (show Mod No w w7 from HMJ.out.then hm7 (fun q hq e=>by have:=hOff e;have:=HBB.out;omega));have HS7:=zh (HSJ.out.keep hm7 (fun e=>by have h0:=hOff e;have h1:=HMBR.out;have h2:=HRR.out;omega));have HR7:=zh (HRJ.out.keep hm7 (fun k cur fz e _ hh=>hTy (by decide) e hh));have HOO:=zh (show w7.ownsRow base 9 1 v7 (Q++[y.n.name]).length (strs (Q++[y.n.name])) by
              rw [List.length_append,List.length_singleton,strs_append];have h:=HO7.out;rw [HNY.out] at h;exact h)
             have hb7:base<=w7.heap.size:=Nat.le_trans hbj hm7.size;clear hOff hTy hm7 hbb;go_wp2_with fail
             exact ⟨⟨m+1,v7,(by omega),rfl,rfl,(by rw [HTKM.out];exact HOO.out),HS7.out,HR7.out,hb7,HM7.out⟩,by show nn - ((m:Int)+1).toNat < nn - (m:Int).toNat;omega⟩
            ·obtain rfl:m=nn:=by omega
             have hm1:¬ ((m:Int) < (m:Int)):=by omega
             have HPF:=zh (show P++(ns.take m).map (fun y=>y.n.name)=l0++farTo g.xl fx nm (Rs.take (j+1)) by
              have h9:ns.take m=ns:=List.take_of_length_le (by have:=HNNL.out;omega);rw [HTO.out HOKK.out,HNN.out,HPP.out,h9,List.append_assoc])
             have HOF:=zh (show wr.ownsRow base 9 1 (.slice va (P++(ns.take m).map (fun y=>y.n.name)).length vc) (l0++farTo g.xl fx nm (Rs.take (j+1))).length (strs (l0++farTo g.xl fx nm (Rs.take (j+1)))) by rw [<- HPF.out];exact HO.out);go_wp2_with fail
             exact ⟨⟨j+1,_,(by omega),rfl,rfl,HOF.out,HSJ.out,HRJ.out,hbj,HMJ.out⟩,by show nr - ((j:Int)+1).toNat < nr - (j:Int).toNat;omega⟩
          ·have hv1:(fv == (i:Int))=false:=by simpa using hv
           have HTN2:=zh (HTN.out (by rw [HF3.out,hv1];rfl));have HOF:=zh (show wr.ownsRow base 9 1 (.slice va (l0++farTo g.xl fx nm (Rs.take j)).length vc) (l0++farTo g.xl fx nm (Rs.take (j+1))).length (strs (l0++farTo g.xl fx nm (Rs.take (j+1)))) by rw [HTN2.out];exact HOJ.out);go_wp2_with fail
           exact ⟨⟨j+1,_,(by omega),rfl,rfl,HOF.out,HSJ.out,HRJ.out,hbj,HMJ.out⟩,by show nr - ((j:Int)+1).toNat < nr - (j:Int).toNat;omega⟩
        ·have hje:j=nr:=by omega
         have hj1:¬ ((j:Int) < (nr:Int)):=by omega
         have HFIN:=zh (show l0++farTo g.xl fx nm (Rs.take j)=l0++farPush g.xl fx c nm by
          rw [HFR.out,List.take_of_length_le (by have:=HNR.out;omega)])
         have HCST:=zh (show (l0++farTo g.xl fx nm (Rs.take j)).length+farCost g.xl (bump seen nm) < gk by rw [HFIN.out,List.length_append];exact HCO.out);obtain ⟨Q,hQ⟩:∃ Q,Q=l0++farTo g.xl fx nm (Rs.take j):=⟨_,rfl⟩
         rw [<- hQ] at HOJ HFIN HCST ⊢;clear hQ;go_wp2_with fail
         go_roundg (Q.length+farCost g.xl (bump seen nm))
         case measure=>exact HCST.out
         case rel=>exact ⟨bump seen nm,_,_,rfl,rfl,HOJ.out,HSJ.out,(by rw [HFIN.out];exact HFT.out),(fun a ha=>by
          rw [HFIN.out] at ha;rcases List.mem_append.1 ha with h | h
          ·exact HIN.out a (by simp [h])
          ·exact HPN.out a h),HBN.out,HNXT.out _ HCST.out,hbj,HMJ.out⟩
      ·rw [h2,h3] at hlc;obtain ⟨Rs,hRs⟩:∃ Rs,Rs=[r1]:=⟨_,rfl⟩
       have HFR:=zh (show farPush g.xl fx c nm=farTo g.xl fx nm Rs by unfold farPush farRows farTo;rw [h1,hRs]);have HRI:=zh (show ∀ i ∈ Rs,i < g.xs.length from fun i hi=>by rw [hRs,List.mem_singleton] at hi;subst hi;exact (HC.out nm _ h1).1);have HR20:=zh (show Rs.length<=20 by rw [hRs];simp);have HNR:=zh (show 1=Rs.length by rw [hRs];rfl);have HRR1:=zh hRs;clear h1 h2 h3 hRs HBSL;go_upto_region 17 with fail
       obtain ⟨gs,hgs⟩:∃ g,g=w2.heap.size:=⟨_,rfl⟩
       rw [<- hgs];generalize hwS:World.alloc w2 _=wS;have hmS:Mod No w2 wS:=by rw [<- hwS];exact (Mod.refl No w2).alloc _
       have HRS:=zh (show Sl wS No 3 (.slice (some ⟨gs,0,none⟩) 1 1) 1 (Rs.map intV) by
        rw [HRR1.out,<- hwS,hgs];exact .inr ⟨w2.heap.size,0,1,_,_,rfl,Nat.le_refl _,by unfold maxLen;omega,fun f=>f,heap_alloc_new w2 _,by simp,fun i hi=>by simp [intV]⟩)
       have HOS:=zh (own_keepM HO3.out hmS (fun _ _ f=>f));have HSS:=zh (HSN2.out.keep hmS (fun f=>f));have HMS:=zh (HM2.out.trans hmS);have hbs:=Nat.le_trans hbs hmS.size;clear hgs hwS hmS hlb hlc o2 o4;go_wp2_with fail
       go_loopw [5,83] (fun q5 q83 wr=>∃ (j:Nat) (v:Value),j<=1/\q83=.int .i64 (j:Int)/\q5=v/\wr.ownsRow base 9 1 v (l0++farTo g.xl fx nm (Rs.take j)).length (strs (l0++farTo g.xl fx nm (Rs.take j)))/\NMp wr mb (seenV (bump seen nm))/\Sl wr No 3 (.slice (some ⟨gs,0,none⟩) 1 1) 1 (Rs.map intV)/\base<=wr.heap.size/\Mod No w wr) (fun _ q _=>1 - (intOf q).toNat)
       case atStart=>exact ⟨0,_,by omega,rfl,rfl,(by rw [List.take_zero];show wS.ownsRow base 9 1 _ (l0++[]).length (strs (l0++[]));rw [List.append_nil];exact HOS.out),HSS.out,HRS.out,hbs,HMS.out⟩
       case round =>
        clear HOS HSS HRS hbs HMS;obtain ⟨j,v,hj,rfl,rfl,hown,hsn,hrs,hbj,hmod⟩:=hrel;have HOJ:=zh hown;have HSJ:=zh hsn;have HRJ:=zh hrs;have HMJ:=zh hmod;have hj0:(0:Int)<=(j:Int):=Int.natCast_nonneg _;obtain ⟨va,vc,hvv⟩:=own_len hown;subst hvv;clear hown hsn hrs hmod;by_cases hlt:j < 1
        ·have hj1:(j:Int) < 1:=by omega
         have hjl:j < Rs.length:=by rw [<- HNR.out];exact hlt
         obtain ⟨b,o,c2,hvs,_⟩:=HRJ.out.shape (by omega);have hsl:=HRJ.out;rw [hvs] at hsl;have hcell:=hsl.cellN (i:=j) (by rw [List.length_map];exact hjl);rw [List.getElem_map] at hcell;unfold intV at hcell;cases hvs
         try rw [Nat.zero_add] at hcell
         have hil:=HRI.out _ (List.getElem_mem hjl);have HTO:=zh (show okFix fx nm Rs[j]=true->farTo g.xl fx nm (Rs.take (j+1))=farTo g.xl fx nm (Rs.take j)++(rwAt g.xl Rs[j]).needs.map (·.name) from fun h=>by
          unfold farTo;rw [List.take_succ_eq_append_getElem hjl,List.filter_append,List.flatMap_append];simp [h])
         have HTN:=zh (show okFix fx nm Rs[j]=false->farTo g.xl fx nm (Rs.take (j+1))=farTo g.xl fx nm (Rs.take j) from fun h=>by
          unfold farTo;rw [List.take_succ_eq_append_getElem hjl,List.filter_append,List.flatMap_append];simp [h])
         have hlen2:(l0++farTo g.xl fx nm (Rs.take j)).length<=150000:=by
          have h1:=farTo_le (xl:=g.xl) (fun i hi=>by
           rw [List.length_map] at hi;obtain ⟨h1,h2,-⟩:=HG.out.nds i hi;rw [<- rxAt_r,<- h1,List.length_map];exact h2.few) fx nm (Rs.take j) (fun i hi=>by rw [List.length_map];exact HRI.out i (List.mem_of_mem_take hi))
          have h2:(Rs.take j).length<=20:=by rw [List.length_take];have:=HR20.out;omega
          rw [List.length_append];have:=HL0.out;omega
         obtain ⟨fv,fb,hf1,hf2,hf3⟩:=fix_look fx nm Rs[j];have hlf:=(HW.out.fixed.keep HMJ.out (fun f=>f)).look (t:=282) (z:=.int .i64 0) underlying282 (by kernel_rfl) nm (by have:=HNL.out;omega);rw [hf1,hf2,<- HNMB.out] at hlf;have o3:=cell_ofA (HMJ.out.keep HW.out.fix.obj (fun f=>f)) (i:=3) (v:=.map (some g.fb)) rfl;obtain ⟨i,hi⟩:∃ i,i=Rs[j]:=⟨_,rfl⟩
         rw [<- hi] at hcell hil HTO HTN hf3;have HF3:=zh hf3;clear hf1 hf2 hf3 hsl hi;rcases fb with _ | _
         ·have HOKK:=zh (show okFix fx nm i=true by rw [HF3.out];rfl);obtain ⟨rb,ro,rc,hrv,-,-,hr5⟩:=HW.out.fix.cells HG.out hil;have hndl:=HW.out.fix.nds i hil;obtain ⟨na,nc,hnv⟩:=hndl.sl.len;have g0:=cell_ofA (HMJ.out.keep HW.out.fix.obj (fun f=>f)) (i:=0) (v:=g.rv) rfl;rw [hrv] at g0;have hr5:=HMJ.out.cell hr5 (fun f=>f);rw [hnv] at hr5 hndl;obtain ⟨ns,hns⟩:∃ ns,ns=g.nx i:=⟨_,rfl⟩
          rw [<- hns] at hndl hr5;obtain ⟨hq1,hq2,hq3⟩:=HG.out.nds i hil;have HNN:=zh (show (rwAt g.xl i).needs.map (·.name)=ns.map (fun y=>y.n.name) by rw [hns,<- rxAt_r,<- hq1,List.map_map];rfl);have hnf:ns.length<=1000:=by rw [hns];exact hq2.few
          have HNDL:=zh hndl;have hiL:(i:Int) < (g.xs.length:Int):=by omega
          have hiO:(0:Int)<=(i:Int):=Int.natCast_nonneg _;obtain ⟨nn,hnn⟩:∃ n,n=ns.length:=⟨_,rfl⟩
          rw [<- hnn] at hr5 hnf HNDL;have HNNL:=zh hnn;obtain ⟨P,hP⟩:∃ P,P=l0++farTo g.xl fx nm (Rs.take j):=⟨_,rfl⟩
          rw [<- hP] at HOJ hlen2 ⊢;have HPP:=zh hP;have HWJ0:=zh HMJ.out;clear hrv hndl hnv hns hq1 hq2 hq3 hnn hP;go_wp2_with fail
          clear g0 hr5;go_loopw [5,111] (fun q5 q111 wr=>∃ (m:Nat) (v:Value),m<=nn/\q111=.int .i64 (m:Int)/\q5=v/\wr.ownsRow base 9 1 v (P++(ns.take m).map (fun y=>y.n.name)).length (strs (P++(ns.take m).map (fun y=>y.n.name)))/\NMp wr mb (seenV (bump seen nm))/\Sl wr No 3 (.slice (some ⟨gs,0,none⟩) 1 1) 1 (Rs.map intV)/\base<=wr.heap.size/\Mod No w wr) (fun _ q _=>nn - (intOf q).toNat)
          case atStart=>exact ⟨0,_,by omega,rfl,rfl,(by rw [List.take_zero,List.map_nil,List.append_nil];exact HOJ.out),HSJ.out,HRJ.out,hbj,HMJ.out⟩
          case round =>
           clear HOJ HSJ HRJ HMJ hbj;obtain ⟨m,v,hm,rfl,rfl,hown,hsn,hrs,hbj,hmod⟩:=hrel;have HO:=zh hown;have HSJ:=zh hsn;have HRJ:=zh hrs;have HMJ:=zh hmod;have hm0:(0:Int)<=(m:Int):=Int.natCast_nonneg _;obtain ⟨va,vc,hvv⟩:=own_len hown;subst hvv;have hndl:=HNDL.out.keep HMJ.out (fun _ f=>f.elim);clear hown hsn hrs hmod;by_cases hltm:m < nn
           ·have hm1:(m:Int) < (nn:Int):=by omega
            have hml:m < ns.length:=by rw [<- HNNL.out];exact hltm
            have hsl:=hndl.sl;rw [<- HNNL.out] at hsl;obtain ⟨b,o,c2,hvs,_⟩:=hsl.shape (by omega);have hna:na=some ⟨b,o,none⟩:=by cases hvs;rfl
            rw [hna] at hsl;have hrg:=Sl.at NdX.cells_length (by rw [HNNL.out] at hsl;exact hsl) hml;subst hna;obtain ⟨oa,om,oc,hov⟩:∃ a q c,ns[m].ov=.slice a q c:=by
             obtain ⟨_,-,-,h⟩:=(hndl.each _ (List.getElem_mem hml)).no;obtain ⟨a,c,e⟩:=h.len;exact ⟨a,_,c,e⟩
            have HTKM:=zh (show P++(ns.take (m+1)).map (fun y=>y.n.name)=P++(ns.take m).map (fun y=>y.n.name)++[ns[m].n.name] by
             rw [List.take_succ_eq_append_getElem hml,List.map_append,List.append_assoc];rfl)
            generalize ns[m]=y at *;have hcs:NdX.cells y=[.string ⟨y.n.name.toArray⟩,.bool y.n.span.any,.slice oa om oc,.string ⟨y.n.text.toArray⟩]:=by unfold NdX.cells strV;rw [hov]
            rw [hcs] at hrg;have hlq:(P++(ns.take m).map (fun y=>y.n.name)).length<=200000:=by
             rw [List.length_append,List.length_map,List.length_take];omega
            obtain ⟨Q,hQ⟩:∃ Q,Q=P++(ns.take m).map (fun y=>y.n.name):=⟨_,rfl⟩
            rw [<- hQ] at HO HTKM hlq ⊢;obtain ⟨NY,hNY⟩:∃ b:ByteArray,b=⟨y.n.name.toArray⟩:=⟨_,rfl⟩
            rw [<- hNY] at hrg;have HNY:=zh hNY;generalize y.n.span.any=yan at *;generalize (⟨y.n.text.toArray⟩:ByteArray)=YT at *;have HRG:=zh hrg;obtain ⟨hi0,hz0,hz1,hz2⟩:=HI.out;clear hsl hrg hov hcs hQ hNY hvs hndl;go_upto_region 25 with (refine wpList_load_mid rfl 98 _ rfl b (o+m*4) rfl _ _ HRG.out underlying98 rfl (by kernel_rfl) ?_)
            obtain ⟨nb,hnb⟩:∃ g,g=wr.heap.size:=⟨_,rfl⟩
            rw [<- hnb];generalize hwb:World.alloc wr _=wb;have hmb2:Mod No wr wb:=by rw [<- hwb];exact (Mod.refl No wr).alloc _
            have n0:wb.cell? ⟨nb,0,none⟩=some (.string NY):=cell_ofA (e:=98) (fz:=(0,0)) (xs:=#[.string NY,.bool yan,.slice oa om oc,.string YT]) (by rw [<- hwb,hnb];exact heap_alloc_new wr _) rfl;have HMB2:=zh hmb2;have HOB:=zh (own_keepM HO.out hmb2 (fun _ _ f=>f));have hbb:base<=wb.heap.size:=Nat.le_trans hbj hmb2.size;clear hnb hwb hmb2;go_wp2_with (at_builtin;refine app_sl _ rfl _ _ 38 rfl base 9 i0 (.string ⟨#[]⟩) 1 16 underlying38 hi0 hz0 hz1 hz2 rfl (by decide) _ Q.length _ rfl (own_keepM HOB.out ((Mod.refl No wb).alloc _) (fun _ _ f=>f)) No 9 (.slice (some ⟨wb.heap.size,0,none⟩) 1 1) 1 [.string NY] rfl (.inr ⟨wb.heap.size,0,1,_,_,rfl,Nat.le_refl _,by unfold maxLen;omega,fun f=>f,heap_alloc_new wb _,by simp,fun i hi=>by simp⟩) rfl (fun u hu=>by rw [List.mem_singleton.1 hu];rfl) (by unfold maxLen;omega) (by omega) (Nat.le_trans hbb ((Mod.refl No wb).alloc _).size) ?_;intro v7 w7 hown7 hg7 _;have HO7:=zh hown7;have HG7:=zh hg7;clear hown7 hg7)
            have hm7:Mod (fun q=>(Value.slice va Q.length vc).ownBlock=some q) wr w7:=(HMB2.out.no.trans ((Mod.refl No wb).alloc (.cells #[.string NY] 9)).no).trans (Mod.of_grown HG7.out (fun q e _=>e));have hOff:∀ {q:Nat},(Value.slice va Q.length vc).ownBlock=some q->base<=q:=fun e=>own_baseS HO.out e
            have hTy:∀ {q:Nat} {cur:Array Value} {t:TypeId} {fz:Nat × Nat},t ≠ 9->(Value.slice va Q.length vc).ownBlock=some q->wr.heap[q]? ≠ some (.cells cur t fz):=fun ht e hh=>by
             obtain ⟨cur2,h2⟩:=own_heapM HO.out e;rw [hh] at h2;cases h2;exact ht rfl
            have HM7:=zh (show Mod No w w7 from HMJ.out.then hm7 (fun q hq e=>by have:=hOff e;have:=HBB.out;omega));have HS7:=zh (HSJ.out.keep hm7 (fun e=>by have h0:=hOff e;have h1:=HMBR.out;have h2:=HRR.out;omega));have HR7:=zh (HRJ.out.keep hm7 (fun k cur fz e _ hh=>hTy (by decide) e hh));have HOO:=zh (show w7.ownsRow base 9 1 v7 (Q++[y.n.name]).length (strs (Q++[y.n.name])) by
             rw [List.length_append,List.length_singleton,strs_append];have h:=HO7.out;rw [HNY.out] at h;exact h)
            have hb7:base<=w7.heap.size:=Nat.le_trans hbj hm7.size;clear hOff hTy hm7 hbb;go_wp2_with fail
            exact ⟨⟨m+1,v7,(by omega),rfl,rfl,(by rw [HTKM.out];exact HOO.out),HS7.out,HR7.out,hb7,HM7.out⟩,by show nn - ((m:Int)+1).toNat < nn - (m:Int).toNat;omega⟩
           ·obtain rfl:m=nn:=by omega
            have hm1:¬ ((m:Int) < (m:Int)):=by omega
            have HPF:=zh (show P++(ns.take m).map (fun y=>y.n.name)=l0++farTo g.xl fx nm (Rs.take (j+1)) by
             have h9:ns.take m=ns:=List.take_of_length_le (by have:=HNNL.out;omega);rw [HTO.out HOKK.out,HNN.out,HPP.out,h9,List.append_assoc])
            have HOF:=zh (show wr.ownsRow base 9 1 (.slice va (P++(ns.take m).map (fun y=>y.n.name)).length vc) (l0++farTo g.xl fx nm (Rs.take (j+1))).length (strs (l0++farTo g.xl fx nm (Rs.take (j+1)))) by rw [<- HPF.out];exact HO.out);go_wp2_with fail
            exact ⟨⟨j+1,_,(by omega),rfl,rfl,HOF.out,HSJ.out,HRJ.out,hbj,HMJ.out⟩,by show 1 - ((j:Int)+1).toNat < 1 - (j:Int).toNat;omega⟩
         ·by_cases hv:fv=(i:Int)
          ·have hv1:(fv == (i:Int))=true:=by simpa using hv
           have HOKK:=zh (show okFix fx nm i=true by rw [HF3.out,hv1];rfl);obtain ⟨rb,ro,rc,hrv,-,-,hr5⟩:=HW.out.fix.cells HG.out hil;have hndl:=HW.out.fix.nds i hil;obtain ⟨na,nc,hnv⟩:=hndl.sl.len;have g0:=cell_ofA (HMJ.out.keep HW.out.fix.obj (fun f=>f)) (i:=0) (v:=g.rv) rfl;rw [hrv] at g0;have hr5:=HMJ.out.cell hr5 (fun f=>f);rw [hnv] at hr5 hndl;obtain ⟨ns,hns⟩:∃ ns,ns=g.nx i:=⟨_,rfl⟩
           rw [<- hns] at hndl hr5;obtain ⟨hq1,hq2,hq3⟩:=HG.out.nds i hil;have HNN:=zh (show (rwAt g.xl i).needs.map (·.name)=ns.map (fun y=>y.n.name) by rw [hns,<- rxAt_r,<- hq1,List.map_map];rfl);have hnf:ns.length<=1000:=by rw [hns];exact hq2.few
           have HNDL:=zh hndl;have hiL:(i:Int) < (g.xs.length:Int):=by omega
           have hiO:(0:Int)<=(i:Int):=Int.natCast_nonneg _;obtain ⟨nn,hnn⟩:∃ n,n=ns.length:=⟨_,rfl⟩
           rw [<- hnn] at hr5 hnf HNDL;have HNNL:=zh hnn;obtain ⟨P,hP⟩:∃ P,P=l0++farTo g.xl fx nm (Rs.take j):=⟨_,rfl⟩
           rw [<- hP] at HOJ hlen2 ⊢;have HPP:=zh hP;have HWJ0:=zh HMJ.out;clear hrv hndl hnv hns hq1 hq2 hq3 hnn hP;go_wp2_with fail
           clear g0 hr5;go_loopw [5,111] (fun q5 q111 wr=>∃ (m:Nat) (v:Value),m<=nn/\q111=.int .i64 (m:Int)/\q5=v/\wr.ownsRow base 9 1 v (P++(ns.take m).map (fun y=>y.n.name)).length (strs (P++(ns.take m).map (fun y=>y.n.name)))/\NMp wr mb (seenV (bump seen nm))/\Sl wr No 3 (.slice (some ⟨gs,0,none⟩) 1 1) 1 (Rs.map intV)/\base<=wr.heap.size/\Mod No w wr) (fun _ q _=>nn - (intOf q).toNat)
           case atStart=>exact ⟨0,_,by omega,rfl,rfl,(by rw [List.take_zero,List.map_nil,List.append_nil];exact HOJ.out),HSJ.out,HRJ.out,hbj,HMJ.out⟩
           case round =>
            clear HOJ HSJ HRJ HMJ hbj;obtain ⟨m,v,hm,rfl,rfl,hown,hsn,hrs,hbj,hmod⟩:=hrel;have HO:=zh hown;have HSJ:=zh hsn;have HRJ:=zh hrs;have HMJ:=zh hmod;have hm0:(0:Int)<=(m:Int):=Int.natCast_nonneg _;obtain ⟨va,vc,hvv⟩:=own_len hown;subst hvv;have hndl:=HNDL.out.keep HMJ.out (fun _ f=>f.elim);clear hown hsn hrs hmod;by_cases hltm:m < nn
            ·have hm1:(m:Int) < (nn:Int):=by omega
             have hml:m < ns.length:=by rw [<- HNNL.out];exact hltm
             have hsl:=hndl.sl;rw [<- HNNL.out] at hsl;obtain ⟨b,o,c2,hvs,_⟩:=hsl.shape (by omega);have hna:na=some ⟨b,o,none⟩:=by cases hvs;rfl
             rw [hna] at hsl;have hrg:=Sl.at NdX.cells_length (by rw [HNNL.out] at hsl;exact hsl) hml;subst hna;obtain ⟨oa,om,oc,hov⟩:∃ a q c,ns[m].ov=.slice a q c:=by
              obtain ⟨_,-,-,h⟩:=(hndl.each _ (List.getElem_mem hml)).no;obtain ⟨a,c,e⟩:=h.len;exact ⟨a,_,c,e⟩
             have HTKM:=zh (show P++(ns.take (m+1)).map (fun y=>y.n.name)=P++(ns.take m).map (fun y=>y.n.name)++[ns[m].n.name] by
              rw [List.take_succ_eq_append_getElem hml,List.map_append,List.append_assoc];rfl)
             generalize ns[m]=y at *;have hcs:NdX.cells y=[.string ⟨y.n.name.toArray⟩,.bool y.n.span.any,.slice oa om oc,.string ⟨y.n.text.toArray⟩]:=by unfold NdX.cells strV;rw [hov]
             rw [hcs] at hrg;have hlq:(P++(ns.take m).map (fun y=>y.n.name)).length<=200000:=by
              rw [List.length_append,List.length_map,List.length_take];omega
             obtain ⟨Q,hQ⟩:∃ Q,Q=P++(ns.take m).map (fun y=>y.n.name):=⟨_,rfl⟩
             rw [<- hQ] at HO HTKM hlq ⊢;obtain ⟨NY,hNY⟩:∃ b:ByteArray,b=⟨y.n.name.toArray⟩:=⟨_,rfl⟩
             rw [<- hNY] at hrg;have HNY:=zh hNY;generalize y.n.span.any=yan at *;generalize (⟨y.n.text.toArray⟩:ByteArray)=YT at *;have HRG:=zh hrg;obtain ⟨hi0,hz0,hz1,hz2⟩:=HI.out;clear hsl hrg hov hcs hQ hNY hvs hndl;go_upto_region 25 with (refine wpList_load_mid rfl 98 _ rfl b (o+m*4) rfl _ _ HRG.out underlying98 rfl (by kernel_rfl) ?_)
             obtain ⟨nb,hnb⟩:∃ g,g=wr.heap.size:=⟨_,rfl⟩
             rw [<- hnb];generalize hwb:World.alloc wr _=wb;have hmb2:Mod No wr wb:=by rw [<- hwb];exact (Mod.refl No wr).alloc _
             have n0:wb.cell? ⟨nb,0,none⟩=some (.string NY):=cell_ofA (e:=98) (fz:=(0,0)) (xs:=#[.string NY,.bool yan,.slice oa om oc,.string YT]) (by rw [<- hwb,hnb];exact heap_alloc_new wr _) rfl;have HMB2:=zh hmb2;have HOB:=zh (own_keepM HO.out hmb2 (fun _ _ f=>f));have hbb:base<=wb.heap.size:=Nat.le_trans hbj hmb2.size;clear hnb hwb hmb2;go_wp2_with (at_builtin;refine app_sl _ rfl _ _ 38 rfl base 9 i0 (.string ⟨#[]⟩) 1 16 underlying38 hi0 hz0 hz1 hz2 rfl (by decide) _ Q.length _ rfl (own_keepM HOB.out ((Mod.refl No wb).alloc _) (fun _ _ f=>f)) No 9 (.slice (some ⟨wb.heap.size,0,none⟩) 1 1) 1 [.string NY] rfl (.inr ⟨wb.heap.size,0,1,_,_,rfl,Nat.le_refl _,by unfold maxLen;omega,fun f=>f,heap_alloc_new wb _,by simp,fun i hi=>by simp⟩) rfl (fun u hu=>by rw [List.mem_singleton.1 hu];rfl) (by unfold maxLen;omega) (by omega) (Nat.le_trans hbb ((Mod.refl No wb).alloc _).size) ?_;intro v7 w7 hown7 hg7 _;have HO7:=zh hown7;have HG7:=zh hg7;clear hown7 hg7)
             have hm7:Mod (fun q=>(Value.slice va Q.length vc).ownBlock=some q) wr w7:=(HMB2.out.no.trans ((Mod.refl No wb).alloc (.cells #[.string NY] 9)).no).trans (Mod.of_grown HG7.out (fun q e _=>e));have hOff:∀ {q:Nat},(Value.slice va Q.length vc).ownBlock=some q->base<=q:=fun e=>own_baseS HO.out e
             have hTy:∀ {q:Nat} {cur:Array Value} {t:TypeId} {fz:Nat × Nat},t ≠ 9->(Value.slice va Q.length vc).ownBlock=some q->wr.heap[q]? ≠ some (.cells cur t fz):=fun ht e hh=>by
              obtain ⟨cur2,h2⟩:=own_heapM HO.out e;rw [hh] at h2;cases h2;exact ht rfl
             have HM7:=zh (show Mod No w w7 from HMJ.out.then hm7 (fun q hq e=>by have:=hOff e;have:=HBB.out;omega));have HS7:=zh (HSJ.out.keep hm7 (fun e=>by have h0:=hOff e;have h1:=HMBR.out;have h2:=HRR.out;omega));have HR7:=zh (HRJ.out.keep hm7 (fun k cur fz e _ hh=>hTy (by decide) e hh));have HOO:=zh (show w7.ownsRow base 9 1 v7 (Q++[y.n.name]).length (strs (Q++[y.n.name])) by
              rw [List.length_append,List.length_singleton,strs_append];have h:=HO7.out;rw [HNY.out] at h;exact h)
             have hb7:base<=w7.heap.size:=Nat.le_trans hbj hm7.size;clear hOff hTy hm7 hbb;go_wp2_with fail
             exact ⟨⟨m+1,v7,(by omega),rfl,rfl,(by rw [HTKM.out];exact HOO.out),HS7.out,HR7.out,hb7,HM7.out⟩,by show nn - ((m:Int)+1).toNat < nn - (m:Int).toNat;omega⟩
            ·obtain rfl:m=nn:=by omega
             have hm1:¬ ((m:Int) < (m:Int)):=by omega
             have HPF:=zh (show P++(ns.take m).map (fun y=>y.n.name)=l0++farTo g.xl fx nm (Rs.take (j+1)) by
              have h9:ns.take m=ns:=List.take_of_length_le (by have:=HNNL.out;omega);rw [HTO.out HOKK.out,HNN.out,HPP.out,h9,List.append_assoc])
             have HOF:=zh (show wr.ownsRow base 9 1 (.slice va (P++(ns.take m).map (fun y=>y.n.name)).length vc) (l0++farTo g.xl fx nm (Rs.take (j+1))).length (strs (l0++farTo g.xl fx nm (Rs.take (j+1)))) by rw [<- HPF.out];exact HO.out);go_wp2_with fail
             exact ⟨⟨j+1,_,(by omega),rfl,rfl,HOF.out,HSJ.out,HRJ.out,hbj,HMJ.out⟩,by show 1 - ((j:Int)+1).toNat < 1 - (j:Int).toNat;omega⟩
          ·have hv1:(fv == (i:Int))=false:=by simpa using hv
           have HTN2:=zh (HTN.out (by rw [HF3.out,hv1];rfl));have HOF:=zh (show wr.ownsRow base 9 1 (.slice va (l0++farTo g.xl fx nm (Rs.take j)).length vc) (l0++farTo g.xl fx nm (Rs.take (j+1))).length (strs (l0++farTo g.xl fx nm (Rs.take (j+1)))) by rw [HTN2.out];exact HOJ.out);go_wp2_with fail
           exact ⟨⟨j+1,_,(by omega),rfl,rfl,HOF.out,HSJ.out,HRJ.out,hbj,HMJ.out⟩,by show 1 - ((j:Int)+1).toNat < 1 - (j:Int).toNat;omega⟩
        ·have hje:j=1:=by omega
         have hj1:¬ ((j:Int) < 1):=by omega
         have HFIN:=zh (show l0++farTo g.xl fx nm (Rs.take j)=l0++farPush g.xl fx c nm by
          rw [HFR.out,List.take_of_length_le (by have:=HNR.out;omega)])
         have HCST:=zh (show (l0++farTo g.xl fx nm (Rs.take j)).length+farCost g.xl (bump seen nm) < gk by rw [HFIN.out,List.length_append];exact HCO.out);obtain ⟨Q,hQ⟩:∃ Q,Q=l0++farTo g.xl fx nm (Rs.take j):=⟨_,rfl⟩
         rw [<- hQ] at HOJ HFIN HCST ⊢;clear hQ;go_wp2_with fail
         go_roundg (Q.length+farCost g.xl (bump seen nm))
         case measure=>exact HCST.out
         case rel=>exact ⟨bump seen nm,_,_,rfl,rfl,HOJ.out,HSJ.out,(by rw [HFIN.out];exact HFT.out),(fun a ha=>by
          rw [HFIN.out] at ha;rcases List.mem_append.1 ha with h | h
          ·exact HIN.out a (by simp [h])
          ·exact HPN.out a h),HBN.out,HNXT.out _ HCST.out,hbj,HMJ.out⟩
     ·have hgt:(1:Int) < (sn:Int)+1:=by omega
      have HFS:=zh (HFI.out.skip (by rw [<- HSNM.out];exact h0));have HCS:=zh (show l0.length+farCost g.xl (bump seen nm) < gk by
       rw [HGK.out,bump_cost (by rw [<- HSNM.out];exact h0),List.length_append,List.length_singleton];omega)
      have HPL:=zh HP.out;go_wp2_with fail
      go_roundg (l0.length+farCost g.xl (bump seen nm))
      case measure=>exact HCS.out
      case rel=>exact ⟨bump seen nm,l0,_,rfl,rfl,HO3.out,HSN2.out,HFS.out,(fun a ha=>HIN.out a (by simp [ha])),HBN.out,HNXT.out _ HCS.out,HBW.out,HM2.out⟩
  ·intro x cv kl ya yb wN cnt1 hkey hleft hy hat hrg1 hlt hg1 hs1 hen;cases hy
   obtain ⟨x',hx',hkl,-⟩:=Maps.keyOf_str underlying9 hkey;obtain rfl:=encStr_inj hx';subst hkl;have hhas:Maps.has DD (.string x)=true:=Maps.has_true_of_atKey (y:=.held cv) (fun zd=>hat zd);obtain ⟨u,hu⟩:∃ u,F x=some u:=by
    cases hM:F x with
    | none=>have:=(HD.out x).1 hM;rw [hhas] at this;cases this
    | some v=>exact ⟨v,rfl⟩
   have hxin:x ∈ g.names:=HA2.out x (by rw [hu];simp);have hxl:=HG.out.nlen x hxin;have hm1:Mod (· = r) wr wN:=Mod.of_grown hg1 (by rintro k ⟨⟩ _;rfl);have hm01:Mod No w wN:=MO.out.then hm1 (fun q hq e=>by have e':q=r:=e;have h1:=HRW.out;have h2:=HM1.out.size;omega);have hrow:=(HA1.out.row0 x)
   obtain ⟨ra,rc,hrv⟩:=own_len hrow;have hla:=(HA1.out.map.keep hm01 (fun f=>f)).get (t:=324) (z:=.slice none 0 0) underlying324 (by kernel_rfl) x (by omega);rw [hrv] at hla;have RG1:=zh hrg1;have M01:=zh hm01;have HLX:=zh hleft;have HLT:=zh hlt;have HRNN:r ≠ g.ab:=fun e=>by have h1:=HABL.out;have h2:=HRW.out;have h3:=HM1.out.size;omega
   have HO1:=zh (own_keepM HO.out hm1 (fun q hq e=>by have e':q=r:=e;have h1:=own_baseS HO.out hq;have h2:=HRR.out;omega));have HSNN:=zh (HSN1.out.keep hm1 (fun e=>by have h1:=HMBR.out;have e':mb=r:=e;omega));have hbN:base<=wN.heap.size:=Nat.le_trans hbs hm1.size;have HEN:=zh (show Go.Proofs.encStr x=.string ⟨x.toArray⟩ from rfl);rw [HEN.out] at hen ⊢;have HSK:=zh (show ∀ a:List UInt8,(left (.string a) && !(Lit.string a).sameKey (.string x))=false->left (.string a)=false\/a=x from fun a h=>by
    rw [sameKey_strF] at h;by_cases e:a=x
    ·exact .inr e
    ·rw [decide_eq_false e] at h;exact .inl (by simpa using h))
   have HLF:=zh (show ∀ a:List UInt8,left (.string a)=false->(left (.string a) && !(Lit.string a).sameKey (.string x))=false from fun a h=>by rw [h];rfl);have HLXX:=zh (show (left (.string x) && !(Lit.string x).sameKey (.string x))=false by rw [sameKey_strF];simp);have HRX:=zh (HRM.out x);obtain ⟨an,han⟩:∃ an,an=(A x).length:=⟨_,rfl⟩
   rw [<- han] at hla HRX;have HAN:=zh han;have hra:=HRX.out;have o5:=cell_ofA (hm01.keep HW.out.fix.obj (fun f=>f)) (i:=5) (v:=.map (some g.ab)) rfl;obtain ⟨NM,hNM⟩:∃ b:ByteArray,b=⟨x.toArray⟩:=⟨_,rfl⟩
   rw [<- hNM] at hla hen ⊢;have HNMB:=zh hNM;have hll1:(l.length:Int)<=100000:=by omega
   have hlt0:=List.length_pos_of_mem hxin;have hlnn:l.length < 100000\/True:=.inr trivial;clear hkey hleft hat hrg1 hlt hg1 hs1 hhas hm1 hm01 hu hrow hrv han hNM hxin hxl hlt0 hlnn;rcases Nat.eq_zero_or_pos an with h0 | h0
   ·subst h0;have HAE:=zh (show A x=[] from List.length_eq_zero_iff.1 HAN.out.symm);go_wp2_with fail
    exact ⟨⟨_,cnt1,l,RG1.out,HO1.out,(fun a ha=>⟨(HLS.out a ha).1,HLF.out a (HLS.out a ha).2⟩),HND.out,(fun a ha hl=>by
     rcases HSK.out a hl with h | h
     ·exact HAL.out a ha h
     ·subst h;exact absurd HAE.out ha),HSNN.out,hbN,M01.out⟩,by rw [RG1.out.left_eq,RG.out.left_eq];exact HLT.out⟩
   ·have hgt:(0:Int) < (an:Int):=by omega
    have HAE:=zh (show A x ≠ [] from fun e=>by have:=HAN.out;rw [e] at this;simp at this;omega);have HXN:=zh (show x ∉ l from fun h=>by
     have h1:=(HLS.out x h).2;have h2:=HLX.out;rw [h1] at h2;cases h2)
    obtain ⟨hi0,hz0,hz1,hz2⟩:=HI.out;go_wp2_with (at_builtin;refine app_sl _ rfl _ _ 38 rfl base 9 i0 (.string ⟨#[]⟩) 1 16 underlying38 hi0 hz0 hz1 hz2 rfl (by decide) _ l.length _ rfl (own_keepM HO1.out ((Mod.refl No wN).alloc _) (fun _ _ f=>f)) No 9 (.slice (some ⟨wN.heap.size,0,none⟩) 1 1) 1 [.string NM] rfl (.inr ⟨wN.heap.size,0,1,_,_,rfl,Nat.le_refl _,by unfold maxLen;omega,fun f=>f,heap_alloc_new wN _,by simp,fun i hi=>by simp⟩) rfl (fun u hu=>by rw [List.mem_singleton.1 hu];rfl) (by unfold maxLen;omega) (by omega) (Nat.le_trans hbN ((Mod.refl No wN).alloc _).size) ?_;intro v7 w7 hown7 hg7 _;have HO7:=zh hown7;have HG7:=zh hg7;clear hown7 hg7)
    have hm7:Mod (fun q=>base<=q) wN w7:=((Mod.refl No wN).alloc (.cells #[.string NM] 9)).no.trans (Mod.of_grown HG7.out (fun q e _=>own_baseS HO1.out e));have HM7:=zh (show Mod No w w7 from M01.out.then hm7 (fun q hq e=>by have e':base<=q:=e;have:=HBB.out;omega));have HRG7:=zh (ranges_keep RG1.out hm7 (fun e=>by have e':base<=g.ab:=e;have h1:=HBB.out;have h2:=HABL.out;omega) (fun e=>by have e':base<=r:=e;have h1:=HRR.out;omega));have HS7:=zh (HSNN.out.keep hm7 (fun e=>by have e':base<=mb:=e;have h1:=HMBR.out;have h2:=HRR.out;omega));have HOO:=zh (show w7.ownsRow base 9 1 v7 (l++[x]).length (strs (l++[x])) by
     rw [List.length_append,List.length_singleton,strs_append];have h:=HO7.out;rw [HNMB.out] at h;exact h)
    exact ⟨⟨_,cnt1,l++[x],HRG7.out,HOO.out,(fun a ha=>by
     rcases List.mem_append.1 ha with h | h
     ·exact ⟨(HLS.out a h).1,HLF.out a (HLS.out a h).2⟩
     ·rw [List.mem_singleton] at h;subst h;exact ⟨HAE.out,HLXX.out⟩),List.nodup_append.2 ⟨HND.out,(by simp),fun a ha b hb e=>by rw [List.mem_singleton] at hb;subst hb;subst e;exact HXN.out ha⟩,(fun a ha hl=>by
     rcases HSK.out a hl with h | h
     ·exact List.mem_append_left _ (HAL.out a ha h)
     ·subst h;exact List.mem_append_right _ (by simp)),HS7.out,Nat.le_trans hbN hm7.size,HM7.out⟩,by rw [HRG7.out.left_eq,RG.out.left_eq];exact HLT.out⟩
end Go.Proofs.YticfcmdjplmaeaaGreatDoor
