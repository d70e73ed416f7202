/-
  Layers 0 to 14: helps of the laws of indexes. No statement is proved here; no condition.
-/
import Derived.Test.YticfcmdjplmaeaaGreatDoorX33
import Derived.Test.YticfcmdjplmaeaaGreatDoorX16
import Derived.Test.YticfcmdjplmaeaaGreatDoorX10
import Derived.Test.YticfcmdjplmaeaaGreatDoorX09
import Derived.Test.YticfcmdjplmaeaaGreatDoorX22
import Derived.Test.YticfcmdjplmaeaaGreatDoorX13
import Derived.Great.Walk
set_option maxRecDepth 100000
set_option maxHeartbeats 64000000
namespace Go.Proofs.YticfcmdjplmaeaaGreatDoor
open _root_.Go.Proofs.Tryz
open Go.RowKit Go.Maps
theorem rows_set1 {x:RwX} (h:x.r.sum.length=32) (p1:Value):(RwX.cells x).toArray.setIfInBounds 4 p1=(RwX.cells ⟨x.r,p1,x.nv⟩).toArray:=by
 obtain ⟨⟨nm,⟨a,b,c,pr⟩,S,n,nds⟩,pv,nv⟩:=x;obtain ⟨s0,s1,s2,s3,s4,s5,s6,s7,s8,s9,s10,s11,s12,s13,s14,s15,s16,s17,s18,s19,s20,s21,s22,s23,s24,s25,s26,s27,s28,s29,s30,s31,rfl⟩:=list32W h;rfl
theorem pins_keys {xl:List Rw} {acc:Pick} {ks:List (List UInt8)} (hn:Asc (acc.map Prod.fst)) (hk:Asc ks) (hm:∀ a,a ∈ ks ↔ Sol.pickL acc a ≠ none):pinsOf xl acc=ks.map fun a=>pnAt xl ((Sol.pickL acc a).getD 0):=by
 have hnd:=asc_nodup hn;have h1:(acc.filter (·.2.isSome)).map Prod.fst=ks:=by
  refine asc_unique _ _ ?_ hk fun a=>?_
  ·exact List.Pairwise.sublist (List.Sublist.map _ List.filter_sublist) hn
  ·rw [hm a];constructor
   ·intro h;obtain ⟨⟨b,o⟩,hx,rfl⟩:=List.mem_map.1 h;obtain ⟨h2,h3⟩:=List.mem_filter.1 hx;rw [Sol.pickL_mem hnd h2];intro e;dsimp only at h3;rw [e] at h3;cases h3
   ·intro h;cases hp:Sol.pickL acc a with
    | none=>exact absurd hp h
    | some i=>exact List.mem_map.2 ⟨(a,some i),List.mem_filter.2 ⟨pickL_some hp,rfl⟩,rfl⟩
 rw [<- h1];unfold pinsOf;have h2:∀ (l:Pick),(∀ x ∈ l,x ∈ acc)->(l.filterMap fun x=>x.2.map (pnAt xl))=(l.filter (·.2.isSome)).map fun x=>pnAt xl ((Sol.pickL acc x.1).getD 0):=by
  intro l;induction l with
  | nil=>intro _;rfl
  | cons x l ih =>
   intro hl;have h3:=ih fun y hy=>hl y (by simp [hy])
   obtain ⟨a,o⟩:=x;have h4:=Sol.pickL_mem hnd (hl (a,o) (by simp));cases o with
   | none=>simpa [List.filterMap_cons,List.filter_cons] using h3
   | some i =>
    rw [List.filterMap_cons,List.filter_cons];simp only [Option.map_some,Option.isSome_some,if_true,List.map_cons];rw [h4];congr 1
 rw [h2 acc (fun _ h=>h),List.map_map];rfl
theorem load_keyMid {w:World} {b o:Nat} {S:List UInt8} (hS:S.length=32) (h:w.rangeAt b o (bv S)):(loadVar 105 ⟨b,o,none⟩).run prog w=.ok (keyV S) w :=
 run_loadVar_mid w b o 105 _ _ h underlying105 rfl (by rw [show (bv S).length=32 by rw [bv_length];exact hS];kernel_rfl)
def PnsAt (w:World) (v:Value) (l:List Pn):Prop:=∃ ps:List PnX,ps.map PnX.p=l/\Sl w No 120 v l.length (ps.flatMap PnX.cells)/\∀ p ∈ ps,PnS w p/\Sl w No 9 p.pv p.p.v.pre.length (strs p.p.v.pre)
def SolveRes (w':World) (xl:List Rw) (nl:List Nd) (e:Ending):Prop:=∀ names,Asc names->(∀ y,y ∈ names ↔ y ∈ xl.map (·.name))->match solveL xl nl names with
 | none=>e=.returned (.tuple #[.slice none 0 0,.int .i64 70])
 | some acc=>∃ v,e=.returned (.tuple #[v,.int .i64 0])/\PnsAt w' v (pinsOf xl acc)/\(pinsOf xl acc).length<=19
theorem told_fault (q fb:Nat) (s1 s2:ByteArray) (w:World) (hg:ErrTy w) (hfb:w.heap[fb]? = some (.cells #[.string s1,.string s2,confV q] 165 (0,0))) :
  Calls prog 180 #[faultV fb] w fun e w'=>e=.returned (.int .i64 70)/\Mod No w w':=by
 refine calls_hide fun R hR=>?_
 have HF:=zh hfb;have HG:=zh hg;unfold faultV;clear hfb hg;go_enter func180,ntmps180
 go_upto_region 2 with fail
 obtain ⟨eb,heb⟩:∃ q,q=w.heap.size:=⟨_,rfl⟩
 rw [<- heb];generalize hw6:World.alloc w _=w6;have hm6:Mod No w w6:=by rw [<- hw6];exact (Mod.refl No w).alloc _
 have hxb:w6.heap[eb]? = some (.cells #[.pointer none] 331 (0,0)):=by rw [<- hw6,heb];exact heap_alloc_new w _
 have HAS:=zh (as_faultl q fb eb s1 s2 w6 (HG.out.keep hm6 (fun f=>f)) hxb (hm6.keep HF.out (fun f=>f)));unfold faultV at HAS;have HM6:=zh hm6;have HEB:=zh heb;clear hw6 hm6 hxb heb;go_wp2_with fail
 with_reducible refine HAS.out.mono ?_
 rintro e w7 ⟨rfl,-,hm7⟩;have HM7:=zh (HM6.out.then hm7 (S:=No) (fun x hx e=>by have e':x=eb:=e;have:=HEB.out;omega));clear hm7 HAS;go_wp2_with fail
 exact fin hR ⟨rfl,HM7.out⟩
theorem solve_any (xs:List RwX) (nx:Nat->List NdX) (nn:List NdX) (names:List (List UInt8)) (hin:SgIn xs nx nn names) (rv nv:Value) (w:World) (h0:0 < w.heap.size) (herr:ErrTy w) (hrw:RowsX (fun q=>w.heap.size<=q) w rv xs)
  (hnds:∀ i,i < xs.length->NdL (fun q=>w.heap.size<=q) w (rxAt xs i).nv (nx i)) (hnn:NdL (fun q=>w.heap.size<=q) w nv nn) :
  Calls prog 117 #[rv,nv,.int .i64 1048576] w fun e w'=>SolveRes w' (xs.map RwX.r) (nn.map NdX.n) e/\Mod No w w':=by
 refine calls_hide fun R hR=>?_
 have HMD:=zh (smade_any xs nx nn names hin rv nv 1048576 (by omega) w h0 hrw hnds hnn);obtain ⟨ra,rc,hrv⟩:=hrw.sl.len;subst hrv;have HRW:=zh hrw;have HER:=zh herr;have HIN:=zh hin;have HNVS:=zh (show ∀ i,i < xs.length->∃ a m c,(rxAt xs i).nv=.slice a m c from fun i hi=>by
  obtain ⟨a,c,e⟩:=(hnds i hi).sl.len;exact ⟨a,_,c,e⟩)
 clear hin hrw hnds hnn herr h0;go_enter func117,ntmps117
 go_wp2_with fail
 rw [show (min 1048576 4194304:Int)=1048576 by decide];with_reducible refine HMD.out.mono ?_
 rintro e w1 ⟨g,rfl,hsm⟩;have HSM:=zh hsm;have HER1:=zh (HER.out.keep hsm.mod (fun f=>f));have HFD:=zh (find_any' hsm.ok hsm.far (fx:=fun _=>none) (fun _ h=>absurd rfl h) _ _ w1 hsm.at_ HER1.out);have HXL:=zh (show g.xl=xs.map RwX.r by show g.xs.map RwX.r=_;rw [hsm.xs]);have HNLL:=zh (show g.nl=nn.map NdX.n by show g.nn.map NdX.n=_;rw [hsm.nn]);have HSPW:=zh (show ∀ W W':World,Mod No w W->Mod (spF g W) W W'->Mod No w W' from fun _ _ h1 h2=>h1.then h2 (fun q hq e=>by have:=hsm.new q (spF_out e);omega));clear hsm HMD;go_wp2_with fail
 with_reducible refine HFD.out.mono ?_
 rintro e w2 ⟨hm2,⟨mb,d,A,rfl,hmb,hnm,hat,hsol,hcon⟩ | ⟨fb,s1,s2,q,c,A,rfl,hfb0,hfb,hat,hns⟩⟩
 ·have HB:=zh (best_any HSM.out.ok HSM.out.far d A d mb w2 hat (HER1.out.keepSp HSM.out.far hm2) hnm (Nat.le_trans HSM.out.at_.fix.big hmb) hsol);have HM2:=zh (HSPW.out _ _ HSM.out.mod hm2.spF);clear hm2 hmb hnm hat hsol hcon HFD;go_wp2_with fail
  with_reducible refine HB.out.mono ?_
  rintro e w3 ⟨ib,names0,acc,rfl,hib,hasc,hmem,hsl,hfix,hm3⟩;have HM3:=zh (HSPW.out _ _ HM2.out hm3);have HIB:=zh hib;have HACN:=zh (show acc.map Prod.fst=names0 by
   unfold solveL at hsl;obtain ⟨-,os,h1,h2,-⟩:=Sol.lexs_some hsl;rw [h2,List.nil_append];exact h1)
  have HRES:=zh (show ∀ (W:World) (v:Value),PnsAt W v (pinsOf (xs.map RwX.r) acc)->(pinsOf (xs.map RwX.r) acc).length<=19->SolveRes W (xs.map RwX.r) (nn.map NdX.n) (.returned (.tuple #[v,.int .i64 0])) from fun W v h h19 nms h1 h2=>by
   have e1:nms=names0:=asc_unique _ _ h1 hasc fun y=>by rw [h2 y,hmem y,HXL.out]
   rw [e1,<- HXL.out,<- HNLL.out,hsl];exact ⟨v,rfl,by rw [HXL.out];exact h,by rw [HXL.out];exact h19⟩)
  have HASC:=zh hasc;have HVAL:=zh (show ∀ a i,Sol.pickL acc a=some i->i < xs.length/\(rxAt xs i).r.name=a from fun a i h=>by
   unfold solveL at hsl;obtain ⟨-,os,h1,h2,h3⟩:=Sol.lexs_some hsl;rw [List.nil_append] at h2;have h4:=h3 (a,some i) (by rw [<- h2];exact pickL_some h) i rfl;obtain ⟨h5,h6⟩:=rowsN_mem.1 h4;rw [HXL.out,List.length_map] at h5;rw [HXL.out,<- rxAt_r] at h6;exact ⟨h5,h6⟩)
  have HKN:=zh (show ∀ k,chV (Sol.pickL acc) k ≠ none->k ∈ (xs.map RwX.r).map (·.name) from fun k hk=>by
   cases hp:Sol.pickL acc k with
   | none=>exact absurd (show chV (Sol.pickL acc) k=none by unfold chV;rw [hp];rfl) hk
   | some i =>
    obtain ⟨h1,h2⟩:=HVAL.out k i hp;rw [List.map_map];exact List.mem_map.2 ⟨_,rxAt_mem h1,h2⟩)
  have hfew:=HIN.out.few;have HKY:=zh (keysN_any (some ib) w3);have HST:=zh (sortedN_any ib _ w3 hib HKN.out (by rw [List.length_map,List.length_map];omega));clear hib hasc hmem hsl hfix hm3 HB;go_wp2_with fail
  with_reducible refine HKY.out.mono ?_
  rintro e w4 ⟨rfl,rfl⟩;go_wp2_with fail
  with_reducible refine HST.out.mono ?_
  rintro e w5 ⟨kv,ks,rfl,hka,hkm,hkl,hks,hm5⟩;have hks19:ks.length<=19:=by rw [List.length_map,List.length_map] at hkl;omega
  obtain ⟨ka,kc,hkv⟩:=hks.len;subst hkv;have HKS:=zh hks;have HM5:=zh (HM3.out.trans hm5);have HIB5:=zh (HIB.out.keep hm5 (fun f=>f));have HPK:=zh (show ∀ k ∈ ks,∃ i,Sol.pickL acc k=some i from fun k hk=>by
   have h1:=(hkm k).1 hk;cases hp:Sol.pickL acc k with
   | none=>exact absurd (show chV (Sol.pickL acc) k=none by unfold chV;rw [hp];rfl) h1
   | some i=>exact ⟨i,rfl⟩)
  have HPINS:=zh (show pinsOf (xs.map RwX.r) acc=ks.map fun a=>pnAt (xs.map RwX.r) ((Sol.pickL acc a).getD 0) from pins_keys (by rw [HACN.out];exact HASC.out) hka fun a=>by
   rw [hkm a];unfold chV;cases Sol.pickL acc a <;> simp)
  have HP19:=zh (show (pinsOf (xs.map RwX.r) acc).length<=19 by rw [HPINS.out,List.length_map];exact hks19);have HRW5:=zh (HRW.out.keep HM5.out (fun _ f=>f.elim));obtain ⟨i0,hi0,hz0,hz1,hz2⟩:=info_parts info_pn;have HI:=zh (And.intro hi0 (And.intro hz0 (And.intro hz1 hz2)));clear hka hkm hkl hks hm5 HKY HST hi0 hz0 hz1 hz2;go_wp2_with fail
  obtain ⟨kn,hkn⟩:∃ n,n=ks.length:=⟨_,rfl⟩
  have HKNN:=zh hkn;rw [<- hkn] at HKS hks19 ⊢;obtain ⟨B,hB⟩:∃ B,B=w5.heap.size:=⟨_,rfl⟩
  have HBB:=zh hB;clear hB hkn;go_loopw [11,43] (fun q11 q43 wr=>∃ (k:Nat) (ps:List PnX) (v:Value),k<=kn/\q43=.int .i64 (k:Int)/\q11=v/\wr.ownsRow B 120 37 v k (ps.flatMap PnX.cells)/\ps.map PnX.p=(ks.take k).map (fun a=>pnAt (xs.map RwX.r) ((Sol.pickL acc a).getD 0)) ∧
   (∀ p ∈ ps,p.p.sum.length=32/\Small p.p.v/\Sl wr No 9 p.pv p.p.v.pre.length (strs p.p.v.pre))/\Mod No w5 wr) (fun _ q _=>kn - (intOf q).toNat)
  case atStart=>exact ⟨0,[],.slice none 0 0,by omega,rfl,rfl,⟨rfl,.inl ⟨rfl,rfl⟩⟩,rfl,(fun _ h=>by cases h),Mod.refl _ _⟩
  case round =>
   obtain ⟨k,ps,v,hk,rfl,rfl,hown,hpm,hps,hmod⟩:=hrel;have HO:=zh hown;have HPM:=zh hpm;have HPS:=zh hps;have HM:=zh hmod;have hk0:(0:Int)<=(k:Int):=Int.natCast_nonneg _;obtain ⟨va,vc,hvv⟩:=own_len hown;subst hvv;clear hown hpm hps hmod;by_cases hlt:k < kn
   ·have hk1:(k:Int) < (kn:Int):=by omega
    have hkl:k < ks.length:=by rw [<- HKNN.out];exact hlt
    obtain ⟨b,o,c2,hvs,_⟩:=HKS.out.shape (by omega);have hka:ka=some ⟨b,o,none⟩:=by cases hvs;rfl
    subst hka;have hcell:=HM.out.cell (HKS.out.cellN (i:=k) (by unfold strs;rw [List.length_map];exact hkl)) (fun f=>f);rw [show (strs ks)[k]'(by unfold strs;rw [List.length_map];exact hkl)=strV ks[k] from by unfold strs;simp] at hcell;obtain ⟨i,hpi⟩:=HPK.out _ (List.getElem_mem hkl);obtain ⟨hil,hnam⟩:=HVAL.out _ i hpi;have HTKP:=zh (show (ks.take (k+1)).map (fun a=>pnAt (xs.map RwX.r) ((Sol.pickL acc a).getD 0))=(ks.take k).map (fun a=>pnAt (xs.map RwX.r) ((Sol.pickL acc a).getD 0))++[⟨ks[k],(rxAt xs i).r.v,(rxAt xs i).r.sum⟩] by
     rw [List.take_succ_eq_append_getElem hkl,List.map_append,List.map_cons,List.map_nil,hpi];unfold pnAt;simp only [Option.getD_some];rw [<- rxAt_r,hnam])
    have hnl:=HIN.out.name _ (rxAt_mem hil);rw [hnam] at hnl;have hli:=(HIB5.out.keep HM.out (fun f=>f)).get (t:=282) (z:=.int .i64 0) underlying282 (by kernel_rfl) ks[k] (by omega);rw [show (chV (Sol.pickL acc) ks[k]).getD (.int .i64 0)=.int .i64 (i:Int) by unfold chV;rw [hpi];rfl] at hli;have HRWR:=zh (HRW5.out.keep HM.out (fun _ f=>f.elim));obtain ⟨rb,ro,rcp,hrv,hrg,-⟩:=HRWR.out.at_ hil;have hra:ra=some ⟨rb,ro,none⟩:=by cases hrv;rfl
    subst hra;have HRG:=zh hrg;have hsum:=HRWR.out.sum _ (rxAt_mem hil);have hsmall:=HRWR.out.small _ (rxAt_mem hil);have hpre:=(HRWR.out.pre _ (rxAt_mem hil)).shrink (Y:=No) (fun _ _ f=>f.elim);obtain ⟨nva,nvm,nvc,hnv⟩:=HNVS.out i hil;have HCS1:=zh (rows_one (x:=rxAt xs i) (w:=wr) ⟨hsum,hsmall,hpre,nva,nvm,nvc,hnv⟩);have HL39:=zh (RwX.cells_length (rxAt xs i) hsum);have hi1:(i:Int) < (xs.length:Int):=by omega
    have hi0:(0:Int)<=(i:Int):=Int.natCast_nonneg _;generalize rxAt xs i=x at *;generalize ks[k]=nm at *;obtain ⟨cs,hcs⟩:∃ cs,cs=RwX.cells x:=⟨_,rfl⟩
    rw [<- hcs] at HRG HCS1 HL39;have HCSE:=zh hcs;obtain ⟨NM,hNM⟩:∃ b:ByteArray,b=⟨nm.toArray⟩:=⟨_,rfl⟩
    unfold strV at hcell;rw [<- hNM] at hcell hli;have HNMB:=zh hNM;obtain ⟨pa,pc,hpv⟩:=hpre.len;have HPRE:=zh hpre;have HSUM:=zh hsum;have HSMALL:=zh hsmall;have HPV:=zh hpv;clear hrv hrg hpre hsum hsmall hpv hcs hNM hnam hpi hnl hvs hil;go_upto_region 14 with (first | (refine wpList_load_mid rfl 107 _ rfl rb (ro+i*39) rfl cs _ HRG.out underlying107 rfl (by rw [HL39.out];exact row_info) ?_) | (refine wpList_store_row rfl 107 _ _ rfl wr.heap.size cs.toArray rfl rfl 107 _ (heap_alloc_new wr _) (by rw [List.size_toArray,HL39.out];exact row_info) (by show _=cs.length;rw [HL39.out];rfl) HCS1.out ?_))
    obtain ⟨gb,hgb⟩:∃ g,g=wr.heap.size:=⟨_,rfl⟩
    rw [<- hgb];generalize hw6:World.setRow _ gb cs.toArray=w6;have hm6:Mod No wr w6:=by rw [<- hw6,hgb];exact ((Mod.refl No wr).alloc _).setRow (fun h=>absurd h (by omega)) _
    have hg6:w6.heap[gb]? = some (.cells cs.toArray 107 (0,0)):=by rw [<- hw6,hgb];exact setRow_heap _ _ _ _ _ _ (heap_alloc_new wr _)
    have c4:w6.cell? ⟨gb,4,none⟩=some (.slice pa x.r.v.pre.length pc):=by rw [<- HPV.out];exact cell_ofA hg6 (by rw [List.getElem?_toArray,HCSE.out];exact rows_get4 _)
    have HCL:=zh (clonestrs x.r.v.pre.length HSMALL.out.len (.slice pa x.r.v.pre.length pc) (strs x.r.v.pre) (by simp [strs]) (strs_one _) w6 (by rw [<- HPV.out];exact HPRE.out.kn hm6));have HM6:=zh hm6;have HG6:=zh hg6;have HGBW:=zh hgb;clear hw6 hm6 hg6 hgb hcell hli;go_wp2_with fail
    with_reducible refine HCL.out.mono ?_
    rintro e w7 ⟨v1,rfl,hs1,hm7⟩;have hg7:=hm7.keep HG6.out (fun f=>f);have hv1:=hs1.shrink (Y:=fun q=>q=gb) (fun q hq e=>by have h1:q=gb:=e;have h2:=lt_of_heap HG6.out;show q < w6.heap.size;omega);obtain ⟨v1a,v1c,hv1e⟩:=hs1.len;subst hv1e;have c4:=cell_ofA hg7 (i:=4) (v:=.slice pa x.r.v.pre.length pc) (by rw [List.getElem?_toArray,HCSE.out,<- HPV.out];exact rows_get4 _);have f4:=frozen_of 4 hg7;have HG7:=zh hg7;have HV1:=zh hv1;have HM7:=zh (HM6.out.trans hm7);clear hs1 hm7 hg7 hv1 HCL;go_upto_region 15 with fail
    generalize hw8:World.setCell w7 _ _=w8;have hm8:Mod (· = gb) w7 w8:=by rw [<- hw8];exact Mod.cell1 _ _ _ _
    have hg8:w8.heap[gb]? = some (.cells (RwX.cells ⟨x.r,.slice v1a x.r.v.pre.length v1c,x.nv⟩).toArray 107 (0,0)):=by
     rw [<- hw8,heap_setCell HG7.out,HCSE.out,rows_set1 HSUM.out]
    have HV8:=zh (HV1.out.keep hm8 (fun q _ _ e hne=>absurd e hne));have HM8:=zh (show Mod No wr w8 from HM7.out.then hm8 (fun q hq e=>by have e':q=gb:=e;have:=HGBW.out;omega));obtain ⟨wD,hwD⟩:∃ z,z=w8:=⟨_,rfl⟩
    have hm8D:Mod No w8 wD:=by rw [hwD];exact Mod.refl No w8
    have HWD:=zh hwD;have hgD:=hm8D.keep hg8 (fun f=>f);have HRW:=zh (show ∀ W:World,Mod No wD W->∀ j u,(RwX.cells ⟨x.r,.slice v1a x.r.v.pre.length v1c,x.nv⟩)[j]? = some u->W.cell? ⟨gb,j,none⟩=some u from fun W hm j u hj=>cell_ofA (hm.keep hgD (fun f=>f)) (by rw [List.getElem?_toArray];exact hj));have HR1:=zh (show ∀ W:World,Mod No wD W->W.rangeAt gb 1 [.int .i64 x.r.v.ma,.int .i64 x.r.v.mi,.int .i64 x.r.v.pa,.slice v1a x.r.v.pre.length v1c] from fun W hm j u hj=>HRW.out W hm (1+j) u (by
     have hlt:j < 4:=(List.getElem?_eq_some_iff.1 hj).1;unfold RwX.cells;rw [Nat.add_comm,List.getElem?_cons_succ,List.getElem?_append_left (by show j < 4;exact hlt)];exact hj))
    have HR5:=zh (show ∀ W:World,Mod No wD W->W.rangeAt gb 5 (bv x.r.sum) from fun W hm j u hj=>HRW.out W hm (5+j) u (by
     have hlt:=(List.getElem?_eq_some_iff.1 hj).1;unfold RwX.cells;rw [show 5+j=(4+j)+1 by omega,List.getElem?_cons_succ,List.getElem?_append_right (by show 4<=4+j;omega),show 4+j - (verCs x.r.v (.slice v1a x.r.v.pre.length v1c)).length=j by show 4+j - 4=j;omega,List.getElem?_append_left hlt];exact hj))
    have HM8D:=zh hm8D;clear hwD hm8D hgD;have HO8:=zh (own_keepM HO.out (HM8.out.trans HM8D.out) (fun _ _ f=>f));have hb8:B<=wD.heap.size:=by have h1:=HBB.out;have h2:=HM.out.size;have h3:=HM8.out.size;have h4:=HM8D.out.size;omega
    have HKI:=zh (key_size HSUM.out);have HPB:=zh (pin_built NM x.r.v.ma x.r.v.mi x.r.v.pa v1a x.r.v.pre.length v1c HSUM.out);have HPL:=zh (pnCs_length HSUM.out NM x.r.v.ma x.r.v.mi x.r.v.pa (.slice v1a x.r.v.pre.length v1c));have HPO:=zh (pnCs_one NM x.r.v.ma x.r.v.mi x.r.v.pa v1a x.r.v.pre.length v1c x.r.sum);have HPC:=zh (show PnX.cells ⟨⟨nm,x.r.v,x.r.sum⟩,.slice v1a x.r.v.pre.length v1c⟩=pnCs NM x.r.v.ma x.r.v.mi x.r.v.pa (.slice v1a x.r.v.pre.length v1c) x.r.sum by unfold PnX.cells pnCs strV verCs;rw [HNMB.out]);have HPO1:=zh (show ∀ u ∈ pnCs NM x.r.v.ma x.r.v.mi x.r.v.pa (.slice v1a x.r.v.pre.length v1c) x.r.sum,u.oneCell'=true from fun u hu=>by have h:=HPO.out;rw [Array.all_eq_true'] at h;exact h u (by simpa using hu));obtain ⟨pcs,hpcs⟩:∃ p,p=pnCs NM x.r.v.ma x.r.v.mi x.r.v.pa (.slice v1a x.r.v.pre.length v1c) x.r.sum:=⟨_,rfl⟩
    rw [<- hpcs] at HPB HPL HPO1 HPC;obtain ⟨hi0',hz0,hz1,hz2⟩:=HI.out;have HV32:=zh (show keyV x.r.sum=.agg (bv x.r.sum).toArray from rfl);clear hw8 hm8 hg8 c4 f4 hpcs;have hSw:Mod No wD wD:=Mod.refl _ _;rw [<- HWD.out];refine wp_region_lit ?_;refine Great.wpList_runTo rfl (some 59) rfl (.slice va k vc) wD (rfl) ?_;simp only [Act.put,yB,yC,yD];refine Great.wpList_runTo rfl (some 60) rfl (.string NM) wD (rfl) ?_;simp only [Act.put,yB,yC,yD];refine Great.wpList_runTo rfl (some 61) rfl (.pointer (some ⟨gb,1,none⟩)) wD (by first | rfl | go_simp) ?_;simp only [Act.put,yB,yC,yD];refine Great.wpList_runTo rfl (some 62) rfl ((.agg #[.int .i64 x.r.v.ma,.int .i64 x.r.v.mi,.int .i64 x.r.v.pa,.slice v1a x.r.v.pre.length v1c])) wD (yloadZ (load_verM (HR1.out _ hSw)) (.tmp 61) rfl rfl) ?_;simp only [Act.put,yB,yC,yD];refine Great.wpList_runTo rfl (some 63) rfl (.pointer (some ⟨gb,5,none⟩)) wD (by first | rfl | go_simp) ?_;simp only [Act.put,yB,yC,yD];refine Great.wpList_runTo rfl (some 64) rfl (keyV x.r.sum) wD (yloadZ (load_keyMid HSUM.out (HR5.out _ hSw)) (.tmp 63) rfl rfl) ?_;simp only [Act.put,yB,yC,yD];refine Great.wpList_runTo rfl (some 65) rfl (.agg pcs.toArray) wD (ybuildR _ (by simp only [Array.toList_map,List.map_cons,List.map_nil];exact HPB.out) rfl) ?_;simp only [Act.put,yB,yC,yD];refine wpList_plain rfl fun K hK=>?_
    refine wp_value (v:=.slice (some ⟨wD.heap.size,0,none⟩) 1 1) (w':=(wD.alloc (.cells pcs.toArray 120))) (by apply pn_new HPL.out (.tmp 65) <;> rfl) ?_;refine hK _ _ ?_;clear hK K;simp only [Act.put,yB,yC,yD];refine wpList_plain rfl fun K hK=>?_
    refine wp_app_atN (.tmp 59) (.tmp 66) 25 rfl B 120 i0 _ 37 96 underlying25 hi0' hz0 hz1 hz2 rfl (by decide) (.slice va k vc) k (ps.flatMap PnX.cells) rfl (own_keepM HO8.out ((Mod.refl No wD).alloc _) (fun _ _ f=>f)) ⟨wD.heap.size,0,none⟩ 1 1 pcs rfl HPL.out (fun j u hu=>cells_newN hu) HPO1.out (by unfold maxLen;omega) (by omega) (Nat.le_trans hb8 ((Mod.refl No wD).alloc _).size) ?_;intro v9 w9 hown9 hg9 _;have HOWN9:=zh hown9;have HG9:=zh hg9;clear hown9 hg9;refine hK _ _ ?_;clear hK K;simp only [Act.put,yB,yC,yD];obtain ⟨v9a,v9c,hv9⟩:=own_len HOWN9.out;subst hv9;have hm9:Mod (fun q=>(Value.slice va k vc).ownBlock=some q) wD w9:=((Mod.refl No wD).alloc (.cells pcs.toArray 120)).no.trans (Mod.of_grown HG9.out (fun q e _=>e));have hb9:∀ q,(Value.slice va k vc).ownBlock=some q->B<=q:=fun q e=>own_baseS HO.out e
    have HM9:=zh (show Mod No w5 w9 from ((HM.out.trans HM8.out).trans HM8D.out).then hm9 (fun q hq e=>by have:=hb9 q e;have:=HBB.out;omega));have hoff:∀ (q:Nat) (cur:Array Value) (t:TypeId) (fz:Nat × Nat),t ≠ 120->(Value.slice va k vc).ownBlock=some q->wD.heap[q]? ≠ some (.cells cur t fz):=fun q cur t fz ht e hh=>by
     obtain ⟨cur2,h2⟩:=own_heapM HO8.out e;rw [hh] at h2;cases h2;exact ht rfl
    have HPS9:=zh (show ∀ p ∈ ps++[(⟨⟨nm,x.r.v,x.r.sum⟩,.slice v1a x.r.v.pre.length v1c⟩:PnX)],p.p.sum.length=32/\Small p.p.v/\Sl w9 No 9 p.pv p.p.v.pre.length (strs p.p.v.pre) from fun p hp=>by
     rcases List.mem_append.1 hp with hp | hp
     ·obtain ⟨h1,h2,h3⟩:=HPS.out p hp;exact ⟨h1,h2,(h3.kn (HM8.out.trans HM8D.out)).keep hm9 (fun q cur fz e _ hh=>hoff q cur _ fz (by decide) e hh)⟩
     ·rw [List.mem_singleton] at hp;subst hp;exact ⟨HSUM.out,HSMALL.out,((HV8.out.kn HM8D.out).shrink (fun _ _ f=>f.elim)).keep hm9 (fun q cur fz e _ hh=>hoff q cur _ fz (by decide) e hh)⟩)
    have HO9:=zh (show w9.ownsRow B 120 37 (.slice v9a (k+1) v9c) (k+1) ((ps++[(⟨⟨nm,x.r.v,x.r.sum⟩,.slice v1a x.r.v.pre.length v1c⟩:PnX)]).flatMap PnX.cells) by
     rw [List.flatMap_append,List.flatMap_cons,List.flatMap_nil,List.append_nil,HPC.out];exact HOWN9.out)
    have HPM9:=zh (show (ps++[(⟨⟨nm,x.r.v,x.r.sum⟩,.slice v1a x.r.v.pre.length v1c⟩:PnX)]).map PnX.p=(ks.take (k+1)).map (fun a=>pnAt (xs.map RwX.r) ((Sol.pickL acc a).getD 0)) by
     rw [HTKP.out,List.map_append,HPM.out];rfl)
    clear hm9 hb9 hoff hi0' hz0 hz1 hz2 hb8;go_wp2_with fail
    exact ⟨⟨k+1,_,_,(by omega),rfl,rfl,HO9.out,HPM9.out,HPS9.out,HM9.out⟩,by show kn - ((k:Int)+1).toNat < kn - (k:Int).toNat;omega⟩
   ·have hke:k=kn:=by omega
    have hk1:¬ ((k:Int) < (kn:Int)):=by omega
    have HPA:=zh (show PnsAt wr (.slice va k vc) (pinsOf (xs.map RwX.r) acc) from by
     have h1:=HPM.out;rw [List.take_of_length_le (by have:=HKNN.out;omega),<- HPINS.out] at h1;have h2:(pinsOf (xs.map RwX.r) acc).length=k:=by rw [HPINS.out,List.length_map];have:=HKNN.out;omega
     refine ⟨ps,h1,?_,fun p hp=>?_⟩
     ·rw [h2];exact Sl.of_own HO.out (fun _ _ f=>f)
     ·obtain ⟨q1,q2,q3⟩:=HPS.out p hp;exact ⟨⟨q1,q2,.of q3⟩,q3⟩)
    have HMF:=zh (HM5.out.trans HM.out);have HRF:=zh (HRES.out wr _ HPA.out HP19.out);clear hke;go_wp2_with fail
    exact fin hR ⟨HRF.out,HMF.out⟩
 ·have HT:=zh (told_fault q fb s1 s2 w2 (HER1.out.keepSp HSM.out.far hm2) hfb);have HM2:=zh (HSPW.out _ _ HSM.out.mod hm2.spF);have HRES:=zh (show ∀ W,SolveRes W (xs.map RwX.r) (nn.map NdX.n) (.returned (.tuple #[.slice none 0 0,.int .i64 70])) from fun W nms h1 h2=>by
   rw [HXL.out,HNLL.out] at hns;rw [solve_none (sol_names h1 h2) hns])
  clear hm2 hfb0 hfb hat hns HFD;unfold faultV at HT ⊢;go_wp2_with fail
  with_reducible refine HT.out.mono ?_
  rintro e w3 ⟨rfl,hm3⟩;have HM3:=zh (HM2.out.trans hm3);clear hm3 HT;go_wp2_with fail
  exact fin hR ⟨HRES.out _,HM3.out⟩
end Go.Proofs.YticfcmdjplmaeaaGreatDoor
namespace Go.Proofs.YticfcmdjplmaeaaGreatDoor
open _root_.Go.Proofs.Tryz
open Go.RowKit Go.Sort
def putN (n:List UInt8) (a:List (List UInt8)):List (List UInt8):=a.filter (fun x=>decide (x < n))++n :: a.filter (fun x=>decide (n < x))
theorem putN_mem {n:List UInt8} {a:List (List UInt8)} (y:List UInt8):y ∈ putN n a ↔ y=n\/y ∈ a:=by
 unfold putN;rw [List.mem_append,List.mem_cons,List.mem_filter,List.mem_filter];simp only [decide_eq_true_eq];constructor
 ·rintro (h | h | h)
  ·exact .inr h.1
  ·exact .inl h
  ·exact .inr h.1
 ·rintro (h | h)
  ·exact .inr (.inl h)
  ·rcases Std.lt_trichotomy y n with h1 | h1 | h1
   ·exact .inl ⟨h,h1⟩
   ·exact .inr (.inl h1)
   ·exact .inr (.inr ⟨h,h1⟩)
theorem putN_asc {n:List UInt8} {a:List (List UInt8)} (h:Asc a):Asc (putN n a):=by
 unfold putN;refine List.pairwise_append.2 ⟨h.sublist List.filter_sublist,List.pairwise_cons.2 ⟨fun y hy=>?_,h.sublist List.filter_sublist⟩,fun x hx y hy=>?_⟩
 ·simpa using (List.mem_filter.1 hy).2
 ·have h1:x < n:=by simpa using (List.mem_filter.1 hx).2
  rcases List.mem_cons.1 hy with rfl | hy
  ·exact h1
  ·exact List.lt_trans h1 (by simpa using (List.mem_filter.1 hy).2)
def namesR (xl:List Rw):List (List UInt8):=(xl.map (·.name)).foldr putN []
theorem namesR_ok:∀ (l:List (List UInt8)),Asc (l.foldr putN [])/\∀ y,y ∈ l.foldr putN [] ↔ y ∈ l
 | []=>⟨List.Pairwise.nil,fun _=>Iff.rfl⟩
 | n :: l=>by
  obtain ⟨h1,h2⟩:=namesR_ok l;refine ⟨putN_asc h1,fun y=>?_⟩
  rw [List.foldr_cons,putN_mem,h2,List.mem_cons]
structure PlanP where
 man:List UInt8
 lock:List UInt8
 pins:List Pn
 build:Bool
 sweep:Bool
 check:Bool
def beginL (name text:List UInt8):Except Int PlanP :=
 if nameB name=false then .error 62 else match verOf text with
 | none=>.error 60
 | some v=>.ok ⟨mfText ⟨name,v,[]⟩,lockHead,[],true,false,false⟩
noncomputable def solvedL (xl:List Rw) (m:Mf):Except Int PlanP:=match solveL xl m.needs (namesR xl) with
 | none=>.error 70
 | some acc=>.ok ⟨mfText m,lkText (pinsOf xl acc),pinsOf xl acc,true,false,false⟩
def addL (m:Mf) (name text:List UInt8):Except Int Mf:=match spanL text with
 | none=>.error 61
 | some s=>match addM m ⟨name,s,text⟩ with
  | none=>.error 62
  | some m'=>.ok m'
def lockL (lock:List UInt8):Option (List Pn):=if lock=[] then some [] else lkOf lock
noncomputable def kindL (xl:List Rw) (m:Mf) (pins:List Pn) (man lock:List UInt8) (kind:Int) (name text:List UInt8):Except Int PlanP :=
 if kind=1 then (match addL m name text with
  | .error c=>.error c
  | .ok m'=>solvedL xl m')
 else if kind=3 then solvedL xl m
 else if kind=2 then (if (m.needs.any fun n=>decide (n.name=name))=true then solvedL xl (mfLess m name) else .error 82)
 else if kind=4 then .ok ⟨man,lock,pins,true,false,false⟩
 else if kind=5 then (if (m.needs.any fun n=>!metB pins n)=true then .error 83 else .ok ⟨man,lock,pins,false,false,true⟩)
 else if kind=6 then .ok ⟨man,lock,pins,false,true,false⟩
 else .error 85
noncomputable def planL (xl:List Rw) (man lock:List UInt8) (kind:Int) (name text:List UInt8):Except Int PlanP :=
 if kind=0 then (if man=[] then beginL name text else .error 81)
 else if man=[] then .error 81
 else match mfOf man with
 | none=>.error 62
 | some m=>match lockL lock with
  | none=>.error 63
  | some pins=>kindL xl m pins man lock kind name text
def planV (p:PlanP) (pv:Value):Value:=.agg #[strV p.man,strV p.lock,pv,.bool p.build,.bool p.sweep,.bool p.check]
def planZ:Value:=.agg #[.string ⟨#[]⟩,.string ⟨#[]⟩,.slice none 0 0,.bool false,.bool false,.bool false]
def PlanRes (w':World) (r:Except Int PlanP) (e:Ending):Prop:=match r with
 | .error c=>e=.returned (.tuple #[planZ,errnoV c])
 | .ok p=>∃ pv,e=.returned (.tuple #[planV p pv,.nilIface])/\PnsAt w' pv p.pins/\p.pins.length<=200
def PlanRes2 (w':World) (name:List UInt8) (r:Except Int PlanP) (e:Ending):Prop:=match r with
 | .error c=>∃ fb,e=.returned (.tuple #[planZ,faultV fb])/\w'.heap[fb]? = some (.cells #[.string ⟨#[112,108,97,110]⟩,strV name,errnoV c] 165 (0,0))
 | .ok p=>∃ pv,e=.returned (.tuple #[planV p pv,.nilIface])/\PnsAt w' pv p.pins/\p.pins.length<=200
structure RowsIn (w:World) (rv:Value) (xs:List RwX) (nx:Nat->List NdX):Prop where
 rows:RowsX No w rv xs
 nds:∀ i,i < xs.length->NdL No w (rxAt xs i).nv (nx i)
 few:xs.length<=19
 name:∀ x ∈ xs,x.r.name.length<=1000000
 some_:∃ l:List (List UInt8),l.length<=12/\∀ x ∈ xs,x.r.name ∈ l
 each:∀ i,i < xs.length->(nx i).map NdX.n=(rxAt xs i).r.needs/\NdGood (nx i)
 nat:∀ x ∈ xs,VerNat x.r.v
 ver:∀ x ∈ xs,(verT x.r.v).length<=1000000
theorem RowsX.shrink {X Y:Nat->Prop} {w:World} {rv:Value} {xs:List RwX} (h:RowsX X w rv xs) (hy:∀ k,k < w.heap.size->Y k->X k):RowsX Y w rv xs :=
 ⟨h.sl.shrink hy,fun x hx=>(h.pre x hx).shrink hy,h.sum,h.small⟩
theorem RowsIn.keep {w w':World} {rv:Value} {xs:List RwX} {nx:Nat->List NdX} (h:RowsIn w rv xs nx) (hm:Mod No w w'):RowsIn w' rv xs nx :=
 ⟨h.rows.keep hm (fun _ f=>f),fun i hi=>(h.nds i hi).keep hm (fun _ f=>f),h.few,h.name,h.some_,h.each,h.nat,h.ver⟩
theorem pin_row {xl:List Rw} {acc:Pick} {p:Pn} (h:p ∈ pinsOf xl acc):∃ i,p=pnAt xl i:=by
 unfold pinsOf at h;obtain ⟨x,-,hx⟩:=List.mem_filterMap.1 h;obtain ⟨i,-,rfl⟩:=Option.map_eq_some_iff.1 hx;exact ⟨i,rfl⟩
theorem RowsIn.pin {w:World} {rv:Value} {xs:List RwX} {nx:Nat->List NdX} (h:RowsIn w rv xs nx) {acc:Pick} {p:Pn} (hp:p ∈ pinsOf (xs.map RwX.r) acc):VerNat p.v/\p.name.length<=1000000/\(verT p.v).length<=1000000:=by
 obtain ⟨i,rfl⟩:=pin_row hp;unfold pnAt;dsimp only;rw [<- rxAt_r];by_cases hi:i < xs.length
 ·exact ⟨h.nat _ (rxAt_mem hi),h.name _ (rxAt_mem hi),h.ver _ (rxAt_mem hi)⟩
 ·have h1:rxAt xs i=⟨⟨[],⟨0,0,0,[]⟩,[],0,[]⟩,.nilIface,.nilIface⟩:=by
   unfold rxAt;rw [List.getD_eq_getElem?_getD,List.getElem?_eq_none (by omega)];rfl
  rw [h1];exact ⟨⟨⟨by decide,by decide,by decide⟩,by decide,by decide,by decide⟩,by simp,by decide +kernel⟩
theorem hexL_len (S:List UInt8):(hexL S).length=2*S.length:=by
 induction S with
 | nil=>rfl
 | cons c l ih =>
  unfold hexL at ih ⊢;rw [List.flatMap_cons,List.length_append,ih];simp only [List.length_cons,List.length_nil];omega
theorem lkText_le {l:List Pn} (h20:l.length<=20) (h:∀ p ∈ l,p.name.length<=1000000/\(verT p.v).length<=1000000/\p.sum.length=32):(lkText l).length<=1000000000:=by
 have h1:((sortR ltPn l).flatMap pinT).length<=(sortR ltPn l).length*2000100:=flat_leT fun x hx=>by
  obtain ⟨a,b,c⟩:=h x ((sortR_mem _ _ _).1 hx);have h4:=hexL_len x.sum;unfold pinT;simp only [List.length_append,List.length_cons,List.length_nil];omega
 rw [sortR_length] at h1;have h2:l.length*2000100<=20*2000100:=Nat.mul_le_mul_right _ h20;have h3:lockHead.length=7:=rfl;unfold lkText;rw [List.length_append];omega
theorem RowsIn.made {w:World} {rv:Value} {xs:List RwX} {nx:Nat->List NdX} (h:RowsIn w rv xs nx) {nn:List NdX} (hg:NdGood nn):∃ names,SgIn xs nx nn names:=by
 obtain ⟨L,hL⟩:∃ L:List (List UInt8),L=((List.range xs.length).flatMap fun i=>(nx i).map fun y=>y.n.name)++nn.map fun y=>y.n.name:=⟨_,rfl⟩
 refine ⟨L,h.few,h.name,h.some_,fun i hi=>⟨(h.each i hi).1,(h.each i hi).2,fun y hy=>?_⟩,⟨hg,fun y hy=>?_⟩,?_,fun n hn=>?_⟩
 ·rw [hL];exact List.mem_append_left _ (List.mem_flatMap.2 ⟨i,List.mem_range.2 hi,List.mem_map.2 ⟨y,hy,rfl⟩⟩)
 ·rw [hL];exact List.mem_append_right _ (List.mem_map.2 ⟨y,hy,rfl⟩)
 ·rw [hL,List.length_append,List.length_map];have h1:∀ l:List Nat,(∀ i ∈ l,i < xs.length)->(l.flatMap fun i=>(nx i).map fun y=>y.n.name).length<=l.length*1000:=by
   intro l;induction l with
   | nil=>intro _;simp
   | cons i l ih =>
    intro hl;have h2:=ih fun j hj=>hl j (by simp [hj])
    have h3:=(h.each i (hl i (by simp))).2.few;rw [List.flatMap_cons,List.length_append,List.length_map,List.length_cons,Nat.succ_mul];omega
  have h2:=h1 (List.range xs.length) fun i hi=>List.mem_range.1 hi
  rw [List.length_range] at h2;have h3:=h.few;have h4:=hg.few;have h5:xs.length*1000<=19*1000:=Nat.mul_le_mul_right _ h3;omega
 ·rw [hL] at hn;rcases List.mem_append.1 hn with hn | hn
  ·obtain ⟨i,hi,hn⟩:=List.mem_flatMap.1 hn;obtain ⟨y,hy,rfl⟩:=List.mem_map.1 hn;exact (h.each i (List.mem_range.1 hi)).2.name y hy
  ·obtain ⟨y,hy,rfl⟩:=List.mem_map.1 hn;exact hg.name y hy
theorem nds_good {w:World} {v:Value} {m:Mf} (hg:MfGd m) (h:NdsAt w v m.needs):∃ nn:List NdX,nn.map NdX.n=m.needs/\NdGood nn/\NdL No w v nn:=by
 obtain ⟨xs,h1,h2,h3⟩:=h;have hm:∀ y ∈ xs,y.n ∈ m.needs:=fun y hy=>by rw [<- h1];exact List.mem_map.2 ⟨y,hy,rfl⟩
 have hl:xs.length=m.needs.length:=by rw [<- h1,List.length_map]
 refine ⟨xs,h1,⟨by have:=hg.ok.few;omega,fun y hy=>hg.ok.nds _ (hm y hy),fun y hy=>by have:=hg.nd _ (hm y hy);omega⟩,by rw [hl];exact h3,fun y hy=>?_⟩
 obtain ⟨os,o1,o2,o3⟩:=h2 y hy;exact ⟨os,o1,fun x hx=>o2 x hx,o3⟩
section
variable {r:Rw} (hn:r.name=[97]) (hv:r.v=⟨1,0,0,[]⟩) (hd:r.needs=[])
include hn
theorem kq_rows (a:List UInt8):∀ i,i ∈ rowsN [r] a ↔ i=0/\a=[97]:=fun i=>by
 rw [rowsN_mem,List.length_singleton];constructor
 ·rintro ⟨h1,h2⟩;obtain rfl:i=0:=by omega
  refine ⟨rfl,?_⟩
  rw [<- h2,<- hn];rfl
 ·rintro ⟨rfl,rfl⟩;exact ⟨by omega,hn⟩
theorem kq_names:namesR [r]=[[97]]:=by
 unfold namesR;rw [List.map_cons,List.map_nil,hn];rfl
theorem kq_none {nd:Nd} (h:nd.name ≠ [97]):solveL [r] [nd] (namesR [r])=none:=by
 have hok:=namesR_ok ([r].map (·.name));refine solve_none (sol_names hok.1 hok.2) fun d hd _ _=>?_
 obtain ⟨i,h1,-⟩:=hd.met nd.name nd.span (.inl (by unfold solI;simp));exact h ((kq_rows hn nd.name i).1 (hd.mem _ _ h1)).2
include hv hd
theorem kq_some {nd:Nd} (h:nd.name=[97]) (hs:hasS nd.span ⟨1,0,0,[]⟩=true):solveL [r] [nd] (namesR [r])=some [([97],some 0)]:=by
 have hrow:rowsN [r] [97]=[0]:=by
  unfold rowsN;have:((List.range [r].length).filter fun i=>decide ((rwAt [r] i).name=[97]))=[0]:=by
   show ([0].filter fun i=>decide ((rwAt [r] i).name=[97]))=[0]
   rw [List.filter_cons,if_pos (by rw [decide_eq_true_eq];exact hn)];rfl
  rw [this];rfl
 have hp:∀ a i,Sol.pickL ([([97],some 0)]:Pick) a=some i ↔ a=[97]/\i=0:=fun a i=>by
  unfold Sol.pickL;split
  ·rename_i e;constructor
   ·intro h2;exact ⟨e,(Option.some.inj h2).symm⟩
   ·rintro ⟨-,rfl⟩;rfl
  ·rename_i e;constructor
   ·intro h2;cases h2
   ·rintro ⟨h2,-⟩;exact absurd h2 e
 have hok:Sol.Sol (solI [r] [nd]) (Sol.pickL [([97],some 0)]):=by
  have hneed:([97],nd.span) ∈ (solI [r] [nd]).need:=by
   unfold solI;simp [h]
  have hnds:(solI [r] [nd]).nds 0=[]:=by
   show (rwAt [r] 0).needs.map _=[]
   rw [show (rwAt [r] 0).needs=[] from hd];rfl
  refine ⟨fun a i h2=>?_,fun n s h2=>?_,fun a i h2=>?_⟩
  ·obtain ⟨rfl,rfl⟩:=(hp a i).1 h2;show 0 ∈ rowsN [r] [97]
   rw [hrow];simp
  ·rcases h2 with h2 | ⟨a,i,h2,h3⟩
   ·have h4:(n,s) ∈ [nd].map fun n=>(n.name,n.span):=h2
    simp only [List.map_cons,List.map_nil,List.mem_singleton,Prod.mk.injEq] at h4;refine ⟨0,(hp n 0).2 ⟨by rw [h4.1,h],rfl⟩,?_⟩
    show hasS s (rwAt [r] 0).v=true
    rw [h4.2,show (rwAt [r] 0).v=⟨1,0,0,[]⟩ from hv];exact hs
   ·obtain ⟨rfl,rfl⟩:=(hp a i).1 h2;rw [hnds] at h3;cases h3
  ·obtain ⟨rfl,rfl⟩:=(hp a i).1 h2;exact .base [97] nd.span hneed
 rw [kq_names hn];unfold solveL;show ((((solI [r] [nd]).rowsOf [97]).map some++[none]).findSome? _)=_
 rw [show (solI [r] [nd]).rowsOf [97]=[0] from hrow];have h1:Sol.lexs (solI [r] [nd]) (solOk [r] [nd]) [] [([97],some 0)]=some [([97],some 0)]:=by
  unfold Sol.lexs;rw [if_pos];unfold solOk;simpa using hok
 show ([some 0,none]:List (Option Nat)).findSome? _=_
 rw [List.findSome?_cons];rw [show ([]++[([97],some 0)]:Pick)=[([97],some 0)] from rfl,h1]
omit hd in
theorem kq_some_pins:pinsOf [r] [([97],some 0)]=[⟨[97],⟨1,0,0,[]⟩,r.sum⟩]:=by
 show [pnAt [r] 0]=_
 unfold pnAt;rw [show rwAt [r] 0=r from rfl,hn,hv]
end
def kqMan:Mf:=⟨[109,101],⟨1,0,0,[]⟩,[]⟩
theorem kq_text:mfText kqMan=[110,97,109,101,32,109,101,10,118,101,114,115,105,111,110,32,49,46,48,46,48,10]:=by
 unfold mfText mfHead kqMan verT;dsimp only;simp [decT_small,nameW,versionW,sortR]
theorem kq_of:mfOf (mfText kqMan)=some kqMan:=by
 refine mfOf_text ⟨by decide,?_,fun n hn=>(by cases hn),List.Pairwise.nil,by decide⟩ (by rw [kq_text];decide)
 have:verT kqMan.v=[49,46,48,46,48]:=by
  unfold verT kqMan;simp [decT_small]
 rw [this];decide +kernel
theorem kq_init (xl:List Rw):planL xl [] [] 0 [109,101] [49,46,48,46,48]=.ok ⟨mfText kqMan,lockHead,[],true,false,false⟩:=by
 unfold planL;rw [if_pos rfl,if_pos rfl];unfold beginL;rw [if_neg (by decide),show verOf [49,46,48,46,48]=some ⟨1,0,0,[]⟩ by decide +kernel];rfl
theorem kq_lock:lockL lockHead=some []:=by
 unfold lockL;rw [if_neg (by decide)];rfl
theorem kq_kind (xl:List Rw) (name text:List UInt8):planL xl (mfText kqMan) lockHead 1 name text=match addL kqMan name text with
  | .error c=>.error c
  | .ok m'=>solvedL xl m':=by
 unfold planL;rw [if_neg (by decide),if_neg (by rw [kq_text];decide),kq_of];dsimp only;rw [kq_lock];dsimp only;unfold kindL;rw [if_pos rfl] <;> cases addL kqMan name text <;> rfl
theorem kq_add (r:Rw) (hn:r.name=[97]) (hv:r.v=⟨1,0,0,[]⟩) (hd:r.needs=[]) :
  ∃ p,planL [r] (mfText kqMan) lockHead 1 [97] [94,49,46,48,46,48]=.ok p/\p.build=true/\p.pins.length=1:=by
 obtain ⟨s,hs,hs2⟩:∃ s,spanL [94,49,46,48,46,48]=some s/\hasS s ⟨1,0,0,[]⟩=true:=by
  have h1:(match spanL [94,49,46,48,46,48] with | some s=>hasS s ⟨1,0,0,[]⟩ | none=>false)=true:=by decide +kernel
  split at h1
  ·rename_i s h2;exact ⟨s,h2,h1⟩
  ·cases h1
 have h2:addL kqMan [97] [94,49,46,48,46,48]=.ok ⟨[109,101],⟨1,0,0,[]⟩,[⟨[97],s,[94,49,46,48,46,48]⟩]⟩:=by
  unfold addL;rw [hs];dsimp only;unfold addM kqMan;rw [if_neg (by
   rintro (h | h | h)
   ·exact absurd h (show ¬ nameB [97]=false by decide)
   ·exact absurd h (show ¬ ([97]:List UInt8)=[109,101] by decide)
   ·exact absurd h.2 (by simp))]
  rfl
 rw [kq_kind,h2];dsimp only;unfold solvedL;dsimp only;rw [kq_some hn hv hd rfl hs2];dsimp only;refine ⟨_,rfl,rfl,?_⟩
 show (pinsOf [r] [([97],some 0)]).length=1
 rw [kq_some_pins hn hv];rfl
theorem kq_bad (r:Rw) (hn:r.name=[97]):planL [r] (mfText kqMan) lockHead 1 [98] [42]=.error 70:=by
 have h2:addL kqMan [98] [42]=.ok ⟨[109,101],⟨1,0,0,[]⟩,[⟨[98],⟨true,[]⟩,[42]⟩]⟩:=by
  unfold addL;rw [show spanL [42]=some ⟨true,[]⟩ by decide +kernel];dsimp only;unfold addM kqMan;rw [if_neg (by
   rintro (h | h | h)
   ·exact absurd h (by decide)
   ·exact absurd h (by decide)
   ·exact absurd h.2 (by simp))]
  rfl
 rw [kq_kind,h2];dsimp only;unfold solvedL;dsimp only;rw [kq_none hn (by show ([98]:List UInt8) ≠ [97];decide)]
theorem load_plan {w:World} {b:Nat} {v0 v1 v2 v3 v4 v5:Value} (h:w.heap[b]? = some (.cells #[v0,v1,v2,v3,v4,v5] 27 (0,0))) :
  (loadVar 27 ⟨b,0,none⟩).run prog w=.ok (.agg #[v0,v1,v2,v3,v4,v5]) w :=
 run_loadVar_row (P:=prog) w b 27 27 #[v0,v1,v2,v3,v4,v5] (0,0) _ h underlying27 rfl (by kernel_rfl)
theorem mod_row {w a:World} {b:Nat} (h:Mod No w a) (hb:w.heap.size<=b) (cs:Array Value):Mod No w (a.setRow b cs) :=
 h.then (show Mod (fun q=>q=b) a (a.setRow b cs) from Mod.setRow (S:=fun q=>q=b) (Mod.refl _ _) (fun _=>rfl) _) (S:=No) (fun q hq e=>by have h2:q=b:=e;omega)
theorem begin_gd {name text:List UInt8} {v:Ver} (hn:name.length<=1000000) (ht:text.length<=999999) (h:verOf text=some v):MfGd ⟨name,v,[]⟩ :=
 ⟨⟨verOf_small ht h,fun _ h=>(by cases h),by simp⟩,verOf_nat h,hn,by show (verT v).length<=_;rw [verT_of h];omega,fun _ h=>(by cases h)⟩
theorem begin_any (kd:Int) (name text:List UInt8) (hn:name.length<=1000000) (ht:text.length<=999999) (w:World) (hgl:Gl w) (htab:TabOk w) :
  Calls prog 65 #[.agg #[.int .i64 kd,strV name,strV text]] w fun e w'=>PlanRes w' (beginL name text) e/\Mod No w w':=by
 refine calls_hide fun R hR=>?_
 have HNM:=zh (fun W=>name_any name hn W);have HVP:=zh (fun (W:World) (hm:Mod No w W)=>verparse_u text ht W (hgl.stay hm (fun f=>f)));have HMT:=zh (fun (v:Ver) (h:verOf text=some v) (pa:Option Addr) (pc:Nat) (W:World) (hm:Mod No w W) (hp:Sl W No 9 (.slice pa v.pre.length pc) v.pre.length (strs v.pre)) =>
  show Calls prog 102 #[.agg #[strV name,.int .i64 v.ma,.int .i64 v.mi,.int .i64 v.pa,.slice pa v.pre.length pc,.slice none 0 0]] W fun e w'=>e=.returned (strV (mfText ⟨name,v,[]⟩))/\Mod No W w' from
  mtext_any ⟨name,v,[]⟩ _ W ⟨pa,pc,none,0,rfl,hp,[],rfl,(fun _ h=>by cases h),.inl ⟨rfl,rfl,rfl⟩⟩ (by simp) (verOf_small ht h) (verOf_nat h) (Nat.le_trans (mfText_le (begin_gd hn ht h)) (by omega)) (htab.keep hm (fun f=>f)))
 have HLT:=zh (fun (W:World) (hm:Mod No w W)=>show Calls prog 103 #[.slice none 0 0] W fun e w'=>e=.returned (strV lockHead)/\Mod No W w' from
  ltext_any [] (by simp) _ W (.inl ⟨rfl,rfl,rfl⟩) (fun _ h=>by cases h) (fun _ h=>by cases h) (by decide) (htab.keep hm (fun f=>f)))
 have HB1:=zh (show nameB name=false->∀ W,PlanRes W (beginL name text) (.returned (.tuple #[planZ,errnoV 62])) from fun h W=>by
  unfold beginL PlanRes;rw [if_pos h])
 have HB2:=zh (show nameB name=true->verOf text=none->∀ W,PlanRes W (beginL name text) (.returned (.tuple #[planZ,errnoV 60])) from fun h h2 W=>by
  unfold beginL PlanRes;rw [if_neg (by rw [h];simp),h2])
 have HGD:=zh (show nameB name=true->∀ v,verOf text=some v->∀ W,PlanRes W (beginL name text) (.returned (.tuple #[.agg #[strV (mfText ⟨name,v,[]⟩),strV lockHead,.slice none 0 0,.bool true,.bool false,.bool false],.nilIface])) from fun h v h2 W=>by
  unfold beginL PlanRes;rw [if_neg (by rw [h];simp),h2];exact ⟨.slice none 0 0,rfl,⟨[],rfl,.inl ⟨rfl,rfl,rfl⟩,fun _ h=>by cases h⟩,by simp⟩)
 clear hgl htab hn ht;unfold planZ errnoV at HB1 HB2;unfold strV at *;generalize (⟨name.toArray⟩:ByteArray)=N1 at *;generalize (⟨text.toArray⟩:ByteArray)=T1 at *;generalize (⟨lockHead.toArray⟩:ByteArray)=LH at *;go_enter func65,ntmps65
 go_upto_region 1 with fail
 obtain ⟨gb,hgb⟩:∃ g,g=w.heap.size:=⟨_,rfl⟩
 rw [<- hgb];generalize hw1:World.alloc _ _=w1;have hgc:w1.heap[gb]? = some (.cells #[.int .i64 kd,.string N1,.string T1] 24 (0,0)):=by rw [<- hw1,hgb];exact heap_alloc_old _ (heap_alloc_new w _)
 have hrs:w1.heap[gb+1]? = some (.cells #[.string ⟨#[]⟩,.string ⟨#[]⟩,.slice none 0 0,.bool false,.bool false,.bool false] 27 (0,0)):=by
  rw [<- hw1];have h1:=heap_alloc_new (w.alloc (.cells #[.int .i64 kd,.string N1,.string T1] 24)) (.cells #[.string ⟨#[]⟩,.string ⟨#[]⟩,.slice none 0 0,.bool false,.bool false,.bool false] 27);rw [show (w.alloc (.cells #[.int .i64 kd,.string N1,.string T1] 24)).heap.size=gb+1 by rw [hgb];exact Array.size_push _] at h1;exact h1
 have hm1:Mod No w w1:=by rw [<- hw1];exact ((Mod.refl No w).alloc _).alloc _
 obtain ⟨g2,hg2⟩:∃ g,g=gb+1:=⟨_,rfl⟩
 rw [<- hg2] at hrs ⊢;have HGC:=zh hgc;have HRS:=zh hrs;have HM1:=zh hm1;have HG2:=zh (show w.heap.size<=g2 by omega);have c1:=cell_ofA hgc (i:=1) (v:=.string N1) rfl;have c2:=cell_ofA hgc (i:=2) (v:=.string T1) rfl;clear hw1 hgc hrs hm1 hg2 hgb;go_wp2_with fail
 with_reducible refine (HNM.out _).mono ?_
 rintro e wN ⟨rfl,hwN⟩;rw [hwN];clear hwN wN HNM;cases hnb:nameB name with
 | false =>
  go_wp2_with (refine wpList_store_row rfl 27 _ _ rfl g2 #[.string ⟨#[]⟩,.string ⟨#[]⟩,.slice none 0 0,.bool false,.bool false,.bool false] rfl rfl 27 _ HRS.out (by kernel_rfl) (by rfl) (by kernel_rfl) ?_)
  have hg8:=setRow_heap _ g2 _ #[.string ⟨#[]⟩,.string ⟨#[]⟩,.slice none 0 0,.bool false,.bool false,.bool false] _ _ HRS.out;have hl9:=load_plan hg8;have HM8:=zh (mod_row HM1.out HG2.out #[.string ⟨#[]⟩,.string ⟨#[]⟩,.slice none 0 0,.bool false,.bool false,.bool false]);exact bodyPost_ret (v:=.tuple #[.agg #[.string ⟨#[]⟩,.string ⟨#[]⟩,.slice none 0 0,.bool false,.bool false,.bool false],.iface 36 (.int .i64 62)]) (by simp [results,results65,asAddr,hl9]) rfl (fin hR ⟨HB1.out hnb _,HM8.out⟩)
 | true =>
  go_wp2_with fail
  with_reducible refine (HVP.out _ HM1.out).mono ?_
  rintro e w2 ⟨⟨v,pv,c,rfl,hsm,hsl,hc⟩,hm2⟩;obtain ⟨pa,pc,rfl⟩:=hsl.len;have HSL:=zh (hsl.shrink (Y:=No) (fun _ _ f=>f.elim));have HM2:=zh (HM1.out.trans hm2);have HGC2:=zh (hm2.keep HGC.out (fun f=>f));have HRS2:=zh (hm2.keep HRS.out (fun f=>f));have HCC:=zh hc;clear hsm hsl hm2 hc c1 c2 HVP HGC HRS;go_upto_region 4 with fail
  obtain ⟨gv,hgv⟩:∃ g,g=w2.heap.size:=⟨_,rfl⟩
  rw [<- hgv];generalize hw3:World.alloc _ _=w3;have hm3:Mod No w2 w3:=by rw [<- hw3];exact (Mod.refl No w2).alloc _
  have hv3:w3.heap[gv]? = some (.cells #[.int .i64 v.ma,.int .i64 v.mi,.int .i64 v.pa,.slice pa v.pre.length pc] 40 (0,0)):=by rw [<- hw3,hgv];exact heap_alloc_new w2 _
  have HM3:=zh (HM2.out.trans hm3);have HSL3:=zh (HSL.out.kn hm3);have HRS3:=zh (hm3.keep HRS2.out (fun f=>f));have c1:=cell_ofA (hm3.keep HGC2.out (fun f=>f)) (i:=1) (v:=.string N1) rfl;obtain ⟨⟨d0,d1,d2,d3⟩,-⟩:=cells4 hv3;clear hw3 hm3 hv3 hgv HSL HGC2 HRS2;rcases HCC.out with ⟨rfl,hver⟩ | ⟨rfl,hver⟩
  ·have HMW:=zh (HMT.out v hver pa pc w3 HM3.out HSL3.out);have HGW:=zh (HGD.out hnb v hver);clear HCC HMT HGD HB1 HB2 hver;generalize mfText ⟨name,v,[]⟩=MT at *;generalize v.pre.length=pn at *;generalize v.ma=v0 at *;generalize v.mi=v1 at *;generalize v.pa=v2 at *;generalize (⟨MT.toArray⟩:ByteArray)=MA at *;go_wp2_with fail
   with_reducible refine HMW.out.mono ?_
   rintro e w4 ⟨rfl,hm4⟩;have HM4:=zh (HM3.out.trans hm4);have HRS4:=zh (hm4.keep HRS3.out (fun f=>f));have HLW:=zh (HLT.out w4 HM4.out);clear hm4 HMW HLT c1 d0 d1 d2 d3;go_wp2_with fail
   with_reducible refine HLW.out.mono ?_
   rintro e w5 ⟨rfl,hm5⟩;have HM5:=zh (HM4.out.trans hm5);have HRS5:=zh (hm5.keep HRS4.out (fun f=>f));clear hm5 HLW;go_wp2_with (refine wpList_store_row rfl 27 _ _ rfl g2 #[.string MA,.string LH,.slice none 0 0,.bool true,.bool false,.bool false] rfl rfl 27 _ HRS5.out (by kernel_rfl) (by rfl) (by kernel_rfl) ?_)
   have hg8:=setRow_heap _ g2 _ #[.string MA,.string LH,.slice none 0 0,.bool true,.bool false,.bool false] _ _ HRS5.out;have hl9:=load_plan hg8;have HM8:=zh (mod_row HM5.out HG2.out #[.string MA,.string LH,.slice none 0 0,.bool true,.bool false,.bool false]);exact bodyPost_ret (v:=.tuple #[.agg #[.string MA,.string LH,.slice none 0 0,.bool true,.bool false,.bool false],.nilIface]) (by simp [results,results65,asAddr,hl9]) rfl (fin hR ⟨HGW.out _,HM8.out⟩)
  ·go_wp2_with (refine wpList_store_row rfl 27 _ _ rfl g2 #[.string ⟨#[]⟩,.string ⟨#[]⟩,.slice none 0 0,.bool false,.bool false,.bool false] rfl rfl 27 _ HRS3.out (by kernel_rfl) (by rfl) (by kernel_rfl) ?_)
   have hg8:=setRow_heap _ g2 _ #[.string ⟨#[]⟩,.string ⟨#[]⟩,.slice none 0 0,.bool false,.bool false,.bool false] _ _ HRS3.out;have hl9:=load_plan hg8;have HM8:=zh (mod_row HM3.out HG2.out #[.string ⟨#[]⟩,.string ⟨#[]⟩,.slice none 0 0,.bool false,.bool false,.bool false]);exact bodyPost_ret (v:=.tuple #[.agg #[.string ⟨#[]⟩,.string ⟨#[]⟩,.slice none 0 0,.bool false,.bool false,.bool false],.iface 36 (.int .i64 60)]) (by simp [results,results65,asAddr,hl9]) rfl (fin hR ⟨HB2.out hnb hver _,HM8.out⟩)
theorem PnsAt.no {w w':World} {v:Value} {l:List Pn} (h:PnsAt w v l) (hm:Mod No w w'):PnsAt w' v l:=by
 obtain ⟨ps,h1,h2,h3⟩:=h;exact ⟨ps,h1,h2.kn hm,fun p hp=>⟨(h3 p hp).1.keep hm,(h3 p hp).2.kn hm⟩⟩
theorem pns_other {w w':World} {v:Value} {l:List Pn} {g:Nat} {cur:Array Value} (h:PnsAt w v l) (hm:Mod (fun q=>q=g) w w') (hg:w.heap[g]? = some (.cells cur 27 (0,0))):PnsAt w' v l:=by
 have hap:∀ (k:Nat) (c:Array Value) (fz:Nat × Nat) (e:TypeId),k=g->w.heap[k]? = some (.cells c e fz)->e=27:=fun k c fz e hk hc=>by
  subst hk;rw [hg] at hc;cases hc
  rfl
 obtain ⟨ps,h1,h2,h3⟩:=h;refine ⟨ps,h1,h2.keep hm (fun k cur fz a _ hc=>absurd (hap k cur fz _ a hc) (by decide)),fun p hp=>?_⟩
 have h4:=(h3 p hp).2.keep hm (fun k cur fz a _ hc=>absurd (hap k cur fz _ a hc) (by decide));exact ⟨⟨(h3 p hp).1.sum,(h3 p hp).1.small,.of h4⟩,h4⟩
theorem plan_kept {w:World} {v:Value} {l:List Pn} {g:Nat} {cur:Array Value} (hg:w.heap[g]? = some (.cells cur 27 (0,0))) (cs:Array Value) (h:PnsAt w v l):PnsAt (w.setRow g cs) v l :=
 pns_other h (Mod.setRow (S:=fun q=>q=g) (Mod.refl _ _) (fun _=>rfl) _) hg
theorem PlanRes.open_ {w:World} {r:Except Int PlanP} {e:Ending} (h:PlanRes w r e):∃ (a b:ByteArray) (c:Option Addr) (c1 c2:Nat) (d1 d2 d3:Bool) (er:Value),e=.returned (.tuple #[.agg #[.string a,.string b,.slice c c1 c2,.bool d1,.bool d2,.bool d3],er]) ∧
  ∀ w',(∀ v l,PnsAt w v l->PnsAt w' v l)->PlanRes w' r (.returned (.tuple #[.agg #[.string a,.string b,.slice c c1 c2,.bool d1,.bool d2,.bool d3],er])):=by
 unfold PlanRes at h;cases r with
 | error c =>
  dsimp only at h;exact ⟨_,_,_,_,_,_,_,_,_,h,fun w' _=>rfl⟩
 | ok p =>
  dsimp only at h;obtain ⟨pv,he,hp,hl⟩:=h;obtain ⟨ps,h1,h2,h3⟩:=hp;obtain ⟨a,c,rfl⟩:=h2.len;exact ⟨_,_,_,_,_,_,_,_,_,he,fun w' hm=>⟨_,rfl,hm _ _ ⟨ps,h1,h2,h3⟩,hl⟩⟩
theorem solved_any (m:Mf) (hg:MfGd m) (mv rv:Value) (xs:List RwX) (nx:Nat->List NdX) (w:World) (hm:MftAt w mv m) (hr:RowsIn w rv xs nx) (herr:ErrTy w) (htab:TabOk w) :
  Calls prog 69 #[mv,rv] w fun e w'=>PlanRes w' (solvedL (xs.map RwX.r) m) e/\Mod No w w':=by
 refine calls_hide fun R hR=>?_
 have h0:0 < w.heap.size:=lt_of_cell herr;have HAT:=zh hm;obtain ⟨pa,pc,na,nc,hve,hpre,hnds⟩:=hm;have HSV:=zh (fun (W:World) (hw:Mod No w W)=>show Calls prog 117 #[rv,.slice na m.needs.length nc,.int .i64 1048576] W fun e w'=>(match solveL (xs.map RwX.r) m.needs (namesR (xs.map RwX.r)) with
   | none=>e=.returned (.tuple #[.slice none 0 0,.int .i64 70])
   | some acc=>∃ v,e=.returned (.tuple #[v,.int .i64 0])/\PnsAt w' v (pinsOf (xs.map RwX.r) acc)/\(pinsOf (xs.map RwX.r) acc).length<=19)/\Mod No W w' from by
  obtain ⟨nn,hn1,hn2,hn3⟩:=nds_good hg (hnds.keep hw (Apart.no _ _));have hr2:=hr.keep hw;obtain ⟨names,hin⟩:=hr2.made hn2;have h1:=solve_any xs nx nn names hin rv (.slice na m.needs.length nc) W (by have:=hw.size;omega) (herr.keep hw (fun f=>f)) (hr2.rows.shrink (fun k hk h=>absurd hk (by omega)))
   (fun i hi=>(hr2.nds i hi).shrink (fun k hk h=>absurd hk (by omega))) (hn3.shrink (fun k hk h=>absurd hk (by omega)))
  refine h1.mono fun e w' ⟨h,hm⟩=>⟨?_,hm⟩
  have h2:=h (namesR (xs.map RwX.r)) (namesR_ok _).1 (namesR_ok _).2;rw [hn1] at h2;exact h2)
 have HMT:=zh (fun (W:World) (hw:Mod No w W)=>mtext_any m mv W (HAT.out.no hw) hg.ok.few hg.ok.small hg.nat (Nat.le_trans (mfText_le hg) (by omega)) (htab.keep hw (fun f=>f)));have HLT:=zh (fun (acc:Pick) (v:Value) (W:World) (hw:Mod No w W) (hp:PnsAt W v (pinsOf (xs.map RwX.r) acc)) (h19:(pinsOf (xs.map RwX.r) acc).length<=19) =>
  show Calls prog 103 #[v] W fun e w'=>e=.returned (strV (lkText (pinsOf (xs.map RwX.r) acc)))/\Mod No W w' from by
   obtain ⟨ps,h1,h2,h3⟩:=hp;have hl:ps.length=(pinsOf (xs.map RwX.r) acc).length:=by rw [<- h1,List.length_map]
   have hpin:∀ x ∈ ps,x.p ∈ pinsOf (xs.map RwX.r) acc:=fun x hx=>by rw [<- h1];exact List.mem_map.2 ⟨x,hx,rfl⟩
   have h4:=ltext_any ps (by omega) v W (by rw [hl];exact h2) (fun x hx=>(h3 x hx).1) (fun x hx=>(hr.pin (hpin x hx)).1) (by
    rw [h1];refine lkText_le (by omega) fun p hp=>⟨(hr.pin hp).2.1,(hr.pin hp).2.2,?_⟩
    rw [<- h1] at hp;obtain ⟨x,hx,rfl⟩:=List.mem_map.1 hp;exact (h3 x hx).1.sum) (htab.keep hw (fun f=>f))
   rw [h1] at h4;exact h4)
 have HRB:=zh (show solveL (xs.map RwX.r) m.needs (namesR (xs.map RwX.r))=none->∀ W,PlanRes W (solvedL (xs.map RwX.r) m) (.returned (.tuple #[planZ,errnoV 70])) from fun h W=>by
  unfold solvedL PlanRes;rw [h])
 have HRG:=zh (show ∀ acc,solveL (xs.map RwX.r) m.needs (namesR (xs.map RwX.r))=some acc->∀ W pv,PnsAt W pv (pinsOf (xs.map RwX.r) acc)->(pinsOf (xs.map RwX.r) acc).length<=19->PlanRes W (solvedL (xs.map RwX.r) m) (.returned (.tuple #[.agg #[strV (mfText m),strV (lkText (pinsOf (xs.map RwX.r) acc)),pv,.bool true,.bool false,.bool false],.nilIface])) from fun acc h W pv hp hl=>by
  unfold solvedL PlanRes;rw [h];exact ⟨pv,rfl,hp,by show (pinsOf (xs.map RwX.r) acc).length<=200;omega⟩)
 obtain ⟨SV,hSV⟩:∃ SV,SV=solveL (xs.map RwX.r) m.needs (namesR (xs.map RwX.r)):=⟨_,rfl⟩
 rw [<- hSV] at HSV HRB HRG;obtain ⟨MT,hMT⟩:∃ MT,MT=mfText m:=⟨_,rfl⟩
 rw [<- hMT] at HMT HRG;clear hMT;have HRB2:=zh (show SV=none->∀ W,PlanRes W (solvedL (xs.map RwX.r) m) (.returned (.tuple #[.agg #[.string ⟨#[]⟩,.string ⟨#[]⟩,.slice none 0 0,.bool false,.bool false,.bool false],.iface 36 (.int .i64 70)])) from HRB.out);rw [hve] at HMT ⊢;clear hg hr herr htab hSV hpre hnds hve HAT HRB h0;unfold mftCs at HMT ⊢;generalize solvedL (xs.map RwX.r) m=RES at *;generalize m.v.pre.length=pn at *;generalize m.needs.length=n at *;generalize m.v.ma=v0 at *;generalize m.v.mi=v1 at *;generalize m.v.pa=v2 at *;generalize xs.map RwX.r=xl at *;unfold strV at *;generalize (⟨m.name.toArray⟩:ByteArray)=N1 at *;generalize (⟨MT.toArray⟩:ByteArray)=MA at *;go_enter func69,ntmps69
 go_upto_region 1 with fail
 obtain ⟨gb,hgb⟩:∃ g,g=w.heap.size:=⟨_,rfl⟩
 rw [<- hgb];generalize hw1:World.alloc _ _=w1;have hgc:w1.heap[gb]? = some (.cells #[.string N1,.int .i64 v0,.int .i64 v1,.int .i64 v2,.slice pa pn pc,.slice na n nc] 46 (0,0)):=by rw [<- hw1,hgb];exact heap_alloc_old _ (heap_alloc_new w _)
 have hrs:w1.heap[gb+1]? = some (.cells #[.string ⟨#[]⟩,.string ⟨#[]⟩,.slice none 0 0,.bool false,.bool false,.bool false] 27 (0,0)):=by
  rw [<- hw1];have h1:=heap_alloc_new (w.alloc (.cells #[.string N1,.int .i64 v0,.int .i64 v1,.int .i64 v2,.slice pa pn pc,.slice na n nc] 46)) (.cells #[.string ⟨#[]⟩,.string ⟨#[]⟩,.slice none 0 0,.bool false,.bool false,.bool false] 27);rw [show (w.alloc (.cells #[.string N1,.int .i64 v0,.int .i64 v1,.int .i64 v2,.slice pa pn pc,.slice na n nc] 46)).heap.size=gb+1 by rw [hgb];exact Array.size_push _] at h1;exact h1
 have hm1:Mod No w w1:=by rw [<- hw1];exact ((Mod.refl No w).alloc _).alloc _
 obtain ⟨g2,hg2⟩:∃ g,g=gb+1:=⟨_,rfl⟩
 rw [<- hg2] at hrs ⊢;have HGC:=zh hgc;have HRS:=zh hrs;have HM1:=zh hm1;have HG2:=zh (show w.heap.size<=g2 by omega);have c5:=cell_ofA hgc (i:=5) (v:=.slice na n nc) rfl;have HSW:=zh (HSV.out w1 hm1);clear hw1 hgc hrs hm1 hg2 hgb HSV;go_wp2_with fail
 with_reducible refine HSW.out.mono ?_
 rintro e w2 ⟨hres,hm2⟩;have HM2:=zh (HM1.out.trans hm2);have HGC2:=zh (hm2.keep HGC.out (fun f=>f));have HRS2:=zh (hm2.keep HRS.out (fun f=>f));clear hm2 HSW c5 HGC HRS;cases SV with
 | none =>
  have he:e=.returned (.tuple #[.slice none 0 0,.int .i64 70]):=hres;subst he;clear hres;go_wp2_with (refine wpList_store_row rfl 27 _ _ rfl g2 #[.string ⟨#[]⟩,.string ⟨#[]⟩,.slice none 0 0,.bool false,.bool false,.bool false] rfl rfl 27 _ HRS2.out (by kernel_rfl) (by rfl) (by kernel_rfl) ?_)
  have hg8:=setRow_heap _ g2 _ #[.string ⟨#[]⟩,.string ⟨#[]⟩,.slice none 0 0,.bool false,.bool false,.bool false] _ _ HRS2.out;have hl9:=load_plan hg8;have HM8:=zh (mod_row HM2.out HG2.out #[.string ⟨#[]⟩,.string ⟨#[]⟩,.slice none 0 0,.bool false,.bool false,.bool false]);exact bodyPost_ret (v:=.tuple #[.agg #[.string ⟨#[]⟩,.string ⟨#[]⟩,.slice none 0 0,.bool false,.bool false,.bool false],.iface 36 (.int .i64 70)]) (by simp [results,results69,asAddr,hl9]) rfl (fin hR ⟨HRB2.out (by first | rfl | trivial) _,HM8.out⟩)
 | some acc =>
  obtain ⟨v,rfl,hps,h19⟩:=(show ∃ v,e=.returned (.tuple #[v,.int .i64 0])/\PnsAt w2 v (pinsOf xl acc)/\(pinsOf xl acc).length<=19 from hres)
  have HPS:=zh hps;have H19:=zh h19;obtain ⟨va,vm,vc,rfl⟩:∃ a m c,v=.slice a m c:=by obtain ⟨ps,-,h2,-⟩:=hps;obtain ⟨a,c,e⟩:=h2.len;exact ⟨a,_,c,e⟩
  have HRGW:=zh (HRG.out acc rfl);have HLW:=zh (HLT.out acc (.slice va vm vc));have HMW:=zh (HMT.out w2 HM2.out);have HRG2:=zh (show w2.rangeAt gb 0 [.string N1,.int .i64 v0,.int .i64 v1,.int .i64 v2,.slice pa pn pc,.slice na n nc] from fun u x hx=>by rw [Nat.zero_add];exact cell_ofA HGC2.out (by rw [List.getElem?_toArray];exact hx));clear hres hps h19 HRG HLT HMT HRB2 HGC2;generalize pinsOf xl acc=pl at *;generalize (⟨(lkText pl).toArray⟩:ByteArray)=LA at *;go_wp2_with (refine wpList_load_mid rfl 46 _ rfl gb 0 rfl [.string N1,.int .i64 v0,.int .i64 v1,.int .i64 v2,.slice pa pn pc,.slice na n nc] _ HRG2.out underlying46 rfl (by kernel_rfl) ?_)
  with_reducible refine HMW.out.mono ?_
  rintro e w3 ⟨rfl,hm3⟩;have HM3:=zh (HM2.out.trans hm3);have HPS3:=zh (HPS.out.no hm3);have HRS3:=zh (hm3.keep HRS2.out (fun f=>f));have HLW3:=zh (HLW.out w3 HM3.out HPS3.out H19.out);clear hm3 HMW HLW;go_wp2_with fail
  with_reducible refine HLW3.out.mono ?_
  rintro e w4 ⟨rfl,hm4⟩;have HM4:=zh (HM3.out.trans hm4);have HPS4:=zh (HPS3.out.no hm4);have HRS4:=zh (hm4.keep HRS3.out (fun f=>f));clear hm4 HLW3;go_wp2_with (refine wpList_store_row rfl 27 _ _ rfl g2 #[.string MA,.string LA,.slice va vm vc,.bool true,.bool false,.bool false] rfl rfl 27 _ HRS4.out (by kernel_rfl) (by rfl) (by kernel_rfl) ?_)
  have hg8:=setRow_heap _ g2 _ #[.string MA,.string LA,.slice va vm vc,.bool true,.bool false,.bool false] _ _ HRS4.out;have hl9:=load_plan hg8;have HM8:=zh (mod_row HM4.out HG2.out #[.string MA,.string LA,.slice va vm vc,.bool true,.bool false,.bool false]);have HPS8:=zh (plan_kept HRS4.out #[.string MA,.string LA,.slice va vm vc,.bool true,.bool false,.bool false] HPS4.out);exact bodyPost_ret (v:=.tuple #[.agg #[.string MA,.string LA,.slice va vm vc,.bool true,.bool false,.bool false],.nilIface]) (by simp [results,results69,asAddr,hl9]) rfl (fin hR ⟨HRGW.out _ _ HPS8.out H19.out,HM8.out⟩)
def PaddRes (w':World) (m:Mf) (name text:List UInt8) (e:Ending):Prop:=match addL m name text with
 | .error c=>∃ v m',e=.returned (.tuple #[v,errnoV c])/\MftAt w' v m'
 | .ok m'=>∃ v,e=.returned (.tuple #[v,.nilIface])/\MftAt w' v m'
theorem mft_cells {w:World} {v:Value} {m:Mf} (h:MftAt w v m):∃ (a:ByteArray) (x y z:Int) (p:Option Addr) (pn pc:Nat) (q:Option Addr) (qn qc:Nat),v=.agg #[.string a,.int .i64 x,.int .i64 y,.int .i64 z,.slice p pn pc,.slice q qn qc]:=by
 obtain ⟨pa,pc,na,nc,h1,-⟩:=h;exact ⟨_,_,_,_,_,_,_,_,_,_,h1⟩
theorem mft_zero (w:World):MftAt w (.agg mftZ) mf0:=⟨none,0,none,0,rfl,.inl ⟨rfl,rfl,rfl⟩,[],rfl,fun _ h=>(by cases h),.inl ⟨rfl,rfl,rfl⟩⟩
theorem MftAt.row {w:World} {v:Value} {m:Mf} {g:Nat} {cur cs:Array Value} (h:MftAt w v m) (hg:w.heap[g]? = some (.cells cur 46 (0,0))):MftAt (w.setRow g cs) v m:=by
 have hm:Mod (fun q=>q=g) w (w.setRow g cs):=Mod.setRow (S:=fun q=>q=g) (Mod.refl _ _) (fun _=>rfl) _;have hap:∀ (k:Nat) (c:Array Value) (fz:Nat × Nat) (e:TypeId),k=g->w.heap[k]? = some (.cells c e fz)->e=46:=fun k c fz e hk hc=>by
  subst hk;rw [hg] at hc;cases hc
  rfl
 obtain ⟨pa,pc,na,nc,h1,h2,h3⟩:=h;refine ⟨pa,pc,na,nc,h1,h2.keep hm (fun k cur fz a _ hc=>absurd (hap k cur fz _ a hc) (by decide)),h3.keep hm (fun k c fz e hk hc he=>?_)⟩
 have h4:=hap k c fz e hk hc;subst h4;revert he;decide
theorem mlines_two:∀ (l:List (List UInt8)) (n k:Nat) (m m':Mf),n+l.length<=2->mlines n m l=some (k,m')->m'.needs=m.needs
 | [],n,k,m,m',_,h=>by cases h;rfl
 | s :: l,n,k,m,m',hn,h=>by
  rw [List.length_cons] at hn;rw [mlines] at h;split at h
  ·exact mlines_two l n k m m' (by omega) h
  ·cases hs:mstep n m s with
   | none=>rw [hs] at h;cases h
   | some m2 =>
    rw [hs] at h;rw [mlines_two l (n+1) k m2 m' (by omega) h];unfold mstep at hs;split at hs
    ·split at hs
     ·cases hs;rfl
     ·cases hs
    ·rw [if_pos (by omega)] at hs;split at hs
     ·obtain ⟨v,-,rfl⟩:=Option.map_eq_some_iff.1 hs;rfl
     ·cases hs
theorem mfOf_two {s:List UInt8} {m:Mf} (h2:(linesL s).length<=2) (h:mfOf s=some m):m.needs=[]:=by
 unfold mfOf at h;split at h
 ·cases h
 ·cases hm:mlines 0 mf0 (linesL s) with
  | none=>rw [hm] at h;cases h
  | some km =>
   obtain ⟨k,m2⟩:=km;rw [hm] at h;dsimp only at h;split at h
   ·cases h
   ·cases h
    have h3:=mlines_two (linesL s) 0 k mf0 m2 (by omega) hm;dsimp only;rw [h3];rfl
theorem padd_lean (m:Mf) (h00:m.needs=[]) (mv:Value) (kd:Int) (name text:List UInt8) (hn:name.length<=400000) (ht:text.length<=400000) (w:World) (hm:MftAt w mv m) (hgl:Gl w) :
  Calls prog 68 #[mv,.agg #[.int .i64 kd,strV name,strV text]] w fun e w'=>PaddRes w' m name text e/\Mod No w w':=by
 refine calls_hide fun R hR=>?_
 have HAT:=zh hm;have HSP:=zh (fun (W:World) (hw:Mod No w W)=>span_any text (by omega) W (hgl.stay hw (fun f=>f)));have HADD:=zh (fun (s:Spn) (oa:Option Addr) (om oc:Nat) (W:World) (hw:Mod No w W) (ho:OrsAt W (.slice oa om oc) s.ors)=>show Calls prog 116 #[mv,.agg #[strV name,.bool s.any,.slice oa om oc,strV text]] W fun e w'=>AddRes w' m ⟨name,s,text⟩ e/\Mod No W w' from
  madd_lean m mv ⟨⟨name,s,text⟩,oa,om,oc⟩ W (HAT.out.no hw) ho h00 (by show name.length<=_;omega))
 have HB1:=zh (show spanL text=none->∀ W v m',MftAt W v m'->PaddRes W m name text (.returned (.tuple #[v,errnoV 61])) from fun h W v m' hv=>by
  unfold PaddRes addL;rw [h];exact ⟨v,m',rfl,hv⟩)
 have HB2:=zh (show ∀ s,spanL text=some s->addM m ⟨name,s,text⟩=none->∀ W v m',MftAt W v m'->PaddRes W m name text (.returned (.tuple #[v,errnoV 62])) from fun s h h2 W v m' hv=>by
  unfold PaddRes addL;rw [h];dsimp only;rw [h2];exact ⟨v,m',rfl,hv⟩)
 have HGD:=zh (show ∀ s m',spanL text=some s->addM m ⟨name,s,text⟩=some m'->∀ W v,MftAt W v m'->PaddRes W m name text (.returned (.tuple #[v,.nilIface])) from fun s m' h h2 W v hv=>by
  unfold PaddRes addL;rw [h];dsimp only;rw [h2];exact ⟨v,rfl,hv⟩)
 obtain ⟨N1,v0,v1,v2,pa,pn,pc,na,n,nc,rfl⟩:=mft_cells hm;clear hm h00 hgl hn ht;unfold errnoV at HB1 HB2;unfold strV at *;generalize (⟨name.toArray⟩:ByteArray)=N2 at *;generalize (⟨text.toArray⟩:ByteArray)=T2 at *;go_enter func68,ntmps68
 go_upto_region 1 with fail
 obtain ⟨gb,hgb⟩:∃ g,g=w.heap.size:=⟨_,rfl⟩
 rw [<- hgb];generalize hw1:World.alloc _ _=w1;have hs:∀ (W:World) (o:Obj) (k:Nat),W.heap.size=k->(W.alloc o).heap.size=k+1:=fun W o k h=>by rw [<- h];exact Array.size_push _
 have hgm:w1.heap[gb]? = some (.cells #[.string N1,.int .i64 v0,.int .i64 v1,.int .i64 v2,.slice pa pn pc,.slice na n nc] 46 (0,0)):=by rw [<- hw1,hgb];exact heap_alloc_old _ (heap_alloc_old _ (heap_alloc_new w _))
 have hgc:w1.heap[gb+1]? = some (.cells #[.int .i64 kd,.string N2,.string T2] 24 (0,0)):=by
  rw [<- hw1];refine heap_alloc_old _ ?_;have h1:=heap_alloc_new (w.alloc (.cells #[.string N1,.int .i64 v0,.int .i64 v1,.int .i64 v2,.slice pa pn pc,.slice na n nc] 46)) (.cells #[.int .i64 kd,.string N2,.string T2] 24);rw [hs _ _ gb hgb.symm] at h1;exact h1
 have hrs:w1.heap[gb+2]? = some (.cells mftZ 46 (0,0)):=by
  rw [<- hw1];have h2:=heap_alloc_new ((w.alloc (.cells #[.string N1,.int .i64 v0,.int .i64 v1,.int .i64 v2,.slice pa pn pc,.slice na n nc] 46)).alloc (.cells #[.int .i64 kd,.string N2,.string T2] 24)) (.cells #[.string ⟨#[]⟩,.int .i64 0,.int .i64 0,.int .i64 0,.slice none 0 0,.slice none 0 0] 46);rw [hs _ _ (gb+1) (hs _ _ gb hgb.symm)] at h2;exact h2
 have hm1:Mod No w w1:=by rw [<- hw1];exact (((Mod.refl No w).alloc _).alloc _).alloc _
 obtain ⟨g2,hg2⟩:∃ g,g=gb+1:=⟨_,rfl⟩
 obtain ⟨g3,hg3⟩:∃ g,g=g2+1:=⟨_,rfl⟩
 rw [<- hg2] at hgc;rw [show gb+2=g3 by omega] at hrs;rw [<- hg2,<- hg3];have HGM:=zh hgm;have HGC:=zh hgc;have HRS:=zh hrs;have HM1:=zh hm1;have HAT1:=zh (HAT.out.no hm1);have HNB:=zh (show gb ≠ g3/\w.heap.size<=gb/\w.heap.size<=g3 from ⟨by omega,by omega,by omega⟩);have c2:=cell_ofA hgc (i:=2) (v:=.string T2) rfl;have HSW:=zh (HSP.out w1 hm1);clear hw1 hgm hgc hrs hm1 hg2 hg3 hgb hs HSP;go_wp2_with fail
 with_reducible refine HSW.out.mono ?_
 rintro e w2 ⟨hres,hm2⟩;have HM2:=zh (HM1.out.trans hm2);have HGM2:=zh (hm2.keep HGM.out (fun f=>f));have HGC2:=zh (hm2.keep HGC.out (fun f=>f));have HRS2:=zh (hm2.keep HRS.out (fun f=>f));have HAT2:=zh (HAT1.out.no hm2);clear hm2 HSW c2 HGM HGC HRS HAT HAT1;rcases hres with ⟨hsp,rfl⟩ | ⟨s,ov,hsp,rfl,hors⟩
 ·have HBW:=zh (HB1.out hsp);clear HB1 HB2 HGD HADD hsp;go_upto_region 2 with fail
  generalize hw3:World.alloc _ _=w3;have hm3:Mod No w2 w3:=by rw [<- hw3];exact (Mod.refl No w2).alloc _
  have HM3:=zh (HM2.out.trans hm3);have HRS3:=zh (hm3.keep HRS2.out (fun f=>f));have HAT3:=zh (HAT2.out.no hm3);have HRG:=zh (show w3.rangeAt gb 0 [.string N1,.int .i64 v0,.int .i64 v1,.int .i64 v2,.slice pa pn pc,.slice na n nc] from fun u x hx=>by rw [Nat.zero_add];exact cell_ofA (hm3.keep HGM2.out (fun f=>f)) (by rw [List.getElem?_toArray];exact hx));clear hw3 hm3 HGM2 HGC2 HRS2 HAT2;go_wp2_with (first | (refine wpList_load_mid rfl 46 _ rfl gb 0 rfl [.string N1,.int .i64 v0,.int .i64 v1,.int .i64 v2,.slice pa pn pc,.slice na n nc] _ HRG.out underlying46 rfl (by kernel_rfl) ?_) | (refine wpList_store_row rfl 46 _ _ rfl g3 #[.string N1,.int .i64 v0,.int .i64 v1,.int .i64 v2,.slice pa pn pc,.slice na n nc] rfl rfl 46 _ HRS3.out (by kernel_rfl) (by rfl) (by kernel_rfl) ?_))
  have hg8:=setRow_heap _ g3 _ #[.string N1,.int .i64 v0,.int .i64 v1,.int .i64 v2,.slice pa pn pc,.slice na n nc] _ _ HRS3.out;have hl9:=load_mft hg8;have HM8:=zh (mod_row HM3.out HNB.out.2.2 #[.string N1,.int .i64 v0,.int .i64 v1,.int .i64 v2,.slice pa pn pc,.slice na n nc]);exact bodyPost_ret (v:=.tuple #[.agg #[.string N1,.int .i64 v0,.int .i64 v1,.int .i64 v2,.slice pa pn pc,.slice na n nc],.iface 36 (.int .i64 61)]) (by simp [results,results68,asAddr,hl9]) rfl (fin hR ⟨HBW.out _ _ _ (HAT3.out.row HRS3.out),HM8.out⟩)
 ·obtain ⟨oa,om,oc,rfl⟩:∃ a m c,ov=.slice a m c:=by obtain ⟨xs,-,-,h⟩:=hors;obtain ⟨a,c,e⟩:=h.len;exact ⟨a,_,c,e⟩
  have HBW:=zh (HB2.out s hsp);have HGW:=zh (HGD.out s);have HSPN:=zh hsp;have HORS:=zh hors;have HAW:=zh (HADD.out s oa om oc);clear HB1 HB2 HGD HADD hsp hors;generalize hba:s.any=ba at *;clear hba;go_upto_region 2 with fail
  obtain ⟨gs,hgs⟩:∃ g,g=w2.heap.size:=⟨_,rfl⟩
  rw [<- hgs];generalize hw3:World.alloc _ _=w3;have hm3:Mod No w2 w3:=by rw [<- hw3];exact (Mod.refl No w2).alloc _
  have hgs3:w3.heap[gs]? = some (.cells #[.bool ba,.slice oa om oc] 96 (0,0)):=by rw [<- hw3,hgs];exact heap_alloc_new w2 _
  have HM3:=zh (HM2.out.trans hm3);have HRS3:=zh (hm3.keep HRS2.out (fun f=>f));have HGM3:=zh (hm3.keep HGM2.out (fun f=>f));have HRG:=zh (show w3.rangeAt gb 0 [.string N1,.int .i64 v0,.int .i64 v1,.int .i64 v2,.slice pa pn pc,.slice na n nc] from fun u x hx=>by rw [Nat.zero_add];exact cell_ofA HGM3.out (by rw [List.getElem?_toArray];exact hx));have HSG:=zh (show w3.rangeAt gs 0 [.bool ba,.slice oa om oc] from fun u x hx=>by rw [Nat.zero_add];exact cell_ofA hgs3 (by rw [List.getElem?_toArray];exact hx));have c1:=cell_ofA (hm3.keep HGC2.out (fun f=>f)) (i:=1) (v:=.string N2) rfl;have c2:=cell_ofA (hm3.keep HGC2.out (fun f=>f)) (i:=2) (v:=.string T2) rfl;have HAW3:=zh (HAW.out w3 HM3.out (HORS.out.keep hm3 (Apart.no _ _)));clear hw3 hm3 hgs3 hgs HGM2 HGC2 HRS2 HAT2 HAW HORS;go_wp2_with (first | (refine wpList_load_mid rfl 46 _ rfl gb 0 rfl [.string N1,.int .i64 v0,.int .i64 v1,.int .i64 v2,.slice pa pn pc,.slice na n nc] _ HRG.out underlying46 rfl (by kernel_rfl) ?_) | (refine wpList_load_mid rfl 96 _ rfl gs 0 rfl [.bool ba,.slice oa om oc] _ HSG.out underlying96 rfl (by kernel_rfl) ?_))
  with_reducible refine HAW3.out.mono ?_
  rintro e w4 ⟨hres,hm4⟩;have HM4:=zh (HM3.out.trans hm4);have HGM4:=zh (hm4.keep HGM3.out (fun f=>f));have HRS4:=zh (hm4.keep HRS3.out (fun f=>f));clear hm4 HAW3 HRG HSG c1 c2 HGM3 HRS3;unfold AddRes at hres;cases hadd:addM m ⟨name,s,text⟩ with
  | none =>
   rw [hadd] at hres;have he:e=.returned (.tuple #[.agg mftZ,.int .i64 62]):=hres;subst he;have HBV:=zh (HBW.out hadd);clear hres HBW HGW hadd;unfold mftZ at *;go_upto_region 5 with (refine wpList_store_row rfl 46 _ _ rfl gb #[.string ⟨#[]⟩,.int .i64 0,.int .i64 0,.int .i64 0,.slice none 0 0,.slice none 0 0] rfl rfl 46 _ HGM4.out (by kernel_rfl) (by rfl) (by kernel_rfl) ?_)
   generalize hw5:World.setRow _ gb _=w5;have hg5:w5.heap[gb]? = some (.cells #[.string ⟨#[]⟩,.int .i64 0,.int .i64 0,.int .i64 0,.slice none 0 0,.slice none 0 0] 46 (0,0)):=by rw [<- hw5];exact setRow_heap _ _ _ _ _ _ HGM4.out
   have HM5:=zh (show Mod No w w5 by rw [<- hw5];exact mod_row HM4.out HNB.out.2.1 _);have HRS5:=zh (show w5.heap[g3]? = some (.cells #[.string ⟨#[]⟩,.int .i64 0,.int .i64 0,.int .i64 0,.slice none 0 0,.slice none 0 0] 46 (0,0)) from by
    have hm:Mod (fun q=>q=gb) w4 w5:=by rw [<- hw5];exact Mod.setRow (S:=fun q=>q=gb) (Mod.refl _ _) (fun _=>rfl) _
    exact hm.keep HRS4.out (fun e=>HNB.out.1 e.symm))
   have HRG:=zh (show w5.rangeAt gb 0 [.string ⟨#[]⟩,.int .i64 0,.int .i64 0,.int .i64 0,.slice none 0 0,.slice none 0 0] from fun u x hx=>by rw [Nat.zero_add];exact cell_ofA hg5 (by rw [List.getElem?_toArray];exact hx));clear hw5 hg5 HGM4 HRS4;go_wp2_with (first | (refine wpList_load_mid rfl 46 _ rfl gb 0 rfl [.string ⟨#[]⟩,.int .i64 0,.int .i64 0,.int .i64 0,.slice none 0 0,.slice none 0 0] _ HRG.out underlying46 rfl (by kernel_rfl) ?_) | (refine wpList_store_row rfl 46 _ _ rfl g3 #[.string ⟨#[]⟩,.int .i64 0,.int .i64 0,.int .i64 0,.slice none 0 0,.slice none 0 0] rfl rfl 46 _ HRS5.out (by kernel_rfl) (by rfl) (by kernel_rfl) ?_))
   have hg8:=setRow_heap _ g3 _ #[.string ⟨#[]⟩,.int .i64 0,.int .i64 0,.int .i64 0,.slice none 0 0,.slice none 0 0] _ _ HRS5.out;have hl9:=load_mft hg8;have HM8:=zh (mod_row HM5.out HNB.out.2.2 #[.string ⟨#[]⟩,.int .i64 0,.int .i64 0,.int .i64 0,.slice none 0 0,.slice none 0 0]);exact bodyPost_ret (v:=.tuple #[.agg #[.string ⟨#[]⟩,.int .i64 0,.int .i64 0,.int .i64 0,.slice none 0 0,.slice none 0 0],.iface 36 (.int .i64 62)]) (by simp [results,results68,asAddr,hl9]) rfl (fin hR ⟨HBV.out _ _ mf0 (mft_zero _),HM8.out⟩)
  | some m' =>
   rw [hadd] at hres;obtain ⟨v',rfl,hat⟩:=(show ∃ v',e=.returned (.tuple #[v',.int .i64 0])/\MftAt w4 v' m' from hres)
   have HGV:=zh (HGW.out m' HSPN.out hadd);have HA4:=zh hat;obtain ⟨N3,u0,u1,u2,qa,qn,qc,ra,rn,rc,rfl⟩:=mft_cells hat;clear hres hat HBW HGW hadd;go_upto_region 5 with (refine wpList_store_row rfl 46 _ _ rfl gb #[.string N3,.int .i64 u0,.int .i64 u1,.int .i64 u2,.slice qa qn qc,.slice ra rn rc] rfl rfl 46 _ HGM4.out (by kernel_rfl) (by rfl) (by kernel_rfl) ?_)
   generalize hw5:World.setRow _ gb _=w5;have hg5:w5.heap[gb]? = some (.cells #[.string N3,.int .i64 u0,.int .i64 u1,.int .i64 u2,.slice qa qn qc,.slice ra rn rc] 46 (0,0)):=by rw [<- hw5];exact setRow_heap _ _ _ _ _ _ HGM4.out
   have HM5:=zh (show Mod No w w5 by rw [<- hw5];exact mod_row HM4.out HNB.out.2.1 _);have HA5:=zh (show MftAt w5 (.agg #[.string N3,.int .i64 u0,.int .i64 u1,.int .i64 u2,.slice qa qn qc,.slice ra rn rc]) m' by rw [<- hw5];exact HA4.out.row HGM4.out);have HRS5:=zh (show w5.heap[g3]? = some (.cells mftZ 46 (0,0)) from by
    have hm:Mod (fun q=>q=gb) w4 w5:=by rw [<- hw5];exact Mod.setRow (S:=fun q=>q=gb) (Mod.refl _ _) (fun _=>rfl) _
    exact hm.keep HRS4.out (fun e=>HNB.out.1 e.symm))
   have HRG:=zh (show w5.rangeAt gb 0 [.string N3,.int .i64 u0,.int .i64 u1,.int .i64 u2,.slice qa qn qc,.slice ra rn rc] from fun u x hx=>by rw [Nat.zero_add];exact cell_ofA hg5 (by rw [List.getElem?_toArray];exact hx));clear hw5 hg5 HGM4 HRS4 HA4;go_wp2_with (first | (refine wpList_load_mid rfl 46 _ rfl gb 0 rfl [.string N3,.int .i64 u0,.int .i64 u1,.int .i64 u2,.slice qa qn qc,.slice ra rn rc] _ HRG.out underlying46 rfl (by kernel_rfl) ?_) | (refine wpList_store_row rfl 46 _ _ rfl g3 #[.string N3,.int .i64 u0,.int .i64 u1,.int .i64 u2,.slice qa qn qc,.slice ra rn rc] rfl rfl 46 _ HRS5.out (by kernel_rfl) (by rfl) (by kernel_rfl) ?_))
   have hg8:=setRow_heap _ g3 _ #[.string N3,.int .i64 u0,.int .i64 u1,.int .i64 u2,.slice qa qn qc,.slice ra rn rc] _ _ HRS5.out;have hl9:=load_mft hg8;have HM8:=zh (mod_row HM5.out HNB.out.2.2 #[.string N3,.int .i64 u0,.int .i64 u1,.int .i64 u2,.slice qa qn qc,.slice ra rn rc]);exact bodyPost_ret (v:=.tuple #[.agg #[.string N3,.int .i64 u0,.int .i64 u1,.int .i64 u2,.slice qa qn qc,.slice ra rn rc],.nilIface]) (by simp [results,results68,asAddr,hl9]) rfl (fin hR ⟨HGV.out _ _ (HA5.out.row HRS5.out),HM8.out⟩)
end Go.Proofs.YticfcmdjplmaeaaGreatDoor
