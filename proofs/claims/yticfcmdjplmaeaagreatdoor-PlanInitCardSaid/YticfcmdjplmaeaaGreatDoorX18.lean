/-
  Layers 0 to 14: helps of the laws of indexes. No statement is proved here; no condition.
-/
import Derived.Test.YticfcmdjplmaeaaGreatDoorX02
import Derived.Test.YticfcmdjplmaeaaGreatDoorX13
import Derived.Test.YticfcmdjplmaeaaGreatDoorX03
import Derived.Test.YticfcmdjplmaeaaGreatDoorX01
import Derived.Test.YticfcmdjplmaeaaGreatDoorX07
import Derived.Test.YticfcmdjplmaeaaGreatDoorX16
import Derived.Test.YticfcmdjplmaeaaGreatDoorX00
import Derived.Test.YticfcmdjplmaeaaGreatDoorX14
import Derived.Test.YticfcmdjplmaeaaGreatDoorX06
import Derived.Test.YticfcmdjplmaeaaGreatDoorX04
import Derived.Sort.OwnSorted
import Derived.Great.CaseRows
import Derived.Maps.AppendAt
import Derived.Laws.OwnMore
set_option maxRecDepth 100000
set_option maxHeartbeats 64000000
namespace Go.Proofs.YticfcmdjplmaeaaGreatDoor
open _root_.Go.Proofs.Tryz
open Go.RowKit
def MlRes (w':World) (B mb n:Nat) (m:Mf) (s:List UInt8) (e:Ending):Prop:=∃ ok:Bool,e=.returned (.bool ok) ∧
 (if ok then ∃ m' pv nv ys,mstep n m s=some m'/\MfW w' B mb m' pv nv ys else mstep n m s=none)
theorem mstep0 (m:Mf) (s:List UInt8):mstep 0 m s=if s.take 5=nameW/\nameB (s.drop 5)=true then some { m with name:=s.drop 5 } else none:=rfl
theorem mstep1 (m:Mf) (s:List UInt8):mstep 1 m s=if s.take 8=versionW then (verOf (s.drop 8)).map fun v=>{ m with v:=v } else none:=rfl
theorem cutp (s p:List UInt8) (w:World):Calls prog 165 #[strV s,strV p] w fun e w'=>e=.returned (.tuple #[strV (Lib.trimPrefix s p),.bool (decide (s.take p.length=p))])/\w'=w :=
 (Tryz.strings_CutPrefix ⟨s.toArray⟩ ⟨p.toArray⟩ w).mono fun e w' ⟨he,hw⟩=>⟨he.trans (by rw [<- prefix_iff]),hw⟩
theorem trimp {s p:List UInt8} (h:s.take p.length=p):Lib.trimPrefix s p=s.drop p.length:=by
 unfold Lib.trimPrefix;rw [if_pos (by rw [prefix_iff];exact decide_eq_true h)]
theorem trimp_le (s p:List UInt8):(Lib.trimPrefix s p).length<=s.length:=by
 unfold Lib.trimPrefix;split
 ·rw [List.length_drop];omega
 ·omega
theorem mline_name (B mb:Nat) (hmb:mb < B) (m:Mf) (pv nv:Value) (ys:List NdX) (s:List UInt8) (hl:s.length<=100000) (w:World) (hw:MfW w B mb m pv nv ys) :
  Calls prog 106 #[.pointer (some ⟨mb,0,none⟩),.int .i64 0,strV s] w fun e w'=>MlRes w' B mb 0 m s e/\Mod (fun k=>k=mb\/B<=k) w w':=by
 refine calls_hide fun R hR=>?_
 have HCP:=zh (cutp s nameW);have HT:=zh (show decide (s.take nameW.length=nameW)=true->Lib.trimPrefix s nameW=s.drop 5 from fun h=>trimp (of_decide_eq_true h));have hle:=trimp_le s nameW;have HW:=zh hw;have HST:=zh (mstep0 m s);have HD:=zh (show decide (s.take nameW.length=nameW)=decide (s.take 5=nameW) from rfl);generalize Lib.trimPrefix s nameW=r at *;have HNM:=zh (name_any r (by omega));have c0:=cell_ofA hw.cells (i:=0) rfl;have f0:=frozen_of 0 hw.cells;have HW1:=zh (show MfW (w.setCell ⟨mb,0,none⟩ (strV r)) B mb { m with name:=r } pv nv ys from
  hw.stored hmb (Mod.cell1 _ _ _ _) rfl (by rw [heap_setCell hw.cells (strV r)];rfl) (hw.pre.apart (Mod.cell1 _ _ _ _) (fun k cur fz e hk hc2 he=>by
   have hk2:k=mb:=hk;subst hk2;rw [hw.cells] at hc2;cases hc2
   simp at he)))
 have HM1:=zh (show Mod (fun k=>k=mb\/B<=k) w (w.setCell ⟨mb,0,none⟩ (strV r)) from (Mod.cell1 w mb 0 (strV r)).weaken (fun _ _ e=>.inl e));generalize decide (s.take nameW.length=nameW)=ok at *;generalize hnb:nameB r=nb at *;have HNB:=zh hnb;clear hw hnb hle hl;unfold strV at *;unfold nameW at HCP;generalize (⟨r.toArray⟩:ByteArray)=RR at *;generalize (⟨s.toArray⟩:ByteArray)=Z at *;go_enter func106,ntmps106
 go_wp2_with fail
 with_reducible refine (HCP.out _).mono ?_
 rintro e wB ⟨rfl,rfl⟩;rcases ok with _ | _
 ·have HE:=zh (show mstep 0 m s=none by rw [HST.out,if_neg];rintro ⟨h,-⟩;have:=HD.out;rw [decide_eq_true h] at this;cases this);go_wp2_with fail
  exact fin hR ⟨⟨false,rfl,HE.out⟩,HM1.out⟩
 ·have HR:=zh (HT.out rfl);have h5:s.take 5=nameW:=of_decide_eq_true HD.out.symm;rcases nb with _ | _
  ·have HE:=zh (show mstep 0 m s=none by rw [HST.out,if_neg];rintro ⟨-,h⟩;rw [<- HR.out,HNB.out] at h;cases h);clear h5;go_wp2_with fail
   with_reducible refine (HNM.out _).mono ?_
   rintro e wC ⟨rfl,rfl⟩;go_wp2_with fail
   exact fin hR ⟨⟨false,rfl,HE.out⟩,HM1.out⟩
  ·have HE:=zh (show mstep 0 m s=some { m with name:=r } by rw [HST.out,if_pos ⟨h5,by rw [<- HR.out,HNB.out]⟩,HR.out]);clear h5;go_wp2_with fail
   with_reducible refine (HNM.out _).mono ?_
   rintro e wC ⟨rfl,rfl⟩;go_wp2_with fail
   exact fin hR ⟨⟨true,rfl,_,_,_,_,HE.out,HW1.out⟩,HM1.out⟩
theorem mline_ver (B mb:Nat) (hmb:mb < B) (m:Mf) (pv nv:Value) (ys:List NdX) (s:List UInt8) (hl:s.length<=100000) (w:World) (hgl:Gl w) (hBw:B<=w.heap.size) (hw:MfW w B mb m pv nv ys) :
  Calls prog 106 #[.pointer (some ⟨mb,0,none⟩),.int .i64 1,strV s] w fun e w'=>MlRes w' B mb 1 m s e/\Mod (fun k=>k=mb\/B<=k) w w':=by
 refine calls_hide fun R hR=>?_
 have HCP:=zh (cutp s versionW);have HT:=zh (show decide (s.take versionW.length=versionW)=true->Lib.trimPrefix s versionW=s.drop 8 from fun h=>trimp (of_decide_eq_true h));have hle:=trimp_le s versionW;have HW:=zh hw;have HST:=zh (mstep1 m s);have HD:=zh (show decide (s.take versionW.length=versionW)=decide (s.take 8=versionW) from rfl);generalize Lib.trimPrefix s versionW=r at *;have HVP:=zh (verparse_u r (by omega) w hgl);generalize decide (s.take versionW.length=versionW)=ok at *;clear hw hle hl hgl;have HBW:=zh hBw;unfold strV at *;unfold versionW at HCP;generalize (⟨r.toArray⟩:ByteArray)=RR at *;generalize (⟨s.toArray⟩:ByteArray)=Z at *;go_enter func106,ntmps106
 go_wp2_with fail
 with_reducible refine (HCP.out _).mono ?_
 rintro e wB ⟨rfl,rfl⟩;go_wp2_with fail
 with_reducible refine HVP.out.mono ?_
 rintro e w2 ⟨⟨v,vpv,c,rfl,hsm,hsl,hcv⟩,hm2⟩;have HW2:=zh (HW.out.no hm2);have HSL:=zh (show Sl w2 No 9 vpv v.pre.length (strs v.pre) from hsl.shrink (fun _ _ f=>f.elim));obtain ⟨va,vc,hvv⟩:=hsl.len;subst hvv;have HCV:=zh hcv;have HM2:=zh hm2;clear hsm hsl hcv hm2 HVP HCP;go_upto_region 9 with fail
 obtain ⟨gv,hgv⟩:∃ g,g=w2.heap.size:=⟨_,rfl⟩
 rw [<- hgv];generalize hw3:World.alloc w2 _=w3;have hv3:w3.heap[gv]? = some (.cells #[.int .i64 v.ma,.int .i64 v.mi,.int .i64 v.pa,.slice va v.pre.length vc] 40 (0,0)):=by rw [<- hw3,hgv];exact heap_alloc_new w2 _
 have hm3:Mod No w2 w3:=by rw [<- hw3];exact (Mod.refl No w2).alloc _
 have HW3:=zh (HW2.out.no hm3);have HS3:=zh (show Sl w3 No 9 (.slice va v.pre.length vc) v.pre.length (strs v.pre) from HSL.out.kn hm3);have HM3:=zh (HM2.out.trans hm3);have hgb:mb ≠ gv:=by have:=HBW.out;have:=HM2.out.size;omega
 have HGB:=zh hgb;clear hw3 hm3 HW2 HSL HM2 hgv hgb;have v0:=cell_ofA hv3 (i:=0) rfl;have v1:=cell_ofA hv3 (i:=1) rfl;have v2:=cell_ofA hv3 (i:=2) rfl;have v3:=cell_ofA hv3 (i:=3) rfl;have f1:=frozen_of 1 HW3.out.cells;have f2:=frozen_of 2 HW3.out.cells;have f3:=frozen_of 3 HW3.out.cells;have f4:=frozen_of 4 HW3.out.cells;have e1:=cell_ofA HW3.out.cells (i:=1) rfl;have e2:=cell_ofA HW3.out.cells (i:=2) rfl;have e3:=cell_ofA HW3.out.cells (i:=3) rfl;have e4:=cell_ofA HW3.out.cells (i:=4) rfl;clear hv3;go_upto_region 10 with fail
 generalize hw4:World.setCell (World.setCell (World.setCell (World.setCell w3 _ _) _ _) _ _) _ _=w4;have hm4:Mod (fun k=>k=mb) w3 w4:=by
  rw [<- hw4];exact ((((Mod.refl (fun k=>k=mb) w3).setCell (fun _=>rfl) _).setCell (fun _=>rfl) _).setCell (fun _=>rfl) _).setCell (fun _=>rfl) _
 have HW4:=zh (show MfW w4 B mb { m with v:=v } (.slice va v.pre.length vc) nv ys from
  HW3.out.stored hmb hm4 rfl (by rw [<- hw4,heap_setCell (heap_setCell (heap_setCell (heap_setCell HW3.out.cells _) _) _) _];rfl) (HS3.out.apart hm4 (fun k cur fz e hk hc2 he=>by
   have hk2:k=mb:=hk;subst hk2;rw [HW3.out.cells] at hc2;cases hc2
   simp at he)))
 have HM4:=zh ((HM3.out.no (S:=fun k=>k=mb\/B<=k)).trans (hm4.weaken (fun _ _ e=>.inl e)));clear hw4 hm4 v0 v1 v2 v3 f1 f2 f3 f4 e1 e2 e3 e4 HW3 HS3 HM3;rcases ok with _ | _
 ·have HE:=zh (show mstep 1 m s=none by rw [HST.out,if_neg];intro h;have:=HD.out;rw [decide_eq_true h] at this;cases this);go_wp2_with fail
  exact fin hR ⟨⟨false,rfl,HE.out⟩,HM4.out⟩
 ·have HR:=zh (HT.out rfl);have h8:s.take 8=versionW:=of_decide_eq_true HD.out.symm;rcases HCV.out with ⟨rfl,h⟩ | ⟨rfl,h⟩
  ·have HE:=zh (show mstep 1 m s=some { m with v:=v } by rw [HST.out,if_pos h8,<- HR.out,h];rfl);clear h8 h HCV;go_wp2_with fail
   exact fin hR ⟨⟨true,rfl,_,_,_,_,HE.out,HW4.out⟩,HM4.out⟩
  ·have HE:=zh (show mstep 1 m s=none by rw [HST.out,if_pos h8,<- HR.out,h];rfl);clear h8 h HCV;go_wp2_with fail
   exact fin hR ⟨⟨false,rfl,HE.out⟩,HM4.out⟩
def zeroRw:Rw:=⟨[],⟨0,0,0,[]⟩,List.replicate 32 0,0,[]⟩
structure RwAt (w:World) (x:RwX):Prop where
 ok:RwOk w x
 nds:NdsAt w x.nv x.r.needs
 few:x.r.needs.length<=1000000
theorem RwOk.keep {S:Nat->Prop} {w w':World} {x:RwX} (h:RwOk w x) (hm:Mod S w w') (ha:Apart [9] S w):RwOk w' x:=⟨h.sum,h.small,h.pre.apart hm ha,h.nv⟩
theorem RwAt.keep {S:Nat->Prop} {w w':World} {x:RwX} (h:RwAt w x) (hm:Mod S w w') (ha:Apart [9,237,175,98] S w):RwAt w' x :=
 ⟨h.ok.keep hm (ha.less (by simp)),h.nds.keep hm ha,h.few⟩
theorem nds_one {w:World} {v:Value} {l:List Nd} (h:NdsAt w v l):∃ ys:List NdX,ys.map NdX.n=l/\(∀ x ∈ ys,OrsAt w x.ov x.n.span.ors)/\Sl w No 98 v l.length (ys.flatMap NdX.cells)/\(ys.flatMap NdX.cells).length=l.length*4/\∀ u ∈ ys.flatMap NdX.cells,u.oneCell'=true:=by
 obtain ⟨ys,h1,h2,h3⟩:=h;refine ⟨ys,h1,h2,h3,by rw [flat_length NdX.cells_length,<- h1,List.length_map],fun u hu=>?_⟩
 obtain ⟨y,hy,hu⟩:=List.mem_flatMap.1 hu;obtain ⟨zs,-,-,hz⟩:=h2 y hy;obtain ⟨a,c,e⟩:=hz.len;unfold NdX.cells at hu;rw [e] at hu;simp only [List.mem_cons,List.not_mem_nil,or_false] at hu;rcases hu with rfl | rfl | rfl | rfl <;> rfl
theorem load_rowM {w:World} {b:Nat} {cs:Array Value} (hl:cs.size=39) (h:w.heap[b]? = some (.cells cs 107 (0,0))):(loadVar 107 ⟨b,0,none⟩).run prog w=.ok (.agg cs) w:=load_row hl h
end Go.Proofs.YticfcmdjplmaeaaGreatDoor
namespace Go.Proofs.YticfcmdjplmaeaaGreatDoor
open _root_.Go.Proofs.Tryz
open Go.RowKit Go.Sort Go.Lib
theorem compact_le (zs:List (List UInt8)):(Lib.compact zs).length<=zs.length:=by
 unfold Lib.compact compactUpTo;rw [List.length_map];exact Nat.le_trans (List.length_filter_le _ _) (by rw [List.length_range];exact Nat.le_refl _)
theorem names_any (xs:List RwX) (hl:xs.length<=1000000) (v:Value) (w:World) (hx:∀ x ∈ xs,RwAt w x) (hv:Sl w No 107 v xs.length (xs.flatMap RwX.cells)) :
  Calls prog 235 #[v] w fun e w'=>∃ (v':Value) (out:List (List UInt8)),e=.returned v'/\Sl w' No 9 v' out.length (strs out)/\Asc out/\(∀ y,y ∈ out ↔ y ∈ xs.map (fun x=>x.r.name))/\Mod No w w':=by
 refine calls_hide fun R hR=>?_
 have HX:=zh hx;obtain ⟨va,vc,rfl⟩:=hv.len;obtain ⟨n,hn⟩:∃ n,n=xs.length:=⟨_,rfl⟩
 rw [<- hn] at hl ⊢;have HN:=zh hn;have HV:=zh (show Sl w No 107 (.slice va n vc) n (xs.flatMap RwX.cells) by rw [hn];exact hv);obtain ⟨i0,hi0,hz0,hz1,hz2⟩:=info_parts info_str;have HI:=zh (And.intro hi0 (And.intro hz0 (And.intro hz1 hz2)));clear hi0 hz0 hz1 hz2 hx hv hn;go_enter func235,ntmps235
 go_wp2_with fail
 go_loopw [3,8] (fun q3 q8 wr=>∃ (k:Nat) (v:Value),k<=n/\q8=.int .i64 (k:Int)/\q3=v/\wr.ownsRow w.heap.size 9 1 v k (strs ((xs.take k).map (fun x=>x.r.name)))/\Mod No w wr) (fun _ q _=>n - (intOf q).toNat)
 case atStart=>exact ⟨0,.slice none 0 0,by omega,rfl,rfl,⟨rfl,.inl ⟨rfl,rfl⟩⟩,Mod.refl _ _⟩
 case round =>
  obtain ⟨k,v,hk,rfl,rfl,hown,hm⟩:=hrel;have HM:=zh hm;have HO:=zh hown;have hk0:(0:Int)<=(k:Int):=Int.natCast_nonneg _;obtain ⟨sa,sc,hsv⟩:=own_len hown;subst hsv;clear hm hown;by_cases hlt:k < n
  ·have hk1:(k:Int) < (n:Int):=by omega
   have hkl:k < xs.length:=by rw [<- HN.out];exact hlt
   obtain ⟨b,o,c,hvs,_⟩:=HV.out.shape (by omega);have hva:va=some ⟨b,o,none⟩:=by cases hvs;rfl
   subst hva;have HRG:=zh (HM.out.rangeAt (Sl.atM (fun x hx=>RwX.cells_length x (HX.out x hx).ok.sum) HV.out hkl) (fun f=>f));have HTK:=zh (show strs ((xs.take (k+1)).map (fun x=>x.r.name))=strs ((xs.take k).map (fun x=>x.r.name))++[strV xs[k].r.name] by
    rw [List.take_succ_eq_append_getElem hkl,List.map_append,strs_append];rfl)
   have HXK:=zh ((HX.out _ (List.getElem_mem hkl)).ok.keep HM.out (Apart.no _ _));generalize xs[k]=y at *;have HL39:=zh (RwX.cells_length y HXK.out.sum);obtain ⟨cs,hcs⟩:∃ cs,cs=RwX.cells y:=⟨_,rfl⟩
   rw [<- hcs] at HRG HL39;have HCS:=zh hcs;clear hcs hvs;go_upto_region 5 with (first | (refine wpList_load_mid rfl 107 _ rfl b (o+k*39) rfl cs _ HRG.out underlying107 rfl (by rw [HL39.out];exact row_info) ?_) | (refine wpList_store_row rfl 107 _ _ rfl wr.heap.size cs.toArray rfl rfl 107 _ (heap_alloc_new wr _) (by rw [List.size_toArray,HL39.out];exact row_info) (by show _=cs.length;rw [HL39.out];rfl) (by rw [HCS.out];exact rows_one HXK.out) ?_))
   obtain ⟨gb,hgb⟩:∃ g,g=wr.heap.size:=⟨_,rfl⟩
   rw [<- hgb];generalize hw0:World.setRow _ gb cs.toArray=w0;have HM0:=zh (show Mod No wr w0 by rw [<- hw0,hgb];exact ((Mod.refl No wr).alloc _).setRow (fun h=>absurd h (by omega)) _);have hga:w0.heap[gb]? = some (.cells cs.toArray 107 (0,0)):=by rw [<- hw0,hgb];exact setRow_heap _ _ _ _ _ _ (heap_alloc_new wr _)
   have hc0:=cell_ofA hga (i:=0) (v:=strV y.r.name) (by rw [List.getElem?_toArray,HCS.out];rfl);have HO0:=zh (own_keepM HO.out HM0.out (fun _ _ f=>f));clear hgb hw0 hga;unfold strV at hc0 HTK;generalize (⟨y.r.name.toArray⟩:ByteArray)=ZN at *;obtain ⟨hi0,hz0,hz1,hz2⟩:=HI.out;go_wp2_with (at_builtin;refine app_sl _ rfl _ _ 38 rfl w.heap.size 9 i0 (.string ⟨#[]⟩) 1 16 underlying38 hi0 hz0 hz1 hz2 rfl (by decide) _ k _ rfl (own_keepM HO0.out ((Mod.refl No w0).alloc _) (fun _ _ f=>f)) No 9 (.slice (some ⟨w0.heap.size,0,none⟩) 1 1) 1 [.string ZN] rfl (.inr ⟨w0.heap.size,0,1,_,_,rfl,Nat.le_refl _,by unfold maxLen;omega,fun f=>f,heap_alloc_new w0 _,by simp,fun i hi=>by simp⟩) rfl (fun u hu=>by rw [List.mem_singleton.1 hu];rfl) (by unfold maxLen;omega) (by omega) (Nat.le_trans HM.out.size (Nat.le_trans HM0.out.size ((Mod.refl No w0).alloc _).size)) ?_;intro v7 w7 hown7 hg7 _;have HO7:=zh hown7;have HG7:=zh hg7;clear hown7 hg7)
   have HM7:=zh (show Mod No w w7 from ((HM.out.trans HM0.out).trans ((Mod.refl No w0).alloc (.cells #[.string ZN] 9))).then (Mod.of_grown (S:=fun q=>w.heap.size<=q) HG7.out (fun q e _=>own_base HO0.out e)) (fun q hq e=>Nat.lt_irrefl _ (Nat.lt_of_lt_of_le hq e)));exact ⟨⟨k+1,v7,by omega,rfl,rfl,by rw [HTK.out];exact HO7.out,HM7.out⟩,by show n - ((k:Int)+1).toNat < n - (k:Int).toNat;omega⟩
  ·obtain rfl:k=n:=by omega
   have hk1:¬ ((k:Int) < (k:Int)):=by omega
   have hml:xs.take k=xs:=List.take_of_length_le (by rw [HN.out];exact Nat.le_refl _);rw [hml] at HO;clear hml;rcases Nat.eq_zero_or_pos k with rfl | hpos
   ·have HXN:=zh (show xs=[] from List.length_eq_zero_iff.1 HN.out.symm);have HS:=zh (Tryz.slices_Sort_string_none sa sc wr);have HC:=zh (Tryz.slices_Compact_string_empty sa sc wr);go_wp2_with fail
    with_reducible refine HS.out.mono ?_
    rintro e w9 ⟨rfl,rfl⟩;go_wp2_with fail
    with_reducible refine HC.out.mono ?_
    rintro e w8 ⟨rfl,rfl⟩;go_wp2_with fail
    exact fin hR ⟨_,[],rfl,by have h:=Sl.of_own (X:=No) HO.out (fun _ _ f=>f);rw [HXN.out] at h;exact h,List.Pairwise.nil,by rw [HXN.out];simp,HM.out⟩
   ·obtain ⟨ss,hss⟩:∃ ss,ss=xs.map (fun x=>x.r.name):=⟨_,rfl⟩
    have hlen:ss.length=k:=by rw [hss,List.length_map,HN.out]
    have hown:wr.ownsRow w.heap.size 9 1 (.slice sa k sc) k (strs ss):=by rw [hss];exact HO.out
    have HSS:=zh hss;obtain ⟨-,⟨-,h0⟩ | ⟨g,cap,cur,hvv,hbase,hb,h1,h2,h3,h4⟩⟩:=hown
    ·omega
    have hsa:sa=some ⟨g,0,none⟩:=by cases hvv;rfl
    have hcap:sc=cap:=by cases hvv;rfl
    subst hsa;subst hcap;have hS:=Tryz.slices_Sort_string g 0 sc ss wr (holds_of_block hb (by rw [hlen];rw [Nat.mul_one] at h4;exact h4)) (lt_of_heap hb) (by omega);obtain ⟨zs,hzs⟩:∃ zs,zs=ss.mergeSort fun x y=>decide (x<=y):=⟨_,rfl⟩
    rw [<- hzs] at hS;have hzl:zs.length=ss.length:=by rw [hzs];simp
    obtain ⟨hasc,hmem⟩:=names_sorted ss;rw [<- hzs] at hasc hmem;have HASC:=zh hasc;have HMEM:=zh hmem;have HW2:=zh (show ∀ w2,(∃ n os,w2=grow (putRow encStr (Sort.ahead wr n) g 0 zs.toArray) os)->w2.ownsRow w.heap.size 9 1 (.slice (some ⟨g,0,none⟩) k sc) k (zs.map encStr)/\Mod No w w2 from fun w2 ⟨n,os,hw⟩=>by
     subst hw;refine ⟨by rw [<- hlen];exact ownsRow_sorted hzl hbase hb (by omega) h2 (by omega),HM.out.then (Mod.of_grown (S:=fun q=>w.heap.size<=q) (grownBy_sorted _) (fun q e _=>by cases e;exact hbase)) (fun q hq e=>Nat.lt_irrefl _ (Nat.lt_of_lt_of_le hq e))⟩)
    have HZL:=zh (hzl.trans hlen);rw [hlen] at hS;have HS:=zh hS;clear hS hss hzs hzl hasc hmem hvv hb h1 h2 h3 h4 hbase hlen;go_wp2_with fail
    with_reducible refine HS.out.mono ?_
    rintro e w2 ⟨rfl,hw2⟩;obtain ⟨hown2,hm2⟩:=HW2.out w2 hw2;have HM2:=zh hm2;clear hw2 HW2 HS hm2;obtain ⟨-,⟨-,h0⟩ | ⟨g',cap',cur,hvv,hbase,hb,h1,h2,h3,h4⟩⟩:=hown2
    ·omega
    have hg:g=g':=by cases hvv;rfl
    have hcap:sc=cap':=by cases hvv;rfl
    subst hg;subst hcap;have hC:=Tryz.slices_Compact_string g 0 sc zs w2 (holds_of_block hb (by rw [HZL.out];rw [Nat.mul_one] at h4;exact h4)) (by rw [HZL.out];omega) (by rw [HZL.out];omega);have hcl:=compact_le zs;obtain ⟨cp,hcp⟩:∃ cp,cp=Lib.compact zs:=⟨_,rfl⟩
    rw [<- hcp] at hC HASC HMEM hcl;have HW3:=zh (show ∀ w3,(∃ q,w3=putRow encStr (Sort.ahead w2 q) g 0 (cp++List.replicate (zs.length - cp.length) []).toArray)->Sl w3 No 9 (.slice (some ⟨g,0,none⟩) cp.length sc) cp.length (strs cp)/\Mod No w w3 from fun w3 ⟨q,hw⟩=>by
     replace hw:=hw.trans (grow_empty _).symm;subst hw;have hzk:=HZL.out;have ht:(cp++List.replicate (zs.length - cp.length) []).length=zs.length:=by rw [List.length_append,List.length_replicate];omega
     have ho:=ownsRow_sorted (os:=#[]) (n:=q) ht hbase hb (by omega) h2 (by omega);refine ⟨?_,HM2.out.then (Mod.of_grown (S:=fun q=>w.heap.size<=q) (grownBy_sorted _) (fun q e _=>by cases e;exact hbase)) (fun q hq e=>Nat.lt_irrefl _ (Nat.lt_of_lt_of_le hq e))⟩
     have h9:=(Sl.of_own (X:=No) ho (fun _ _ f=>f)).takeN (m:=cp.length) (by rw [List.length_map,ht]) hcl;rw [List.map_append,List.take_left' (by rw [List.length_map])] at h9;exact h9)
    rw [HZL.out] at hC;have HC:=zh hC;clear hC hcp hvv hb h1 h2 h3 h4 hbase hcl;go_wp2_with fail
    with_reducible refine HC.out.mono ?_
    rintro e w3 ⟨rfl,hw3⟩;obtain ⟨hs3,hm3⟩:=HW3.out w3 (by rw [HZL.out];exact hw3);have HS3:=zh hs3;have HM3:=zh hm3;clear hw3 HW3 HC hs3 hm3;go_wp2_with fail
    exact fin hR ⟨_,cp,rfl,HS3.out,HASC.out,by rw [<- HSS.out];exact HMEM.out,HM3.out⟩
end Go.Proofs.YticfcmdjplmaeaaGreatDoor
namespace Go.Proofs.YticfcmdjplmaeaaGreatDoor
open _root_.Go.Proofs.Tryz
open Go.RowKit
theorem own_apart {B:Nat} {w:World} {e:TypeId} {size:Nat} {v:Value} {n:Nat} {xs:List Value} (h:w.ownsRow B e size v n xs) {ts:List TypeId} (hne:e ∉ ts):Apart ts (fun k=>v.ownBlock=some k) w:=fun k cur fz e2 hk hc hm=>by
 obtain ⟨cur2,h5⟩:=own_heapM h hk;rw [hc] at h5;cases h5
 exact hne hm
theorem info_row:(prog.info? 107).map (fun i=>(i.zero,i.size,i.bytes))=some (some (.agg (rowCs ⟨#[]⟩ 0 0 0 (.slice none 0 0) (List.replicate 32 0) 0).toArray),39,128):=by kernel_rfl
def FindR (xs:List RwX) (name:List UInt8) (v:Ver) (e:Ending):Prop:=match atL (xs.map RwX.r) name v with
 | none=>e=.returned (.tuple #[.agg (RwX.cells ⟨zeroRw,.slice none 0 0,.slice none 0 0⟩).toArray,.bool false])
 | some k=>∃ x,xs[k]? = some x/\e=.returned (.tuple #[.agg (RwX.cells x).toArray,.bool true])
theorem atL_none {l:List Rw} {name:List UInt8} {v:Ver} (hno:∀ i (hi:i < l.length),¬ (l[i].name=name/\verC l[i].v v=0)):atL l name v=none:=by
 unfold atL;rw [List.findIdx?_eq_none_iff];intro x hx;obtain ⟨i,hi,rfl⟩:=List.getElem_of_mem hx;have:=hno i hi;simpa using this
theorem reffind_lean (xs:List RwX) (h0:xs=[]) (name:List UInt8) (v:Ver) (pv:Value) (rv:Value) (w:World) (hpv:Sl w No 9 pv v.pre.length (strs v.pre))
  (hrv:Sl w No 107 rv xs.length (xs.flatMap RwX.cells)) :
  Calls prog 42 #[rv,strV name,verV v pv] w fun e w'=>FindR xs name v e/\Mod No w w':=by
 refine calls_hide fun R hR=>?_
 obtain ⟨ra,rc,rfl⟩:=hrv.len;obtain ⟨qa,qc,rfl⟩:=hpv.len;have HX0:=zh (show xs.length=0 by rw [h0];rfl);have HNON:=zh (fun h1=>atL_none (l:=xs.map RwX.r) (name:=name) (v:=v) h1);have HRS:=zh (show ∀ w' e,FindR xs name v e->Mod No w w'->R e w' from fun w' e h1 h2=>fin hR ⟨h1,h2⟩);have HFR:=zh (show ∀ e,FindR xs name v e ↔ match atL (xs.map RwX.r) name v with | none=>e=.returned (.tuple #[.agg (RwX.cells ⟨zeroRw,.slice none 0 0,.slice none 0 0⟩).toArray,.bool false]) | some k=>∃ x,xs[k]? = some x/\e=.returned (.tuple #[.agg (RwX.cells x).toArray,.bool true]) from fun e=>Iff.rfl);obtain ⟨zs,hzs⟩:∃ zs,zs=rowCs ⟨#[]⟩ 0 0 0 (.slice none 0 0) (List.replicate 32 0) 0:=⟨_,rfl⟩
 have HZS:=zh hzs;have HZL:=zh (show zs.toArray.size=39 by rw [hzs];exact rowCs_length (by simp) _ _ _ _ _ _);clear hrv hpv hzs hR h0;obtain ⟨va,vi,vp,pr⟩:=v;dsimp only at *;obtain ⟨qn,hqn⟩:∃ n,n=pr.length:=⟨_,rfl⟩
 unfold verV;unfold strV;dsimp only at *;rw [<- hqn];clear hqn;generalize (⟨name.toArray⟩:ByteArray)=A2 at *;go_enter func42,ntmps42
 go_upto_region 1 with fail
 obtain ⟨vb,hvb⟩:∃ g,g=w.heap.size:=⟨_,rfl⟩
 rw [<- hvb];generalize hw1:World.alloc (World.alloc w _) _=w1;have HV1:=zh (show w1.heap[vb]? = some (.cells #[.int .i64 va,.int .i64 vi,.int .i64 vp,.slice qa qn qc] 40 (0,0)) by rw [<- hw1,hvb];exact heap_alloc_old _ (heap_alloc_new w _));have HR1:=zh (show w1.heap[vb+1]? = some (.cells zs.toArray 107 (0,0)) by rw [<- hw1,hvb,HZS.out];exact heap_at_new _ _ (by simp));have HM1:=zh (show Mod No w w1 by rw [<- hw1];exact ((Mod.refl No w).alloc _).alloc _);have HRB:=zh (show w.heap.size<=vb+1 by omega);clear hw1 hvb;obtain ⟨rb,hrb⟩:∃ g,g=vb+1:=⟨_,rfl⟩
 rw [<- hrb] at HR1 HRB;rw [<- hrb];clear hrb;go_wp2_with fail
 go_loopw [8] (fun q wr=>∃ k:Nat,k<=xs.length/\q=.int .i64 (k:Int)/\Mod No w1 wr/\∀ i (hi:i < (xs.map RwX.r).length),i < k->¬ ((xs.map RwX.r)[i].name=name/\verC (xs.map RwX.r)[i].v ⟨va,vi,vp,pr⟩=0)) (fun q _=>xs.length - (intOf q).toNat)
 case atStart=>exact ⟨0,by omega,rfl,Mod.refl _ _,fun i _ h=>absurd h (by omega)⟩
 case round =>
  obtain ⟨k,hk,rfl,hm,hno⟩:=hrel;have HM:=zh hm;have HNO:=zh hno;have hk0:(0:Int)<=(k:Int):=Int.natCast_nonneg _;clear hm hno;have hlt:¬ k < xs.length:=by have:=HX0.out;omega
  have HAN:=zh (HNON.out (fun i hi=>HNO.out i hi (by have h2:i < xs.length:=(by simpa using hi);omega)));clear HNON;have HRr:=zh (HM.out.keep HR1.out (fun f=>f));go_wp2_with (refine wpList_store_row rfl 107 _ _ rfl rb zs.toArray rfl (by rw [HZS.out];rfl) 107 _ HRr.out (by rw [HZL.out];exact row_info) rfl (by rw [HZS.out];exact row_cells _ _ _ _ _ _ _ _ _) ?_)
  have HRz:=zh (setRow_heap wr rb zs.toArray zs.toArray 107 (0,0) HRr.out);have hlz:=load_row HZL.out HRz.out;have HMz:=zh ((HM1.out.trans HM.out).setRow (g:=rb) (fun h=>by have:=HRB.out;omega) zs.toArray);exact bodyPost_ret (v:=.tuple #[.agg zs.toArray,.bool false]) (by simp [results,results42,asAddr,hlz]) rfl (HRS.out _ _ ((HFR.out _).2 (by rw [HAN.out,HZS.out];rfl)) HMz.out)
end Go.Proofs.YticfcmdjplmaeaaGreatDoor
