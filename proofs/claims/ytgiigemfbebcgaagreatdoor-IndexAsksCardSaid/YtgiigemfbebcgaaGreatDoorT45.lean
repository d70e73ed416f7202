/-
  Layers 0 to 14: helps of the laws of indexes. No statement is proved here; no condition.
-/
import Derived.Test.YtgiigemfbebcgaaGreatDoorT43
import Derived.Test.YtgiigemfbebcgaaGreatDoorT44
namespace Go.Proofs.YtgiigemfbebcgaaGreatDoor
open _root_.Go.Proofs.Tryz
open Go.RowKit
theorem range_of {w:World} {b:Nat} {cs:List Value} {t:TypeId} {fz:Nat × Nat} (h:w.heap[b]? = some (.cells cs.toArray t fz)):w.rangeAt b 0 cs:=fun j u hj=>by
 rw [Nat.zero_add]
 exact cell_of h hj
theorem key_info:(prog.info? 43).map (·.size)=some 32:=by kernel_rfl
theorem wpList_valueG {P:Program} {ops:Array Oper} {rest:List Oper} {o:Oper} {a:Act} {w w':World} {Q:Exit->Act->World->Prop} {v:Value} (hw:Region.wanted o (yielded ops a.tmps)=true) (hr:(execOp a.eval o).run P w=.ok (.value v) w') (h:wpList P ops Q rest (a.put o.dst v) w'):wpList P ops Q (o :: rest) a w :=
 wpList_step fun _ hK=>by rw [if_pos hw];exact wp_value hr (hK _ _ h)
theorem wpList_loadG {ops:Array Oper} {rest:List Oper} {o:Oper} {a:Act} {w:World} {Q:Exit->Act->World->Prop} (hw:Region.wanted o (yielded ops a.tmps)=true) (ty:TypeId) (x:Operand) (ho:o.op=.load ty x) (b i:Nat) (hx:a.eval x=.pointer (some ⟨b,i,none⟩)) (cs:List Value) (d:TypeDesc) (hc:w.rangeAt b i cs)
  (hu:prog.underlying ty=some d) (hd:d.isRow=true) (hi:(prog.info? ty).map (·.size)=some cs.length) (h:wpList prog ops Q rest (a.put o.dst (.agg cs.toArray)) w):wpList prog ops Q (o :: rest) a w :=
 wpList_valueG hw (yloadv (run_loadVar_mid w b i ty cs d hc hu hd hi) x ho hx) h
theorem wpList_keyG {ops:Array Oper} {rest:List Oper} {o:Oper} {a:Act} {w:World} {Q:Exit->Act->World->Prop} (hw:Region.wanted o (yielded ops a.tmps)=true) {S:List UInt8} (hS:S.length=32) (x y:Operand) (rt:TypeId) (ho:o.op=.binOp .eql 43 x y rt) (hx:a.eval x=keyV S) (hy:a.eval y=keyV S)
  (h:wpList prog ops Q rest (a.put o.dst (.bool true)) w):wpList prog ops Q (o :: rest) a w :=
 wpList_valueG hw (by have:=yeq (w:=w) hS hS x y rt ho hx hy;rw [decide_eq_true rfl] at this;exact this) h
set_option maxRecDepth 100000 in
set_option maxHeartbeats 16000000 in
theorem row_eq (r:Rw) (pa na pb nb:Value) (w:World) (ha:RwAt w ⟨r,pa,na⟩) (hb:RwAt w ⟨r,pb,nb⟩) :
  Calls prog 17 #[.agg (RwX.cells ⟨r,pa,na⟩).toArray,.agg (RwX.cells ⟨r,pb,nb⟩).toArray] w fun e w'=>e=.returned (.bool true)/\Mod No w w':=by
 refine calls_hide fun R hR=>?_
 have HS:=zh ha.ok.sum
 have HVV:=zh (fun W (hm:Mod No w W)=>version_eq r.v pa pb W (ha.ok.pre.kn hm) (hb.ok.pre.kn hm))
 have HNN:=zh (fun W (hm:Mod No w W)=>needs_eq r.needs na nb W (ha.nds.keep hm (Apart.no _ _)) (hb.nds.keep hm (Apart.no _ _)))
 obtain ⟨pa1,pa2,pa3,hpa⟩:∃ a m c,pa=.slice a m c:=by obtain ⟨a,c,h⟩:=ha.ok.pre.len;exact ⟨_,_,_,h⟩
 obtain ⟨pb1,pb2,pb3,hpb⟩:∃ a m c,pb=.slice a m c:=by obtain ⟨a,c,h⟩:=hb.ok.pre.len;exact ⟨_,_,_,h⟩
 obtain ⟨na1,na2,na3,hna⟩:∃ a m c,na=.slice a m c:=ha.ok.nv
 obtain ⟨nb1,nb2,nb3,hnb⟩:∃ a m c,nb=.slice a m c:=hb.ok.nv
 clear ha hb
 obtain ⟨c1,hc1⟩:∃ c,c=RwX.cells ⟨r,pa,na⟩:=⟨_,rfl⟩
 obtain ⟨c2,hc2⟩:∃ c,c=RwX.cells ⟨r,pb,nb⟩:=⟨_,rfl⟩
 have HC1:=zh hc1
 have HC2:=zh hc2
 rw [<- hc1,<- hc2]
 obtain ⟨ZN,hZN⟩:∃ Z:ByteArray,Z=⟨r.name.toArray⟩:=⟨_,rfl⟩
 have HZN:=zh hZN
 clear hc1 hc2 hZN
 go_enter func17,ntmps17
 go_upto_region 1 with fail
 have hg2:(w.alloc (.cells c1.toArray 46)).heap.size=w.heap.size+1:=by show (w.heap.push _).size=_;simp
 obtain ⟨g1,hg1⟩:∃ g,g=w.heap.size:=⟨_,rfl⟩
 have hk1:=heap_alloc_old (.cells c2.toArray 46) (heap_alloc_new w (.cells c1.toArray 46))
 have hk2:=heap_alloc_new (w.alloc (.cells c1.toArray 46)) (.cells c2.toArray 46)
 have hm2:=((Mod.refl No w).alloc (.cells c1.toArray 46)).alloc (.cells c2.toArray 46)
 rw [hg2] at hk2
 rw [<- hg1] at hk1 hk2 ⊢
 generalize World.alloc (w.alloc _) _=w2 at *
 have HM2:=zh hm2
 obtain ⟨S,hS⟩:∃ S,S=r.sum:=⟨_,rfl⟩
 have HS32:=zh (show S.length=32 by rw [hS];exact HS.out)
 have HF:=zh (show ∀ W,Mod No w2 W->W.cell? ⟨g1,0,none⟩=some (.string ZN)/\W.cell? ⟨g1+1,0,none⟩=some (.string ZN)/\W.rangeAt g1 1 (verCs r.v pa)/\W.rangeAt (g1+1) 1 (verCs r.v pb)/\W.rangeAt g1 5 (bv S)/\W.rangeAt (g1+1) 5 (bv S) ∧
   W.cell? ⟨g1,37,none⟩=some (.int .i64 r.size)/\W.cell? ⟨g1+1,37,none⟩=some (.int .i64 r.size)/\W.cell? ⟨g1,38,none⟩=some na/\W.cell? ⟨g1+1,38,none⟩=some nb from fun W hW=>by
  have a1:=range_of (hW.keep hk1 (fun f=>f))
  have a2:=range_of (hW.keep hk2 (fun f=>f))
  have b1:=a1
  have b2:=a2
  rw [HC1.out] at a1
  rw [HC2.out] at a2
  have d1:=rangeAt_part (p:=[strV r.name]) (q:=verCs r.v pa) (r:=bv r.sum++[.int .i64 r.size,na]) (by rw [List.append_assoc];exact a1)
  have d2:=rangeAt_part (p:=[strV r.name]) (q:=verCs r.v pb) (r:=bv r.sum++[.int .i64 r.size,nb]) (by rw [List.append_assoc];exact a2)
  have d3:=rangeAt_part (p:=strV r.name :: verCs r.v pa) (q:=bv r.sum) (r:=[.int .i64 r.size,na]) (by rw [List.append_assoc];exact a1)
  have d4:=rangeAt_part (p:=strV r.name :: verCs r.v pb) (q:=bv r.sum) (r:=[.int .i64 r.size,nb]) (by rw [List.append_assoc];exact a2)
  rw [hS,HZN.out]
  refine ⟨a1 0 _ rfl,a2 0 _ rfl,d1,d2,d3,d4,?_,?_,?_,?_⟩
  ·have:=a1 37 _ (row_size_get HS.out);rwa [Nat.zero_add] at this
  ·have:=a2 37 _ (row_size_get (x:=⟨r,pb,nb⟩) HS.out);rwa [Nat.zero_add] at this
  ·have:=a1 38 _ (rows_get38' HS.out);rwa [Nat.zero_add] at this
  ·have:=a2 38 _ (rows_get38' (x:=⟨r,pb,nb⟩) HS.out);rwa [Nat.zero_add] at this)
 have HV:=zh (show ∀ W,Mod No w2 W->Calls prog 53 #[.agg (verCs r.v pa).toArray,.agg (verCs r.v pb).toArray] W fun e w'=>e=.returned (.bool true)/\Mod No W w' from fun W hW=>HVV.out W (HM2.out.trans hW))
 have HN:=zh (show ∀ W,Mod No w2 W->Calls prog 54 #[na,nb] W fun e w'=>e=.returned (.bool true)/\Mod No W w' from fun W hW=>HNN.out W (HM2.out.trans hW))
 have HL4:=zh (show (verCs r.v pa).length=4/\(verCs r.v pb).length=4 from ⟨rfl,rfl⟩)
 obtain ⟨V1,hV1⟩:∃ V,V=verCs r.v pa:=⟨_,rfl⟩
 obtain ⟨V2,hV2⟩:∃ V,V=verCs r.v pb:=⟨_,rfl⟩
 rw [<- hV1,<- hV2] at HV HL4
 have HF:=zh (by have h:=HF.out;rw [<- hV1,<- hV2] at h;exact h)
 have HI4:=zh (show (prog.info? 40).map (·.size)=some V1.length/\(prog.info? 40).map (·.size)=some V2.length from ⟨by rw [HL4.out.1];exact ver_info,by rw [HL4.out.2];exact ver_info⟩)
 have HI5:=zh (show (prog.info? 43).map (·.size)=some (bv S).length by rw [bv_length,HS32.out];exact key_info)
 clear hg2 hk1 hk2 hm2 hg1 hS hV1 hV2 HVV HNN HC1 HC2 HZN HS HL4
 generalize r.size=sz at *
 obtain ⟨f1,f2,-,-,-,-,f3,f4,f5,f6⟩:=HF.out _ (Mod.refl _ w2)
 have HG:=zh (HF.out _ (Mod.refl _ w2))
 rw [hna] at f5
 rw [hnb] at f6
 go_wp2_with (first
  |(refine wpList_loadG rfl 40 _ rfl g1 1 rfl V1 _ HG.out.2.2.1 underlying40 rfl HI4.out.1 ?_)
  |(refine wpList_loadG rfl 40 _ rfl (g1+1) 1 rfl V2 _ HG.out.2.2.2.1 underlying40 rfl HI4.out.2 ?_))
 with_reducible refine (HV.out _ (Mod.refl _ w2)).mono ?_
 rintro e w3 ⟨rfl,hm3⟩
 have HM3:=zh hm3
 clear HG f1 f2 f3 f4 f5 f6 hm3
 obtain ⟨-,-,-,-,-,-,f3,f4,f5,f6⟩:=HF.out _ HM3.out
 have HG:=zh (HF.out _ HM3.out)
 rw [hna] at f5
 rw [hnb] at f6
 go_wp2_with (first
  |(refine wpList_loadG rfl 43 _ rfl g1 5 rfl (bv S) _ HG.out.2.2.2.2.1 underlying43 rfl HI5.out ?_)
  |(refine wpList_loadG rfl 43 _ rfl (g1+1) 5 rfl (bv S) _ HG.out.2.2.2.2.2.1 underlying43 rfl HI5.out ?_)
  |(refine wpList_keyG rfl HS32.out _ _ _ rfl rfl rfl ?_))
 with_reducible refine (show Calls prog 54 #[.slice na1 na2 na3,.slice nb1 nb2 nb3] w3 _ from by rw [<- hna,<- hnb];exact HN.out _ HM3.out).mono ?_
 rintro e w4 ⟨rfl,hm4⟩
 have HM4:=zh hm4
 clear HG f3 f4 f5 f6 hm4
 go_wp2_with fail
 exact fin hR ⟨rfl,(HM2.out.trans HM3.out).trans HM4.out⟩
end Go.Proofs.YtgiigemfbebcgaaGreatDoor
