/-
  Layers 0 to 14: helps of the laws of indexes. No statement is proved here; no condition.
-/
import Derived.Test.YtmppeipgjcjdkaaGreatDoorW06
import Derived.Test.YtmppeipgjcjdkaaGreatDoorW01
import Derived.Test.YtmppeipgjcjdkaaGreatDoorW04
import Derived.Deep.Fields
import Derived.Lib.ConvBytes
import Derived.Deep.QuietTactic
namespace Go.Proofs.YtmppeipgjcjdkaaGreatDoor
open _root_.Go.Proofs.Tryz
open Go.RowKit
structure Pr where
 key:List UInt8
 value:List UInt8
 gone:Bool
def Pr.agg (p:Pr):Value:=.agg #[.string ⟨p.key.toArray⟩,.string ⟨p.value.toArray⟩,.bool p.gone]
def pairB (p:Pr):List UInt8:=boolB p.gone++(textB p.key++if p.gone then [] else textB p.value)
def Pr.norm (p:Pr):Pr:=⟨p.key,if p.gone then [] else p.value,p.gone⟩
theorem textB_len (s:List UInt8) (h:s.length<=10000000):(textB s).length<=s.length+10:=by
 have:=numB_bound s.length (by omega)
 unfold textB
 rw [List.length_append];omega
theorem pairB_len (p:Pr) (h1:p.key.length<=10000000) (h2:p.value.length<=10000000):(pairB p).length<=p.key.length+p.value.length+21:=by
 have a:=textB_len p.key h1
 have b:=textB_len p.value h2
 unfold pairB
 cases p.gone with
 | true=>simp only [List.length_append,boolB,if_true,List.length_nil,List.length_cons];omega
 | false=>simp only [List.length_append,boolB,Bool.false_eq_true,if_false,List.length_nil,List.length_cons];omega
theorem str_size_list (l:List UInt8):(⟨l.toArray⟩:ByteArray).size=l.length:=by rw [str_size]
set_option maxRecDepth 100000 in
set_option maxHeartbeats 4000000 in
theorem pbytes_any (p:Pr) (w:World) (h1:p.key.length<=10000000) (h2:p.value.length<=10000000) :
  Calls prog 30 #[p.agg] w fun e w'=>∃ v,e=.returned v/\w'.ownsRow w.heap.size 5 1 v (pairB p).length (bv (pairB p))/\Mod No w w':=by
 refine calls_hide fun R hR=>?_
 obtain ⟨k,x,g⟩:=p
 dsimp only at h1 h2
 unfold Pr.agg
 dsimp only
 have hks:=str_size_list k
 have hxs:=str_size_list x
 obtain ⟨K,hK⟩:∃ K:ByteArray,K=⟨k.toArray⟩:=⟨_,rfl⟩
 obtain ⟨X,hX⟩:∃ X:ByteArray,X=⟨x.toArray⟩:=⟨_,rfl⟩
 rw [<- hK] at hks ⊢
 rw [<- hX] at hxs ⊢
 have HKL:=zh (show K.data.toList=k by rw [hK])
 have HXL:=zh (show X.data.toList=x by rw [hX])
 have HKS:=zh hks
 have HXS:=zh hxs
 have hmb:∀ (l:List UInt8),l.length<=10000000->(textB l).length<=10000010:=fun l h=>by have:=textB_len l h;omega
 have HTB:=zh hmb
 clear hK hX hks hxs hmb
 obtain ⟨w1,hw1⟩:∃ w1,w1=w.alloc (.cells #[.string K,.string X,.bool g] 33):=⟨_,rfl⟩
 have hp1:w1.heap[w.heap.size]? = some (.cells #[.string K,.string X,.bool g] 33 (0,0)):=by rw [hw1];exact heap_alloc_new w _
 have HM1:=zh (show Mod No w w1 by rw [hw1];exact (Mod.refl No w).alloc _)
 have HP1:=zh hp1
 have HZ1:=zh (show w1.heap.size=w.heap.size+1 by rw [hw1];simp)
 have HW1:=zh hw1
 clear hp1 hw1
 go_enter func30,ntmps30
 go_wp2_with fail
 rw [<- HW1.out]
 with_reducible refine (newWriter_any w1).mono ?_
 rintro e w2 ⟨rfl,hwr,hm2⟩
 obtain ⟨base,hbase⟩:∃ base,base=w1.heap.size:=⟨_,rfl⟩
 rw [<- hbase] at hwr ⊢
 have HBASE:=zh hbase
 have hp2:=hm2.keep HP1.out (fun f=>f)
 have c2:=cell_of (i:=2) hp2 rfl
 have m23:Mod No w2 (w2.alloc (.cells #[.bool g] 4)):=(Mod.refl No w2).alloc _
 have hb2:base<=(w2.alloc (.cells #[.bool g] 4)).heap.size:=by have:=hm2.size;simp;omega
 have HB:=zh (wbool_any (c:=1) (hwr.stay m23) (by decide) hb2 (cell_of (i:=0) (xs:=[.bool g]) (heap_alloc_new w2 _) rfl))
 have HM2:=zh (hm2.trans m23)
 have HP2:=zh (m23.keep hp2 (fun f=>f))
 clear hwr hm2 hp2 m23 hbase hb2
 go_wp2_with fail
 with_reducible refine HB.out.mono ?_
 clear HB
 rintro e w3 ⟨v3,rfl,hw3,hm3⟩
 have hp3:=hm3.keep HP2.out (fun e=>by have:=HBASE.out;have:=HZ1.out;omega)
 have c0:=cell_of (i:=0) hp3 rfl
 have m34:Mod No w3 (w3.alloc (.cells #[.string K] 9)):=(Mod.refl No w3).alloc _
 have hb3:base<=(w3.alloc (.cells #[.string K] 9)).heap.size:=by have:=hm3.size;have:=HM2.out.size;have:=HBASE.out;simp at *;omega
 have HT:=zh (wtext_any (c:=1) (s:=K) (hw3.stay m34) (by simp [boolB]) hb3 (cell_of (i:=0) (xs:=[.string K]) (heap_alloc_new w3 _) rfl) (by rw [HKS.out];exact h1))
 have HM3:=zh ((HM2.out.then hm3 (fun i hi e=>by have:=HBASE.out;omega)).trans m34)
 have HP3:=zh (m34.keep hp3 (fun f=>f))
 clear hw3 hm3 hp3 m34 hb3 c2
 go_wp2_with fail
 with_reducible refine HT.out.mono ?_
 clear HT
 rintro e w4 ⟨v4,rfl,hw4,hm4⟩
 rw [HKL.out] at hw4
 have hp4:=hm4.keep HP3.out (fun e=>by have:=HBASE.out;have:=HZ1.out;omega)
 have c2:=cell_of (i:=2) hp4 rfl
 have c1:=cell_of (i:=1) hp4 rfl
 have HM4:=zh (HM3.out.then hm4 (fun i hi e=>by have:=HBASE.out;omega))
 have hlen4:([]++boolB g++textB k).length<=10000020:=by
  have:=HTB.out k h1
  simp only [List.nil_append,List.length_append,boolB,List.length_cons,List.length_nil];omega
 have HP4:=zh hp4
 have HW4:=zh hw4
 have HL4:=zh hlen4
 clear hw4 hm4 hp4 c0 hlen4
 cases g with
 | true =>
  have HB:=zh (wbytes_any HW4.out (by have:=HL4.out;omega))
  go_wp2_with fail
  with_reducible refine HB.out.mono ?_
  clear HB
  rintro e w5 ⟨v5,rfl,ho,hm5⟩
  have hlist:[]++boolB true++textB k=pairB ⟨k,x,true⟩:=by unfold pairB;simp
  rw [hlist] at ho
  have HO:=zh ho
  have HM5:=zh (HM1.out.trans (HM4.out.trans hm5))
  have HZ4:=zh HM4.out.size
  clear ho hm5 hlist
  go_wp2_with fail
  refine fin hR ⟨_,rfl,⟨HO.out.1,HO.out.2.imp (fun h=>h) ?_⟩,HM5.out⟩
  rintro ⟨g,cap,cur,hv,hg,r⟩
  exact ⟨g,cap,cur,hv,by have:=HZ4.out;have:=HZ1.out;omega,r⟩
 | false =>
  have m45:Mod No w4 (w4.alloc (.cells #[.string X] 9)):=(Mod.refl No w4).alloc _
  have hb4:base<=(w4.alloc (.cells #[.string X] 9)).heap.size:=by have:=HM4.out.size;have:=HBASE.out;simp;omega
  have HT:=zh (wtext_any (c:=1) (s:=X) (HW4.out.stay m45) (by have:=HL4.out;omega) hb4 (cell_of (i:=0) (xs:=[.string X]) (heap_alloc_new w4 _) rfl) (by rw [HXS.out];exact h2))
  have HM45:=zh (HM4.out.trans m45)
  clear m45 hb4
  go_wp2_with fail
  with_reducible refine HT.out.mono ?_
  clear HT
  rintro e w5 ⟨v5,rfl,hw5,hm5⟩
  rw [HXL.out] at hw5
  have HM5:=zh (HM45.out.then hm5 (fun i hi e=>by have:=HBASE.out;omega))
  have HB:=zh (wbytes_any hw5 (by have:=HL4.out;have:=HTB.out x h2;rw [List.length_append];omega))
  clear hw5 hm5
  go_wp2_with fail
  with_reducible refine HB.out.mono ?_
  clear HB
  rintro e w6 ⟨v6,rfl,ho,hm6⟩
  have hlist:[]++boolB false++textB k++textB x=pairB ⟨k,x,false⟩:=by unfold pairB;simp
  rw [hlist] at ho
  have HO:=zh ho
  have HM6:=zh (HM1.out.trans (HM5.out.trans hm6))
  have HZ5:=zh HM5.out.size
  clear ho hm6 hlist
  go_wp2_with fail
  refine fin hR ⟨_,rfl,⟨HO.out.1,HO.out.2.imp (fun h=>h) ?_⟩,HM6.out⟩
  rintro ⟨g,cap,cur,hv,hg,r⟩
  exact ⟨g,cap,cur,hv,by have:=HZ5.out;have:=HZ1.out;omega,r⟩
theorem bytes_of_str (w:World) (l:List UInt8) (hl:l.length<=1000000):∃ c W,(convert 9 41 (.string ⟨l.toArray⟩)).run prog w=.ok (.slice (some ⟨w.heap.size,0,none⟩) l.length c) W/\Sl W No 5 (.slice (some ⟨w.heap.size,0,none⟩) l.length c) l.length (bv l)/\Mod No w W:=by
 have hs:=str_size_list l
 refine ⟨grownCap w l.length 0 5,Lib.bytesWorld w 5 ⟨l.toArray⟩,?_,?_,?_⟩
 ·have:=Lib.run_convert_string_bytes (P:=prog) w 9 41 5 ⟨l.toArray⟩ underlying9 underlying41 underlying5
  rw [hs] at this
  exact this
 ·refine .inr ⟨w.heap.size,0,_,_,_,rfl,?_,grownCap_le_maxLen w _ 0 _ (by unfold maxLen;omega),fun f=>f,Lib.bytesWorld_at_new w _ _,?_,fun i hi=>?_⟩
  ·exact grownCap_ge w _ 0 _
  ·unfold Lib.bytesCells;simp
  ·rw [bv_length] at hi
   unfold Lib.bytesCells
   rw [Nat.zero_add,Array.getElem?_append_left (by simpa using hi),bv_get _ i hi]
   simp [hi]
 ·exact ⟨rfl,rfl,rfl,by rw [Lib.bytesWorld_size];omega,fun k hk _=>Lib.bytesWorld_at_old w _ _ k hk⟩
set_option maxRecDepth 100000 in
set_option maxHeartbeats 4000000 in
theorem pair_any {w:World} {X:Nat->Prop} {v:Value} (p:Pr) (h1:p.key.length<=10000000) (h2:p.value.length<=10000000) (h:Sl w X 5 v (pairB p).length (bv (pairB p))) :
  Calls prog 23 #[v] w fun e w'=>e=.returned (.tuple #[p.norm.agg,.bool true])/\Mod No w w':=by
 refine calls_hide fun R hR=>?_
 have hpl:=pairB_len p h1 h2
 obtain ⟨w1,hw1⟩:∃ w1,w1=w.alloc (.cells #[.string ⟨#[]⟩,.string ⟨#[]⟩,.bool false] 33):=⟨_,rfl⟩
 have m1:Mod No w w1:=by rw [hw1];exact (Mod.refl No w).alloc _
 have HP1:=zh (show w1.heap[w.heap.size]? = some (.cells #[.string ⟨#[]⟩,.string ⟨#[]⟩,.bool false] 33 (0,0)) by rw [hw1];exact heap_alloc_new w _)
 have HN:=zh (newReader_any (h.kn m1) (by omega))
 have HM1:=zh m1
 have HW1:=zh hw1
 have HPL:=zh hpl
 have HZ1:=zh (show w1.heap.size=w.heap.size+1 by rw [hw1];simp)
 obtain ⟨va,vc,rfl⟩:=h.len
 clear m1 hw1 h hpl
 go_enter func23,ntmps23
 go_wp2_with fail
 rw [<- HW1.out]
 with_reducible refine HN.out.mono ?_
 clear HN
 rintro e w2 ⟨q,v2,rfl,hrd,hm2,hq⟩
 have HB:=zh (rbool_ok hrd (by have:=HPL.out;omega))
 have HM2:=zh (HM1.out.trans hm2)
 have HP2:=zh (hm2.keep HP1.out (fun f=>f))
 have HQ:=zh hq
 clear hrd hm2 hq
 go_wp2_with fail
 with_reducible refine HB.out.mono ?_
 clear HB
 rintro e w3 ⟨hm3,⟨o,L',v3,hn,rfl,hrd⟩ | ⟨hn,-⟩⟩
 case inr=>unfold pairB at hn;rw [rdBool_bool] at hn;cases hn
 obtain ⟨rfl,rfl⟩:o=p.gone/\L'=textB p.key++(if p.gone then [] else textB p.value):=by
  unfold pairB at hn;rw [rdBool_bool] at hn;cases hn;exact ⟨rfl,rfl⟩
 have HLT:=zh (show (textB p.key++(if p.gone then [] else textB p.value)).length<=1000000000 by
  have:=HPL.out
  unfold pairB at this;rw [List.length_append] at this;omega)
 have HT:=zh (rtext_ok hrd HLT.out)
 have HM3:=zh (HM2.out.then hm3 (fun i hi e=>by have:=HQ.out;have:=HZ1.out;omega))
 have HP3:=zh (hm3.keep HP2.out (fun e=>by have:=HQ.out;have:=HZ1.out;omega))
 clear hn hrd hm3
 go_wp2_with fail
 with_reducible refine HT.out.mono ?_
 clear HT
 rintro e w4 ⟨hm4,⟨s,L',v4,hn,rfl,hrd⟩ | ⟨hn,-⟩⟩
 case inr=>rw [rdText_text _ _ (by omega)] at hn;cases hn
 obtain ⟨rfl,rfl⟩:s=p.key/\L'=if p.gone then [] else textB p.value:=by
  rw [rdText_text _ _ (by omega)] at hn;cases hn;exact ⟨rfl,rfl⟩
 have HM4:=zh (HM3.out.then hm4 (fun i hi e=>by have:=HQ.out;have:=HZ1.out;omega))
 have HP4:=zh (hm4.keep HP3.out (fun e=>by have:=HQ.out;have:=HZ1.out;omega))
 obtain ⟨k,x,g⟩:=p
 obtain ⟨P0,hPP⟩:∃ P0,P0=w.heap.size:=⟨_,rfl⟩
 have HPP:=zh hPP
 have HP4:=zh (show w4.heap[P0]? = some (.cells #[.string ⟨#[]⟩,.string ⟨#[]⟩,.bool false] 33 (0,0)) by rw [hPP];exact HP4.out)
 have hq0:¬ q=P0:=by have:=HQ.out;have:=HZ1.out;omega
 rw [<- hPP]
 clear hPP
 obtain ⟨b5,hb⟩:∃ b5,b5=w4.heap.size:=⟨_,rfl⟩
 have hb5:¬ b5=P0:=by have:=lt_of_heap HP4.out;omega
 cases g with
 | true =>
  replace hrd:RdAt w4 q v4 [] false:=hrd
  obtain ⟨w5,hw5⟩:∃ w5,w5=w4.alloc (.cells #[.string ⟨k.toArray⟩,.string ⟨#[]⟩,.bool true] 33):=⟨_,rfl⟩
  have m5:Mod No w4 w5:=by rw [hw5];exact (Mod.refl No w4).alloc _
  have h55:w5.heap[b5]? = some (.cells #[.string ⟨k.toArray⟩,.string ⟨#[]⟩,.bool true] 33 (0,0)):=by rw [hw5,hb];exact heap_alloc_new w4 _
  have hrd:=hrd.stay m5
  have hP0:=m5.keep HP4.out (fun f=>f)
  have hm5:=HM4.out.trans m5
  have HX5:=zh hw5
  have HBB:=zh hb
  clear hw5 m5 hb hn hm4
  go_upto_region 5 with fail
  rw [<- HX5.out,<- HBB.out]
  have HW5:=zh h55
  have hS0:w5.drew.cell? ⟨b5,0,none⟩=some (.string (⟨k.toArray⟩:ByteArray))/\w5.drew.cell? ⟨b5,1,none⟩=some (.string ⟨#[]⟩)/\w5.drew.cell? ⟨b5,2,none⟩=some (.bool true):=⟨cell_of (i:=0) h55 rfl,cell_of (i:=1) h55 rfl,cell_of (i:=2) h55 rfl⟩
  obtain ⟨W1,hW1⟩:∃ W1,W1=(((w5.setCell ⟨P0,0,none⟩ (.string (⟨k.toArray⟩:ByteArray))).setCell ⟨P0,1,none⟩ (.string ⟨#[]⟩)).setCell ⟨P0,2,none⟩ (.bool true)).drew:=⟨_,rfl⟩
  have hm1:Mod (fun i=>i=P0) w5 W1:=by rw [hW1];exact ((((Mod.refl (fun i=>i=P0) w5).setCell (fun _=>rfl) _).setCell (fun _=>rfl) _).setCell (fun _=>rfl) _).drew
  have hS1:W1.cell? ⟨b5,0,none⟩=some (.string (⟨k.toArray⟩:ByteArray))/\W1.cell? ⟨b5,1,none⟩=some (.string ⟨#[]⟩)/\W1.cell? ⟨b5,2,none⟩=some (.bool true):=⟨hm1.cell (cell_of (i:=0) h55 rfl) hb5,hm1.cell (cell_of (i:=1) h55 rfl) hb5,hm1.cell (cell_of (i:=2) h55 rfl) hb5⟩
  have HD0:=rdone_any (hrd.stay (Mod.refl No w5).drew)
  have h1P:W1.heap[P0]? = some (.cells #[.string (⟨k.toArray⟩:ByteArray),.string ⟨#[]⟩,.bool true] 33 (0,0)):=by
   rw [hW1]
   show ((((w5.setCell ⟨P0,0,none⟩ (.string (⟨k.toArray⟩:ByteArray))).setCell ⟨P0,1,none⟩ (.string ⟨#[]⟩)).setCell ⟨P0,2,none⟩ (.bool true))).heap[P0]? = _
   rw [heap_setCell (heap_setCell (heap_setCell hP0 _) _) _];rfl
  have p0:=cell_of (i:=0) hP0 rfl
  have p1:=cell_of (i:=1) hP0 rfl
  have p2:=cell_of (i:=2) hP0 rfl
  have f0:=frozen_of 0 hP0
  have f1:=frozen_of 1 hP0
  have f2:=frozen_of 2 hP0
  have HDN:=zh (show doneI [] false=0 from rfl)
  rw [HDN.out] at HD0
  have HD0:=zh HD0
  have HW1:=zh hW1
  have HRES:=zh (And.intro h1P (hm5.then hm1 (fun i hi e=>by have:=HPP.out;omega):Mod No w W1))
  clear hm1 h1P hW1 h55 hP0 hb5
  refine wp_region_T (fun w'=>w'.cell? ⟨b5,0,none⟩=some (.string (⟨k.toArray⟩:ByteArray))/\w'.cell? ⟨b5,1,none⟩=some (.string ⟨#[]⟩)/\w'.cell? ⟨b5,2,none⟩=some (.bool true)) 99 (by kernel_rfl) ?_
  refine yT 0 (some 19) (.agg #[.string (⟨k.toArray⟩:ByteArray),.string ⟨#[]⟩,.bool true]) hS0 ?_ ?_
  ·(intro w' hSw;obtain ⟨s0,s1,s2⟩:=hSw;go_simp)
  simp only [Act.put,yB,yC,yD]
  refine yT 1 (some 20) ?_ hS0 ?_ ?_
  rotate_left
  ·(intro w' hSw;go_simp;try with_reducible rfl)
  simp only [Act.put,yB,yC,yD]
  refine wpAnyT_one 2 rfl (by kernel_rfl) rfl ?_
  intro K hK
  go_simp
  (go_at_call 69;with_reducible refine HD0.out.mono ?_;rintro e w' ⟨rfl,h2⟩;subst h2)
  show K _ _
  refine hK.out _ _ (fun _=>hS0) ?_
  clear hK K
  refine yT 3 (some 22) ?_ hS0 ?_ ?_
  rotate_left
  ·(intro w' hSw;go_simp;try with_reducible rfl)
  simp only [Act.put,yB,yC,yD]
  refine wpAnyT_one 4 rfl (by kernel_rfl) rfl ?_
  intro K hK
  go_simp
  rw [<- HW1.out]
  show K _ _
  refine hK.out _ _ (fun _=>hS1) ?_
  clear hK K
  refine yT 5 (some 3) ?_ hS1 ?_ ?_
  rotate_left
  ·(intro w' hSw;go_simp;try with_reducible rfl)
  simp only [Act.put,yB,yC,yD]
  refine wpAnyT_done (by kernel_rfl) ?_ _
  clear hS0 HD0
  have h1:=HRES.out.1
  have r0:=cell_of (i:=0) h1 rfl
  have r1:=cell_of (i:=1) h1 rfl
  have r2:=cell_of (i:=2) h1 rfl
  clear h1
  go_wp2_with fail
  exact bodyPost_ret (v:=.tuple #[.agg #[.string (⟨k.toArray⟩:ByteArray),.string ⟨#[]⟩,.bool true],.bool true]) (by simp [results,results23,go_sem,r0,r1,r2]) rfl (fin hR ⟨rfl,HRES.out.2⟩)
 | false =>
  replace hrd:RdAt w4 q v4 (textB x) false:=hrd
  obtain ⟨w5,hw5⟩:∃ w5,w5=w4.alloc (.cells #[.string ⟨k.toArray⟩,.string ⟨#[]⟩,.bool false] 33):=⟨_,rfl⟩
  have m5:Mod No w4 w5:=by rw [hw5];exact (Mod.refl No w4).alloc _
  have h55:w5.heap[b5]? = some (.cells #[.string ⟨k.toArray⟩,.string ⟨#[]⟩,.bool false] 33 (0,0)):=by rw [hw5,hb];exact heap_alloc_new w4 _
  have hlx:=HPL.out
  have HT:=zh (rtext_ok (hrd.stay m5) (by have:=textB_len x h2;dsimp only at h2;omega))
  have hP0:=m5.keep HP4.out (fun f=>f)
  have hm5:=HM4.out.trans m5
  have hqb:¬ b5=q:=by have:=lt_of_heap hrd.obj;omega
  have HX5:=zh hw5
  have HBB:=zh hb
  have H55:=zh h55
  have c52:=cell_of (i:=2) h55 rfl
  have HM5:=zh hm5
  have HP5:=zh hP0
  clear hw5 m5 hb hn hm4 hrd h55 hP0 hm5 hlx
  go_upto_region 3 with fail
  rw [<- HX5.out,<- HBB.out]
  go_wp2_with fail
  with_reducible refine HT.out.mono ?_
  clear HT
  rintro e w6 ⟨hm6,⟨s,L',v6,hn,rfl,hrd⟩ | ⟨hn,-⟩⟩
  case inr=>rw [show textB x=textB x++[] by simp,rdText_text _ _ (by omega)] at hn;cases hn
  obtain ⟨rfl,rfl⟩:s=x/\L'=[]:=by
   rw [show textB x=textB x++[] by simp,rdText_text _ _ (by omega)] at hn;cases hn;exact ⟨rfl,rfl⟩
  have h56:=hm6.keep H55.out hqb
  have hP6:=hm6.keep HP5.out (fun e=>hq0 e.symm)
  have cb1:=cell_of (i:=1) h56 rfl
  have fb1:=frozen_of 1 h56
  have hm6':=HM5.out.then hm6 (fun i hi e=>by have:=HQ.out;have:=HZ1.out;omega)
  obtain ⟨w7,hw7⟩:∃ w7,w7=w6.setCell ⟨b5,1,none⟩ (.string ⟨s.toArray⟩):=⟨_,rfl⟩
  have m7:Mod (fun i=>i=b5) w6 w7:=by rw [hw7];exact (Mod.refl (fun i=>i=b5) w6).setCell (fun _=>rfl) _
  have h55:w7.heap[b5]? = some (.cells #[.string ⟨k.toArray⟩,.string ⟨s.toArray⟩,.bool false] 33 (0,0)):=by rw [hw7,heap_setCell h56];rfl
  have hrd:=hrd.keep m7 (fun e=>hqb e.symm) (fun i cur fz s e=>by rw [s,h56] at e;cases e)
  have hP0:=m7.keep hP6 (fun e=>hb5 e.symm)
  have hm5:Mod No w w7:=hm6'.then m7 (fun i hi e=>by have:=HBB.out;have:=HM4.out.size;omega)
  have HX7:=zh hw7
  clear hw7 m7 hn hm6 hP6 hm6' c52
  go_upto_region 5 with fail
  rw [<- HX7.out]
  have HW5:=zh h55
  have hS0:w7.drew.cell? ⟨b5,0,none⟩=some (.string (⟨k.toArray⟩:ByteArray))/\w7.drew.cell? ⟨b5,1,none⟩=some (.string ⟨s.toArray⟩)/\w7.drew.cell? ⟨b5,2,none⟩=some (.bool false):=⟨cell_of (i:=0) h55 rfl,cell_of (i:=1) h55 rfl,cell_of (i:=2) h55 rfl⟩
  obtain ⟨W1,hW1⟩:∃ W1,W1=(((w7.setCell ⟨P0,0,none⟩ (.string (⟨k.toArray⟩:ByteArray))).setCell ⟨P0,1,none⟩ (.string ⟨s.toArray⟩)).setCell ⟨P0,2,none⟩ (.bool false)).drew:=⟨_,rfl⟩
  have hm1:Mod (fun i=>i=P0) w7 W1:=by rw [hW1];exact ((((Mod.refl (fun i=>i=P0) w7).setCell (fun _=>rfl) _).setCell (fun _=>rfl) _).setCell (fun _=>rfl) _).drew
  have hS1:W1.cell? ⟨b5,0,none⟩=some (.string (⟨k.toArray⟩:ByteArray))/\W1.cell? ⟨b5,1,none⟩=some (.string ⟨s.toArray⟩)/\W1.cell? ⟨b5,2,none⟩=some (.bool false):=⟨hm1.cell (cell_of (i:=0) h55 rfl) hb5,hm1.cell (cell_of (i:=1) h55 rfl) hb5,hm1.cell (cell_of (i:=2) h55 rfl) hb5⟩
  have HD0:=rdone_any (hrd.stay (Mod.refl No w7).drew)
  have h1P:W1.heap[P0]? = some (.cells #[.string (⟨k.toArray⟩:ByteArray),.string ⟨s.toArray⟩,.bool false] 33 (0,0)):=by
   rw [hW1]
   show ((((w7.setCell ⟨P0,0,none⟩ (.string (⟨k.toArray⟩:ByteArray))).setCell ⟨P0,1,none⟩ (.string ⟨s.toArray⟩)).setCell ⟨P0,2,none⟩ (.bool false))).heap[P0]? = _
   rw [heap_setCell (heap_setCell (heap_setCell hP0 _) _) _];rfl
  have p0:=cell_of (i:=0) hP0 rfl
  have p1:=cell_of (i:=1) hP0 rfl
  have p2:=cell_of (i:=2) hP0 rfl
  have f0:=frozen_of 0 hP0
  have f1:=frozen_of 1 hP0
  have f2:=frozen_of 2 hP0
  have HDN:=zh (show doneI [] false=0 from rfl)
  rw [HDN.out] at HD0
  have HD0:=zh HD0
  have HW1:=zh hW1
  have HRES:=zh (And.intro h1P (hm5.then hm1 (fun i hi e=>by have:=HPP.out;omega):Mod No w W1))
  clear hm1 h1P hW1 h55 hP0 hb5
  refine wp_region_T (fun w'=>w'.cell? ⟨b5,0,none⟩=some (.string (⟨k.toArray⟩:ByteArray))/\w'.cell? ⟨b5,1,none⟩=some (.string ⟨s.toArray⟩)/\w'.cell? ⟨b5,2,none⟩=some (.bool false)) 99 (by kernel_rfl) ?_
  refine yT 0 (some 19) (.agg #[.string (⟨k.toArray⟩:ByteArray),.string ⟨s.toArray⟩,.bool false]) hS0 ?_ ?_
  ·(intro w' hSw;obtain ⟨s0,s1,s2⟩:=hSw;go_simp)
  simp only [Act.put,yB,yC,yD]
  refine yT 1 (some 20) ?_ hS0 ?_ ?_
  rotate_left
  ·(intro w' hSw;go_simp;try with_reducible rfl)
  simp only [Act.put,yB,yC,yD]
  refine wpAnyT_one 2 rfl (by kernel_rfl) rfl ?_
  intro K hK
  go_simp
  (go_at_call 69;with_reducible refine HD0.out.mono ?_;rintro e w' ⟨rfl,h2⟩;subst h2)
  show K _ _
  refine hK.out _ _ (fun _=>hS0) ?_
  clear hK K
  refine yT 3 (some 22) ?_ hS0 ?_ ?_
  rotate_left
  ·(intro w' hSw;go_simp;try with_reducible rfl)
  simp only [Act.put,yB,yC,yD]
  refine wpAnyT_one 4 rfl (by kernel_rfl) rfl ?_
  intro K hK
  go_simp
  rw [<- HW1.out]
  show K _ _
  refine hK.out _ _ (fun _=>hS1) ?_
  clear hK K
  refine yT 5 (some 3) ?_ hS1 ?_ ?_
  rotate_left
  ·(intro w' hSw;go_simp;try with_reducible rfl)
  simp only [Act.put,yB,yC,yD]
  refine wpAnyT_done (by kernel_rfl) ?_ _
  clear hS0 HD0
  have h1:=HRES.out.1
  have r0:=cell_of (i:=0) h1 rfl
  have r1:=cell_of (i:=1) h1 rfl
  have r2:=cell_of (i:=2) h1 rfl
  clear h1
  go_wp2_with fail
  exact bodyPost_ret (v:=.tuple #[.agg #[.string (⟨k.toArray⟩:ByteArray),.string ⟨s.toArray⟩,.bool false],.bool true]) (by simp [results,results23,go_sem,r0,r1,r2]) rfl (fin hR ⟨rfl,HRES.out.2⟩)
end Go.Proofs.YtmppeipgjcjdkaaGreatDoor
