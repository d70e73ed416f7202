/-
  Layers 0 to 14: helps of the laws of indexes. No statement is proved here; no condition.
-/
import Derived.Test.YtgiigemfbebcgaaGreatDoorT14
import Derived.Test.YtgiigemfbebcgaaGreatDoorT30
import Derived.Test.YtgiigemfbebcgaaGreatDoorT09
import Derived.Test.YtgiigemfbebcgaaGreatDoorT01
import Derived.Test.YtgiigemfbebcgaaGreatDoorT16
import Derived.Test.YtgiigemfbebcgaaGreatDoorT25
import Derived.Test.YtgiigemfbebcgaaGreatDoorT07
import Derived.Test.YtgiigemfbebcgaaGreatDoorT02
import Derived.Sort.OwnSorted
namespace Go.Proofs.YtgiigemfbebcgaaGreatDoor
open _root_.Go.Proofs.Tryz
open Go.RowKit Go.Sort Go.Lib
theorem compact_le (zs:List (List UInt8)):(Lib.compact zs).length<=zs.length:=by
 unfold Lib.compact compactUpTo
 rw [List.length_map]
 exact Nat.le_trans (List.length_filter_le _ _) (by rw [List.length_range];exact Nat.le_refl _)
set_option maxRecDepth 100000 in
set_option maxHeartbeats 16000000 in
theorem names_any (xs:List RwX) (hl:xs.length<=1000000) (v:Value) (w:World) (hx:∀ x ∈ xs,RwAt w x) (hv:Sl w No 46 v xs.length (xs.flatMap RwX.cells)) :
  Calls prog 19 #[v] w fun e w'=>∃ (v':Value) (out:List (List UInt8)),e=.returned v'/\Sl w' No 9 v' out.length (strs out)/\Asc out/\(∀ y,y ∈ out ↔ y ∈ xs.map (fun x=>x.r.name))/\Mod No w w':=by
 refine calls_hide fun R hR=>?_
 have HX:=zh hx
 obtain ⟨va,vc,rfl⟩:=hv.len
 obtain ⟨n,hn⟩:∃ n,n=xs.length:=⟨_,rfl⟩
 rw [<- hn] at hl ⊢
 have HN:=zh hn
 have HV:=zh (show Sl w No 46 (.slice va n vc) n (xs.flatMap RwX.cells) by rw [hn];exact hv)
 obtain ⟨i0,hi0,hz0,hz1,hz2⟩:=info_parts info_str
 have HI:=zh (And.intro hi0 (And.intro hz0 (And.intro hz1 hz2)))
 clear hi0 hz0 hz1 hz2 hx hv hn
 go_enter func19,ntmps19
 go_wp2_with fail
 go_loopw [3,8] (fun q3 q8 wr=>∃ (k:Nat) (v:Value),k<=n/\q8=.int .i64 (k:Int)/\q3=v/\wr.ownsRow w.heap.size 9 1 v k (strs ((xs.take k).map (fun x=>x.r.name)))/\Mod No w wr) (fun _ q _=>n - (intOf q).toNat)
 case atStart=>exact ⟨0,.slice none 0 0,by omega,rfl,rfl,⟨rfl,.inl ⟨rfl,rfl⟩⟩,Mod.refl _ _⟩
 case round =>
  obtain ⟨k,v,hk,rfl,rfl,hown,hm⟩:=hrel
  have HM:=zh hm
  have HO:=zh hown
  have hk0:(0:Int)<=(k:Int):=Int.natCast_nonneg _
  obtain ⟨sa,sc,hsv⟩:=own_len hown
  subst hsv
  clear hm hown
  by_cases hlt:k < n
  ·have hk1:(k:Int) < (n:Int):=by omega
   have hkl:k < xs.length:=by rw [<- HN.out];exact hlt
   obtain ⟨b,o,c,hvs,_⟩:=HV.out.shape (by omega)
   have hva:va=some ⟨b,o,none⟩:=by cases hvs;rfl
   subst hva
   have HRG:=zh (HM.out.rangeAt (Sl.atM (fun x hx=>RwX.cells_length x (HX.out x hx).ok.sum) HV.out hkl) (fun f=>f))
   have HTK:=zh (show strs ((xs.take (k+1)).map (fun x=>x.r.name))=strs ((xs.take k).map (fun x=>x.r.name))++[strV xs[k].r.name] by
    rw [List.take_succ_eq_append_getElem hkl,List.map_append,strs_append];rfl)
   have HXK:=zh ((HX.out _ (List.getElem_mem hkl)).ok.keep HM.out (Apart.no _ _))
   generalize xs[k]=y at *
   have HL39:=zh (RwX.cells_length y HXK.out.sum)
   obtain ⟨cs,hcs⟩:∃ cs,cs=RwX.cells y:=⟨_,rfl⟩
   rw [<- hcs] at HRG HL39
   have HCS:=zh hcs
   clear hcs hvs
   go_upto_region 5 with (first | (refine wpList_load_mid rfl 46 _ rfl b (o+k*39) rfl cs _ HRG.out underlying46 rfl (by rw [HL39.out];exact row_info) ?_) | (refine wpList_store_row rfl 46 _ _ rfl wr.heap.size cs.toArray rfl rfl 46 _ (heap_alloc_new wr _) (by rw [List.size_toArray,HL39.out];exact row_info) (by show _=cs.length;rw [HL39.out];rfl) (by rw [HCS.out];exact rows_one HXK.out) ?_))
   obtain ⟨gb,hgb⟩:∃ g,g=wr.heap.size:=⟨_,rfl⟩
   rw [<- hgb]
   generalize hw0:World.setRow _ gb cs.toArray=w0
   have HM0:=zh (show Mod No wr w0 by rw [<- hw0,hgb];exact ((Mod.refl No wr).alloc _).setRow (fun h=>absurd h (by omega)) _)
   have hga:w0.heap[gb]? = some (.cells cs.toArray 46 (0,0)):=by rw [<- hw0,hgb];exact setRow_heap _ _ _ _ _ _ (heap_alloc_new wr _)
   have hc0:=cell_ofA hga (i:=0) (v:=strV y.r.name) (by rw [List.getElem?_toArray,HCS.out];rfl)
   have HO0:=zh (own_keepM HO.out HM0.out (fun _ _ f=>f))
   clear hgb hw0 hga
   unfold strV at hc0 HTK
   generalize (⟨y.r.name.toArray⟩:ByteArray)=ZN at *
   obtain ⟨hi0,hz0,hz1,hz2⟩:=HI.out
   go_wp2_with (at_builtin;refine app_sl _ rfl _ _ 38 rfl w.heap.size 9 i0 (.string ⟨#[]⟩) 1 16 underlying38 hi0 hz0 hz1 hz2 rfl (by decide) _ k _ rfl (own_keepM HO0.out ((Mod.refl No w0).alloc _) (fun _ _ f=>f)) No 9 (.slice (some ⟨w0.heap.size,0,none⟩) 1 1) 1 [.string ZN] rfl (.inr ⟨w0.heap.size,0,1,_,_,rfl,Nat.le_refl _,by unfold maxLen;omega,fun f=>f,heap_alloc_new w0 _,by simp,fun i hi=>by simp⟩) rfl (fun u hu=>by rw [List.mem_singleton.1 hu];rfl) (by unfold maxLen;omega) (by omega) (Nat.le_trans HM.out.size (Nat.le_trans HM0.out.size ((Mod.refl No w0).alloc _).size)) ?_;intro v7 w7 hown7 hg7 _;have HO7:=zh hown7;have HG7:=zh hg7;clear hown7 hg7)
   have HM7:=zh (show Mod No w w7 from ((HM.out.trans HM0.out).trans ((Mod.refl No w0).alloc (.cells #[.string ZN] 9))).then (Mod.of_grown (S:=fun q=>w.heap.size<=q) HG7.out (fun q e _=>own_base HO0.out e)) (fun q hq e=>Nat.lt_irrefl _ (Nat.lt_of_lt_of_le hq e)))
   exact ⟨⟨k+1,v7,by omega,rfl,rfl,by rw [HTK.out];exact HO7.out,HM7.out⟩,by show n - ((k:Int)+1).toNat < n - (k:Int).toNat;omega⟩
  ·obtain rfl:k=n:=by omega
   have hk1:¬ ((k:Int) < (k:Int)):=by omega
   have hml:xs.take k=xs:=List.take_of_length_le (by rw [HN.out];exact Nat.le_refl _)
   rw [hml] at HO
   clear hml
   rcases Nat.eq_zero_or_pos k with rfl | hpos
   ·have HXN:=zh (show xs=[] from List.length_eq_zero_iff.1 HN.out.symm)
    have HS:=zh (Tryz.slices_Sort_string_none sa sc wr)
    have HC:=zh (Tryz.slices_Compact_string_empty sa sc wr)
    go_wp2_with fail
    with_reducible refine HS.out.mono ?_
    rintro e w9 ⟨rfl,rfl⟩
    go_wp2_with fail
    with_reducible refine HC.out.mono ?_
    rintro e w8 ⟨rfl,rfl⟩
    go_wp2_with fail
    exact fin hR ⟨_,[],rfl,by have h:=Sl.of_own (X:=No) HO.out (fun _ _ f=>f);rw [HXN.out] at h;exact h,List.Pairwise.nil,by rw [HXN.out];simp,HM.out⟩
   ·obtain ⟨ss,hss⟩:∃ ss,ss=xs.map (fun x=>x.r.name):=⟨_,rfl⟩
    have hlen:ss.length=k:=by rw [hss,List.length_map,HN.out]
    have hown:wr.ownsRow w.heap.size 9 1 (.slice sa k sc) k (strs ss):=by rw [hss];exact HO.out
    have HSS:=zh hss
    obtain ⟨-,⟨-,h0⟩ | ⟨g,cap,cur,hvv,hbase,hb,h1,h2,h3,h4⟩⟩:=hown
    ·omega
    have hsa:sa=some ⟨g,0,none⟩:=by cases hvv;rfl
    have hcap:sc=cap:=by cases hvv;rfl
    subst hsa
    subst hcap
    have hS:=Tryz.slices_Sort_string g 0 sc ss wr (holds_of_block hb (by rw [hlen];rw [Nat.mul_one] at h4;exact h4)) (lt_of_heap hb) (by omega)
    obtain ⟨zs,hzs⟩:∃ zs,zs=ss.mergeSort fun x y=>decide (x<=y):=⟨_,rfl⟩
    rw [<- hzs] at hS
    have hzl:zs.length=ss.length:=by rw [hzs];simp
    obtain ⟨hasc,hmem⟩:=names_sorted ss
    rw [<- hzs] at hasc hmem
    have HASC:=zh hasc
    have HMEM:=zh hmem
    have HW2:=zh (show ∀ w2,(∃ n os,w2=grow (putRow encStr (Sort.ahead wr n) g 0 zs.toArray) os)->w2.ownsRow w.heap.size 9 1 (.slice (some ⟨g,0,none⟩) k sc) k (zs.map encStr)/\Mod No w w2 from fun w2 ⟨n,os,hw⟩=>by
     subst hw
     refine ⟨by rw [<- hlen];exact ownsRow_sorted hzl hbase hb (by omega) h2 (by omega),HM.out.then (Mod.of_grown (S:=fun q=>w.heap.size<=q) (grownBy_sorted _) (fun q e _=>by cases e;exact hbase)) (fun q hq e=>Nat.lt_irrefl _ (Nat.lt_of_lt_of_le hq e))⟩)
    have HZL:=zh (hzl.trans hlen)
    rw [hlen] at hS
    have HS:=zh hS
    clear hS hss hzs hzl hasc hmem hvv hb h1 h2 h3 h4 hbase hlen
    go_wp2_with fail
    with_reducible refine HS.out.mono ?_
    rintro e w2 ⟨rfl,hw2⟩
    obtain ⟨hown2,hm2⟩:=HW2.out w2 hw2
    have HM2:=zh hm2
    clear hw2 HW2 HS hm2
    obtain ⟨-,⟨-,h0⟩ | ⟨g',cap',cur,hvv,hbase,hb,h1,h2,h3,h4⟩⟩:=hown2
    ·omega
    have hg:g=g':=by cases hvv;rfl
    have hcap:sc=cap':=by cases hvv;rfl
    subst hg
    subst hcap
    have hC:=Tryz.slices_Compact_string g 0 sc zs w2 (holds_of_block hb (by rw [HZL.out];rw [Nat.mul_one] at h4;exact h4)) (by rw [HZL.out];omega) (by rw [HZL.out];omega)
    have hcl:=compact_le zs
    obtain ⟨cp,hcp⟩:∃ cp,cp=Lib.compact zs:=⟨_,rfl⟩
    rw [<- hcp] at hC HASC HMEM hcl
    have HW3:=zh (show ∀ w3,(∃ q,w3=putRow encStr (Sort.ahead w2 q) g 0 (cp++List.replicate (zs.length - cp.length) []).toArray)->Sl w3 No 9 (.slice (some ⟨g,0,none⟩) cp.length sc) cp.length (strs cp)/\Mod No w w3 from fun w3 ⟨q,hw⟩=>by
     replace hw:=hw.trans (grow_empty _).symm
     subst hw
     have hzk:=HZL.out
     have ht:(cp++List.replicate (zs.length - cp.length) []).length=zs.length:=by rw [List.length_append,List.length_replicate];omega
     have ho:=ownsRow_sorted (os:=#[]) (n:=q) ht hbase hb (by omega) h2 (by omega)
     refine ⟨?_,HM2.out.then (Mod.of_grown (S:=fun q=>w.heap.size<=q) (grownBy_sorted _) (fun q e _=>by cases e;exact hbase)) (fun q hq e=>Nat.lt_irrefl _ (Nat.lt_of_lt_of_le hq e))⟩
     have h9:=(Sl.of_own (X:=No) ho (fun _ _ f=>f)).takeN (m:=cp.length) (by rw [List.length_map,ht]) hcl
     rw [List.map_append,List.take_left' (by rw [List.length_map])] at h9
     exact h9)
    rw [HZL.out] at hC
    have HC:=zh hC
    clear hC hcp hvv hb h1 h2 h3 h4 hbase hcl
    go_wp2_with fail
    with_reducible refine HC.out.mono ?_
    rintro e w3 ⟨rfl,hw3⟩
    obtain ⟨hs3,hm3⟩:=HW3.out w3 (by rw [HZL.out];exact hw3)
    have HS3:=zh hs3
    have HM3:=zh hm3
    clear hw3 HW3 HC hs3 hm3
    go_wp2_with fail
    exact fin hR ⟨_,cp,rfl,HS3.out,HASC.out,by rw [<- HSS.out];exact HMEM.out,HM3.out⟩
end Go.Proofs.YtgiigemfbebcgaaGreatDoor
namespace Go.Proofs.YtgiigemfbebcgaaGreatDoor
open _root_.Go.Proofs.Tryz
open Go.RowKit
set_option maxRecDepth 100000 in
theorem lit219 (t:Array Value) (h:t.size=219):∃ c:Nat->Value,t=#[c 0,c 1,c 2,c 3,c 4,c 5,c 6,c 7,c 8,c 9,c 10,c 11,c 12,c 13,c 14,c 15,c 16,c 17,c 18,c 19,c 20,c 21,c 22,c 23,c 24,c 25,c 26,c 27,c 28,c 29,c 30,c 31,c 32,c 33,c 34,c 35,c 36,c 37,c 38,c 39,c 40,c 41,c 42,c 43,c 44,c 45,c 46,c 47,c 48,c 49,c 50,c 51,c 52,c 53,c 54,c 55,c 56,c 57,c 58,c 59,c 60,c 61,c 62,c 63,c 64,c 65,c 66,c 67,c 68,c 69,c 70,c 71,c 72,c 73,c 74,c 75,c 76,c 77,c 78,c 79,c 80,c 81,c 82,c 83,c 84,c 85,c 86,c 87,c 88,c 89,c 90,c 91,c 92,c 93,c 94,c 95,c 96,c 97,c 98,c 99,c 100,c 101,c 102,c 103,c 104,c 105,c 106,c 107,c 108,c 109,c 110,c 111,c 112,c 113,c 114,c 115,c 116,c 117,c 118,c 119,c 120,c 121,c 122,c 123,c 124,c 125,c 126,c 127,c 128,c 129,c 130,c 131,c 132,c 133,c 134,c 135,c 136,c 137,c 138,c 139,c 140,c 141,c 142,c 143,c 144,c 145,c 146,c 147,c 148,c 149,c 150,c 151,c 152,c 153,c 154,c 155,c 156,c 157,c 158,c 159,c 160,c 161,c 162,c 163,c 164,c 165,c 166,c 167,c 168,c 169,c 170,c 171,c 172,c 173,c 174,c 175,c 176,c 177,c 178,c 179,c 180,c 181,c 182,c 183,c 184,c 185,c 186,c 187,c 188,c 189,c 190,c 191,c 192,c 193,c 194,c 195,c 196,c 197,c 198,c 199,c 200,c 201,c 202,c 203,c 204,c 205,c 206,c 207,c 208,c 209,c 210,c 211,c 212,c 213,c 214,c 215,c 216,c 217,c 218]/\∀ i,t.getD i undef=c i:=by
 refine ⟨fun i=>t.getD i undef,?_,fun _=>rfl⟩
 have h1:=arr_lits t
 rw [h] at h1
 exact h1.trans (by kernel_rfl)
noncomputable def bodyMd:Code:=Tryz.f9.body.getD .skip
noncomputable def blkMd2:Code:=(blockAt 2 bodyMd).getD .skip
def lieS (S:List UInt8) (k:Nat):List UInt8:=if k % 12=1 then S.set 3 (S.getD 3 0 ^^^ 4) else if k % 12=4 then sumF [] else S
def lieN (n:Nat) (k:Nat):Int:=if k % 12=2 then n+9 else if k % 12=3 then (if n < 9 then 0 else n - 9) else if k % 12=4 then 0 else n
theorem smK_lie (r:SRow):smK r=lieS (sumF (archK r)) r.lie:=rfl
theorem szK_lie (r:SRow):szK r=lieN (archK r).length r.lie:=rfl
theorem lieS_length {S:List UInt8} (h:S.length=32) (k:Nat):(lieS S k).length=32:=by
 unfold lieS
 split
 ·rw [List.length_set,h]
 ·split
  ·exact sumF_length _
  ·exact h
theorem xor4_all:∀ y:Fin 256,bits .xor .u8 (y.1:Int) 4=(((UInt8.ofNat y.1) ^^^ 4).toNat:Int):=by decide +kernel
theorem xor4 (c:UInt8):bits .xor .u8 (c.toNat:Int) 4=((c ^^^ 4).toNat:Int):=by
 have h:=xor4_all ⟨c.toNat,UInt8.toNat_lt c⟩
 dsimp only at h
 rw [h]
 congr 3
 simp
theorem row_sum_get {x:RwX} (h:x.r.sum.length=32):(RwX.cells x)[8]? = some (.int .u8 ((x.r.sum.getD 3 0).toNat:Int)):=by
 obtain ⟨⟨nm,⟨a,b,c,pr⟩,S,n,nds⟩,pv,nv⟩:=x
 obtain ⟨s0,s1,s2,s3,s4,s5,s6,s7,s8,s9,s10,s11,s12,s13,s14,s15,s16,s17,s18,s19,s20,s21,s22,s23,s24,s25,s26,s27,s28,s29,s30,s31,rfl⟩:=list32 h
 rfl
theorem row_sum_set {x:RwX} (h:x.r.sum.length=32) (c:UInt8):(RwX.cells x).toArray.setIfInBounds 8 (.int .u8 (c.toNat:Int))=(RwX.cells ⟨{ x.r with sum:=x.r.sum.set 3 c },x.pv,x.nv⟩).toArray:=by
 obtain ⟨⟨nm,⟨a,b,c2,pr⟩,S,n,nds⟩,pv,nv⟩:=x
 obtain ⟨s0,s1,s2,s3,s4,s5,s6,s7,s8,s9,s10,s11,s12,s13,s14,s15,s16,s17,s18,s19,s20,s21,s22,s23,s24,s25,s26,s27,s28,s29,s30,s31,rfl⟩:=list32 h
 rfl
theorem row_size_get {x:RwX} (h:x.r.sum.length=32):(RwX.cells x)[37]? = some (.int .i64 x.r.size):=by
 obtain ⟨⟨nm,⟨a,b,c,pr⟩,S,n,nds⟩,pv,nv⟩:=x
 obtain ⟨s0,s1,s2,s3,s4,s5,s6,s7,s8,s9,s10,s11,s12,s13,s14,s15,s16,s17,s18,s19,s20,s21,s22,s23,s24,s25,s26,s27,s28,s29,s30,s31,rfl⟩:=list32 h
 rfl
theorem row_size_set {x:RwX} (h:x.r.sum.length=32) (n:Int):(RwX.cells x).toArray.setIfInBounds 37 (.int .i64 n)=(RwX.cells ⟨{ x.r with size:=n },x.pv,x.nv⟩).toArray:=by
 obtain ⟨⟨nm,⟨a,b,c,pr⟩,S,n,nds⟩,pv,nv⟩:=x
 obtain ⟨s0,s1,s2,s3,s4,s5,s6,s7,s8,s9,s10,s11,s12,s13,s14,s15,s16,s17,s18,s19,s20,s21,s22,s23,s24,s25,s26,s27,s28,s29,s30,s31,rfl⟩:=list32 h
 rfl
def putL:Array Value->Nat->List Value->Array Value
 | cur,_,[]=>cur
 | cur,o,v :: vs=>putL (cur.setIfInBounds o v) (o+1) vs
theorem heap_setCells {b:Nat} {e:TypeId} {fz:Nat × Nat}:∀ (vs:List Value) (o:Nat) (w:World) (cur:Array Value),w.heap[b]? = some (.cells cur e fz)->(w.setCells b o vs).heap[b]? = some (.cells (putL cur o vs) e fz)
 | [],_,_,_,h=>h
 | v :: vs,o,_,_,h=>heap_setCells vs (o+1) _ _ (heap_setCell h v)
theorem Mod.setCells {S:Nat->Prop} {a:World} (b:Nat) (hb:S b):∀ (vs:List Value) (o:Nat) (w:World),Mod S a w->Mod S a (w.setCells b o vs)
 | [],_,_,h=>h
 | v :: vs,o,_,h=>Mod.setCells b hb vs (o+1) _ (h.setCell (fun _=>hb) v)
theorem putL_mid:∀ (D B A C:List Value),D.length=B.length->putL (A++(B++C)).toArray A.length D=(A++(D++C)).toArray
 | [],[],_,_,_=>rfl
 | d :: D,b :: B,A,C,h=>by
  have h1:=putL_mid D B (A++[d]) C (by simpa using h)
  rw [List.length_append,List.length_singleton] at h1
  rw [putL,List.setIfInBounds_toArray,List.set_append_right _ _ (Nat.le_refl _),Nat.sub_self]
  simp only [List.cons_append,List.set_cons_zero]
  simpa using h1
theorem row_sum_put {x:RwX} (h:x.r.sum.length=32) {S:List UInt8} (hS:S.length=32):putL (RwX.cells x).toArray 5 (bv S)=(RwX.cells ⟨{ x.r with sum:=S },x.pv,x.nv⟩).toArray :=
 putL_mid (bv S) (bv x.r.sum) (strV x.r.name :: verCs x.r.v x.pv) [.int .i64 x.r.size,x.nv] (by rw [bv_length,bv_length,h,hS])
theorem twelve_cases (k:Nat):k % 12=1\/k % 12=2\/k % 12=3\/k % 12=4\/(k % 12 ≠ 1/\k % 12 ≠ 2/\k % 12 ≠ 3/\k % 12 ≠ 4):=by omega
set_option maxRecDepth 100000 in
set_option maxHeartbeats 16000000 in
theorem lie_part (z0 z1 z2 z3 z4 z5 z6 z7 z12 z215 z216 z217 z218:Value) (r:SRow) (x:RwX) (n rb:Nat) (a:Act) (w:World) (hS:x.r.sum.length=32) (hn:x.r.size=(n:Int)) (hn2:n<=1000000) (hrb:w.heap[rb]? = some (.cells (RwX.cells x).toArray 46 (0,0)))
  (hF:Fr 219 [(13,.pointer (some ⟨rb,0,none⟩)),(85,.int .u8 ((r.lie % 12:Nat):Int)),(0,z0),(1,z1),(2,z2),(3,z3),(4,z4),(5,z5),(6,z6),(7,z7),(12,z12),(215,z215),(216,z216),(217,z217),(218,z218)] a) :
  Code.wp prog blkMd2 (Exit.then (fun a' w'=>Fr 219 [(13,.pointer (some ⟨rb,0,none⟩)),(0,z0),(1,z1),(2,z2),(3,z3),(4,z4),(5,z5),(6,z6),(7,z7),(12,z12),(215,z215),(216,z216),(217,z217),(218,z218)] a'/\w'.heap[rb]? = some (.cells (RwX.cells ⟨{ x.r with sum:=lieS x.r.sum r.lie,size:=lieN n r.lie },x.pv,x.nv⟩).toArray 46 (0,0))/\Mod (fun q=>q=rb) w w') Nope) a w:=by
 refine wp_part fun J K' hJ hK=>?_
 have HJ:=zh hJ
 clear hJ
 obtain ⟨ts,ds⟩:=a
 obtain ⟨hsz,hds,hs13,hs85,hs0,hs1,hs2,hs3,hs4,hs5,hs6,hs7,hs12,hs215,hs216,hs217,hs218,-⟩:=hF
 dsimp only at hsz hds hs13 hs85 hs0 hs1 hs2 hs3 hs4 hs5 hs6 hs7 hs12 hs215 hs216 hs217 hs218
 subst hds
 obtain ⟨c,rfl,hc⟩:=lit219 ts hsz
 rw [hc] at hs13
 rw [hc] at hs85
 rw [hc] at hs0
 rw [hc] at hs1
 rw [hc] at hs2
 rw [hc] at hs3
 rw [hc] at hs4
 rw [hc] at hs5
 rw [hc] at hs6
 rw [hc] at hs7
 rw [hc] at hs12
 rw [hc] at hs215
 rw [hc] at hs216
 rw [hc] at hs217
 rw [hc] at hs218
 simp only [hs13,hs85,hs0,hs1,hs2,hs3,hs4,hs5,hs6,hs7,hs12,hs215,hs216,hs217,hs218]
 clear hc hsz hs13 hs85 hs0 hs1 hs2 hs3 hs4 hs5 hs6 hs7 hs12 hs215 hs216 hs217 hs218
 have HRB:=zh hrb
 have HS:=zh hS
 have HLS:=zh (show lieS x.r.sum r.lie=if r.lie % 12=1 then x.r.sum.set 3 (x.r.sum.getD 3 0 ^^^ 4) else if r.lie % 12=4 then sumF [] else x.r.sum from rfl)
 have HLN:=zh (show lieN n r.lie=if r.lie % 12=2 then (n:Int)+9 else if r.lie % 12=3 then (if n < 9 then 0 else (n:Int) - 9) else if r.lie % 12=4 then 0 else (n:Int) from rfl)
 have HN:=zh hn
 obtain ⟨c3,hc3⟩:∃ c3,c3=x.r.sum.getD 3 0:=⟨_,rfl⟩
 have c8:=cell_of hrb (row_sum_get hS)
 have c37:=cell_of hrb (row_size_get hS)
 rw [hn] at c37
 rw [<- hc3] at c8 HLS
 have f8:=frozen_of 8 hrb
 have f37:=frozen_of 37 hrb
 have HX4:=zh (xor4 c3)
 have HXE:=zh (show x=⟨{ x.r with sum:=x.r.sum,size:=(n:Int) },x.pv,x.nv⟩ from by rw [<- hn])
 have HB8:=zh (show (w.setCell ⟨rb,8,none⟩ (.int .u8 ((c3 ^^^ 4).toNat:Int))).heap[rb]? = some (.cells (RwX.cells ⟨{ x.r with sum:=x.r.sum.set 3 (c3 ^^^ 4),size:=(n:Int) },x.pv,x.nv⟩).toArray 46 (0,0)) by
  rw [heap_setCell hrb (i:=8),row_sum_set hS,<- hn])
 have HB37:=zh (show ∀ m:Int,(w.setCell ⟨rb,37,none⟩ (.int .i64 m)).heap[rb]? = some (.cells (RwX.cells ⟨{ x.r with sum:=x.r.sum,size:=m },x.pv,x.nv⟩).toArray 46 (0,0)) from fun m=>by
  rw [heap_setCell hrb (i:=37),row_size_set hS])
 have HM8:=zh (fun v=>Mod.cell1 w rb 8 v)
 have HM37:=zh (fun v=>Mod.cell1 w rb 37 v)
 have h12:=twelve_cases r.lie
 have HPUT:=zh (fun (m:Int) (S:List UInt8) (h:S.length=32)=>row_sum_put (x:=⟨{ x.r with sum:=x.r.sum,size:=m },x.pv,x.nv⟩) hS h)
 clear hrb hS hn hc3
 generalize r.lie % 12=kk at *
 conv=>arg 2;whnf
 rcases h12 with rfl | rfl | rfl | rfl | ⟨h1,h2,h3,h4⟩
 ·have hx4:=HX4.out
  go_wp2_with fail
  refine Met.intro (HJ.out _ _ ⟨⟨rfl,rfl,rfl,rfl,rfl,rfl,rfl,rfl,rfl,rfl,rfl,rfl,rfl,rfl,rfl,rfl,trivial⟩,?_,?_⟩)
  ·have h9:=HB8.out
   rw [UInt8.toNat_xor] at h9
   rw [HLS.out,HLN.out];exact h9
  ·exact HM8.out _
 ·have hwn:IntKind.i64.wrap ((n:Int)+9)=(n:Int)+9:=by rw [IntKind.wrap_i64];omega
  go_wp2_with fail
  refine Met.intro (HJ.out _ _ ⟨⟨rfl,rfl,rfl,rfl,rfl,rfl,rfl,rfl,rfl,rfl,rfl,rfl,rfl,rfl,rfl,rfl,trivial⟩,?_,?_⟩)
  ·rw [HLS.out,HLN.out];exact HB37.out _
  ·exact HM37.out _
 ·have hwn:IntKind.i64.wrap ((n:Int) - 9)=(n:Int) - 9:=by rw [IntKind.wrap_i64];omega
  by_cases h9:n < 9
  ·have hmx:max ((n:Int) - 9) 0=0:=by omega
   have hle:¬ (0:Int)<=(n:Int) - 9:=by omega
   have HL3:=zh HLN.out
   rw [if_pos h9] at HL3
   go_wp2_with fail
   refine Met.intro (HJ.out _ _ ⟨⟨rfl,rfl,rfl,rfl,rfl,rfl,rfl,rfl,rfl,rfl,rfl,rfl,rfl,rfl,rfl,rfl,trivial⟩,?_,?_⟩)
   ·rw [HLS.out,HL3.out];exact HB37.out _
   ·exact HM37.out _
  ·have hmx:max ((n:Int) - 9) 0=(n:Int) - 9:=by omega
   have HL3:=zh HLN.out
   rw [if_neg h9] at HL3
   go_wp2_with fail
   refine Met.intro (HJ.out _ _ ⟨⟨rfl,rfl,rfl,rfl,rfl,rfl,rfl,rfl,rfl,rfl,rfl,rfl,rfl,rfl,rfl,rfl,trivial⟩,?_,?_⟩)
   ·rw [HLS.out,HL3.out];exact HB37.out _
   ·exact HM37.out _
 ·go_wp2_with fail
  with_reducible refine (refof_none _).mono ?_
  rintro e w2 ⟨rfl,hm2⟩
  have hr2:=hm2.keep HRB.out (fun f=>f)
  have HM2:=zh hm2
  have HK:=zh (sumF_length [])
  generalize sumF []=KS at *
  have e37:=cell_of hr2 (row_size_get HS.out)
  have g37:=frozen_of 37 hr2
  obtain ⟨wS,hwS⟩:∃ y,y=w2.setCell ⟨rb,37,none⟩ (.int .i64 0):=⟨_,rfl⟩
  have hS3:wS.heap[rb]? = some (.cells (RwX.cells ⟨{ x.r with sum:=x.r.sum,size:=0 },x.pv,x.nv⟩).toArray 46 (0,0)):=by rw [hwS,heap_setCell hr2 (i:=37),row_size_set HS.out]
  have HS3:=zh hS3
  have HMS:=zh (show Mod (fun q=>q=rb) w wS by rw [hwS];exact Mod.setCell (S:=fun q=>q=rb) (p:=⟨rb,37,none⟩) (hm2.weaken (fun _ _ f=>f.elim)) (fun _=>rfl) _)
  have HTH:=zh (show wS.there rb 5 (bv KS).toArray.size from fun j hj=>by
   rw [List.size_toArray,bv_length,HK.out] at hj
   have hl:=RwX.cells_length ⟨{ x.r with sum:=x.r.sum,size:=0 },x.pv,x.nv⟩ HS.out
   rw [cell_of hS3 (List.getElem?_eq_getElem (by omega))]
   exact ⟨rfl,frozen_of _ hS3⟩)
  have HWS:=zh hwS
  clear hm2 hr2 hS3 hwS c8 c37 f8 f37
  go_wp2_with (first | (rw [<- HWS.out];refine wpList_store_mid rfl 43 _ _ rfl rb 5 (bv KS).toArray rfl rfl HTH.out (key_size HK.out) (by simp [bv,Value.oneCell']) ?_))
  refine Met.intro (HJ.out _ _ ⟨⟨rfl,rfl,rfl,rfl,rfl,rfl,rfl,rfl,rfl,rfl,rfl,rfl,rfl,rfl,rfl,rfl,trivial⟩,?_,?_⟩)
  ·rw [HLS.out,HLN.out]
   have h9:=heap_setCells (bv KS) 5 wS _ HS3.out
   rw [HPUT.out 0 KS HK.out] at h9
   exact h9
  ·exact Mod.setCells (S:=fun q=>q=rb) rb rfl _ _ _ HMS.out
 ·have q1:((kk:Int) == 1)=false:=by simpa using (by omega:¬ (kk:Int)=1)
  have q2:((kk:Int) == 2)=false:=by simpa using (by omega:¬ (kk:Int)=2)
  have q3:((kk:Int) == 3)=false:=by simpa using (by omega:¬ (kk:Int)=3)
  have q4:((kk:Int) == 4)=false:=by simpa using (by omega:¬ (kk:Int)=4)
  go_wp2_with fail
  refine Met.intro (HJ.out _ _ ⟨⟨rfl,rfl,rfl,rfl,rfl,rfl,rfl,rfl,rfl,rfl,rfl,rfl,rfl,rfl,rfl,rfl,trivial⟩,?_,Mod.refl _ _⟩)
  rw [HLS.out,HLN.out,if_neg h1,if_neg h4,if_neg h2,if_neg h3,if_neg h4,<- HXE.out]
  exact HRB.out
def FindR (xs:List RwX) (name:List UInt8) (v:Ver) (e:Ending):Prop:=match atL (xs.map RwX.r) name v with
 | none=>e=.returned (.tuple #[.agg (RwX.cells ⟨zeroRw,.slice none 0 0,.slice none 0 0⟩).toArray,.bool false])
 | some k=>∃ x,xs[k]? = some x/\e=.returned (.tuple #[.agg (RwX.cells x).toArray,.bool true])
theorem atL_hit {l:List Rw} {name:List UInt8} {v:Ver} {k:Nat} (hk:k < l.length) (hno:∀ i (hi:i < l.length),i < k->¬ (l[i].name=name/\verC l[i].v v=0)) (h:l[k].name=name/\verC l[k].v v=0):atL l name v=some k:=by
 unfold atL
 rw [List.findIdx?_eq_some_iff_getElem]
 refine ⟨hk,by simp [h.1,h.2],fun j hj=>?_⟩
 have:=hno j (by omega) hj
 simpa using this
theorem atL_none {l:List Rw} {name:List UInt8} {v:Ver} (hno:∀ i (hi:i < l.length),¬ (l[i].name=name/\verC l[i].v v=0)):atL l name v=none:=by
 unfold atL
 rw [List.findIdx?_eq_none_iff]
 intro x hx
 obtain ⟨i,hi,rfl⟩:=List.getElem_of_mem hx
 have:=hno i hi
 simpa using this
set_option maxRecDepth 100000 in
set_option maxHeartbeats 8000000 in
theorem reffind_sv (xs:List RwX) (hx:xs.length<=1000000) (name:List UInt8) (v:Ver) (pv:Value) (rv:Value) (w:World) (hok:∀ x ∈ xs,RwOk w x) (hv:Small v) (hpv:SvX w No pv v.pre.length (strs v.pre))
  (hrv:Sl w No 46 rv xs.length (xs.flatMap RwX.cells)) :
  Calls prog 16 #[rv,strV name,verV v pv] w fun e w'=>FindR xs name v e/\Mod No w w':=by
 refine calls_hide fun R hR=>?_
 obtain ⟨ra,rc,rfl⟩:=hrv.len
 obtain ⟨qa,qc,rfl⟩:=hpv.len
 have HOK:=zh hok
 have HRV:=zh hrv
 have HPV:=zh hpv
 have HSV:=zh hv
 have HHIT:=zh (fun k (hk:k < (xs.map RwX.r).length) h1 h2=>atL_hit (l:=xs.map RwX.r) (name:=name) (v:=v) hk h1 h2)
 have HNON:=zh (fun h1=>atL_none (l:=xs.map RwX.r) (name:=name) (v:=v) h1)
 have HRS:=zh (show ∀ w' e,FindR xs name v e->Mod No w w'->R e w' from fun w' e h1 h2=>fin hR ⟨h1,h2⟩)
 have HFR:=zh (show ∀ e,FindR xs name v e ↔ match atL (xs.map RwX.r) name v with | none=>e=.returned (.tuple #[.agg (RwX.cells ⟨zeroRw,.slice none 0 0,.slice none 0 0⟩).toArray,.bool false]) | some k=>∃ x,xs[k]? = some x/\e=.returned (.tuple #[.agg (RwX.cells x).toArray,.bool true]) from fun e=>Iff.rfl)
 have HC0:=zh (fun (x:RwX) (h1:Small x.r.v)=>refvercmp_sv x.r.v v h1 hv x.pv (.slice qa v.pre.length qc))
 obtain ⟨zs,hzs⟩:∃ zs,zs=rowCs ⟨#[]⟩ 0 0 0 (.slice none 0 0) (List.replicate 32 0) 0:=⟨_,rfl⟩
 have HZS:=zh hzs
 have HZL:=zh (show zs.toArray.size=39 by rw [hzs];exact rowCs_length (by simp) _ _ _ _ _ _)
 clear hok hrv hpv hv hzs hR
 obtain ⟨va,vi,vp,pr⟩:=v
 dsimp only at *
 obtain ⟨qn,hqn⟩:∃ n,n=pr.length:=⟨_,rfl⟩
 unfold verV at HC0 ⊢
 unfold strV
 dsimp only at *
 rw [<- hqn] at HC0 HPV ⊢
 clear hqn
 have hT2:=str_list name
 generalize (⟨name.toArray⟩:ByteArray)=A2 at *
 go_enter func16,ntmps16
 go_upto_region 1 with fail
 obtain ⟨vb,hvb⟩:∃ g,g=w.heap.size:=⟨_,rfl⟩
 rw [<- hvb]
 generalize hw1:World.alloc (World.alloc w _) _=w1
 have HV1:=zh (show w1.heap[vb]? = some (.cells #[.int .i64 va,.int .i64 vi,.int .i64 vp,.slice qa qn qc] 40 (0,0)) by rw [<- hw1,hvb];exact heap_alloc_old _ (heap_alloc_new w _))
 have HR1:=zh (show w1.heap[vb+1]? = some (.cells zs.toArray 46 (0,0)) by rw [<- hw1,hvb,HZS.out];exact heap_at_new _ _ (by simp))
 have HM1:=zh (show Mod No w w1 by rw [<- hw1];exact ((Mod.refl No w).alloc _).alloc _)
 have HRB:=zh (show w.heap.size<=vb+1 by omega)
 clear hw1 hvb
 obtain ⟨rb,hrb⟩:∃ g,g=vb+1:=⟨_,rfl⟩
 rw [<- hrb] at HR1 HRB
 rw [<- hrb]
 clear hrb
 go_wp2_with fail
 go_loopw [8] (fun q wr=>∃ k:Nat,k<=xs.length/\q=.int .i64 (k:Int)/\Mod No w1 wr/\∀ i (hi:i < (xs.map RwX.r).length),i < k->¬ ((xs.map RwX.r)[i].name=name/\verC (xs.map RwX.r)[i].v ⟨va,vi,vp,pr⟩=0)) (fun q _=>xs.length - (intOf q).toNat)
 case atStart=>exact ⟨0,by omega,rfl,Mod.refl _ _,fun i _ h=>absurd h (by omega)⟩
 case round =>
  obtain ⟨k,hk,rfl,hm,hno⟩:=hrel
  have HM:=zh hm
  have HNO:=zh hno
  have hk0:(0:Int)<=(k:Int):=Int.natCast_nonneg _
  clear hm hno
  by_cases hlt:k < xs.length
  ·have hk1:(k:Int) < (xs.length:Int):=by omega
   obtain ⟨b,o,c,hvs,_⟩:=HRV.out.shape (by omega)
   cases hvs
   have HRG:=zh (HM1.out.rangeAt (Sl.atM (fun x hx=>RwX.cells_length x (HOK.out x hx).sum) HRV.out hlt) (fun f=>f))
   have HXK:=zh ((HOK.out _ (List.getElem_mem hlt)).keep HM1.out (Apart.no _ _))
   have HGET:=zh (show xs[k]? = some xs[k] by simp [hlt])
   have HNX:=zh (show ¬ (xs[k].r.name=name/\verC xs[k].r.v ⟨va,vi,vp,pr⟩=0)->∀ i (hi:i < (xs.map RwX.r).length),i < k+1->¬ ((xs.map RwX.r)[i].name=name/\verC (xs.map RwX.r)[i].v ⟨va,vi,vp,pr⟩=0) from fun h i hi hik=>by
    rcases Nat.lt_or_ge i k with h3 | h3
    ·exact HNO.out i hi h3
    ·obtain rfl:i=k:=by omega
     simpa using h)
   have HIT:=zh (show xs[k].r.name=name/\verC xs[k].r.v ⟨va,vi,vp,pr⟩=0->atL (xs.map RwX.r) name ⟨va,vi,vp,pr⟩=some k from fun h=>HHIT.out k (by simpa using hlt) HNO.out (by simpa using h))
   have HCM0:=zh (fun W (hm:Mod No w1 W)=>HC0.out xs[k] HXK.out.small W (.of (HXK.out.pre.kn hm)) (HPV.out.kn (HM1.out.trans hm)))
   clear HNO HHIT HNON
   generalize xs[k]=y at *
   have HL39:=zh (RwX.cells_length y HXK.out.sum)
   have H1E0:=zh (rows_one HXK.out)
   obtain ⟨pa,pc,hpe⟩:=HXK.out.pre.len
   have HCS:=zh (show RwX.cells y=strV y.r.name :: (verCs y.r.v y.pv++(bv y.r.sum++[.int .i64 y.r.size,y.nv])) from rfl)
   obtain ⟨cs,hcs⟩:∃ cs,cs=RwX.cells y:=⟨_,rfl⟩
   rw [<- hcs] at HRG HL39 HCS
   have HCY:=zh hcs
   clear hcs
   obtain ⟨⟨nm,⟨xa,xi,xp,xpr⟩,sm,sz,nds⟩,ypv,ynv⟩:=y
   dsimp only at *
   subst hpe
   obtain ⟨pn,hpn⟩:∃ n,n=xpr.length:=⟨_,rfl⟩
   unfold strV verCs at HCS
   dsimp only at HCS HCM0
   rw [<- hpn] at HCM0 HCS
   have hT1:=str_list nm
   clear HXK HC0 hpn
   generalize hA1:(⟨nm.toArray⟩:ByteArray)=A1 at *
   clear hA1
   obtain ⟨HREST,hRE⟩:∃ z,z=bv sm++[Value.int .i64 sz,ynv]:=⟨_,rfl⟩
   have HCS2:=zh (show cs=[.string A1]++[.int .i64 xa,.int .i64 xi,.int .i64 xp,.slice pa pn pc]++HREST by rw [hRE];exact HCS.out)
   clear hRE
   by_cases hh:nm=name
   ·have h12:A1=A2:=by rw [bytes_of_toList hT1,bytes_of_toList hT2,hh]
    subst h12
    generalize hvc:verC ⟨xa,xi,xp,xpr⟩ ⟨va,vi,vp,pr⟩=vc at *
    have HCM:=HCM0
    clear hvc HCM0 hT1 hT2
    go_upto_region 4 with fail
    obtain ⟨wA,hwA⟩:∃ z,z=wr.drew:=⟨_,rfl⟩
    have hmA:Mod No w1 wA:=by rw [hwA];exact HM.out.drew
    have HMA0:=zh hmA
    have HWA:=zh hwA
    have HSM:=zh (show (∀ w',Mod No wA w'->w'.cell? ⟨b,o+k*39,none⟩=some (.string A1))/\(∀ w',Mod No wA w'->w'.rangeAt b (o+k*39+1) [.int .i64 xa,.int .i64 xi,.int .i64 xp,.slice pa pn pc])/\(∀ w',Mod No wA w'->w'.heap[vb]? = some (.cells #[.int .i64 va,.int .i64 vi,.int .i64 vp,.slice qa qn qc] 40 (0,0))) from
     ⟨fun w' h=>(hmA.trans h).cell (HRG.out 0 _ (by rw [HCS.out];rfl)) (fun f=>f),fun w' h=>(hmA.trans h).rangeAt (rangeAt_part (p:=[.string A1]) (r:=HREST) (by rw [<- HCS2.out];exact HRG.out)) (fun f=>f),fun w' h=>(hmA.trans h).keep HV1.out (fun f=>f)⟩)
    have hS0:=Mod.refl No wA
    clear hwA hmA
    refine wp_region_T (fun w'=>Mod No wA w') 99 (by kernel_rfl) ?_
    rw [<- HWA.out]
    clear HWA
    refine yT 0 (some 15) ?_ hS0 ?_ ?_
    rotate_left
    ·(intro w' hSw;go_simp;try with_reducible rfl)
    simp only [Act.put,yB,yC,yD]
    refine yT 1 (some 16) ?_ hS0 ?_ ?_
    rotate_left
    ·(intro w' hSw;go_simp;try with_reducible rfl)
    simp only [Act.put,yB,yC,yD]
    refine yT 2 (some 17) ?_ hS0 ?_ ?_
    rotate_left
    ·(intro w' hSw;go_simp;try with_reducible rfl)
    simp only [Act.put,yB,yC,yD]
    refine yT 3 (some 18) ?_ hS0 ?_ ?_
    rotate_left
    ·(intro w' hSw;go_simp;try with_reducible rfl)
    simp only [Act.put,yB,yC,yD]
    refine yT 4 (some 19) ?_ hS0 ?_ ?_
    rotate_left
    ·(intro w' hSw;have c0:=HSM.out.1 w' hSw;go_simp;try with_reducible rfl)
    simp only [Act.put,yB,yC,yD]
    refine yT 5 (some 20) ?_ hS0 ?_ ?_
    rotate_left
    ·(intro w' hSw;go_simp;try with_reducible rfl)
    simp only [Act.put,yB,yC,yD]
    refine yT 6 (some 21) ?_ hS0 ?_ ?_
    rotate_left
    ·(intro w' hSw;go_simp;try with_reducible rfl)
    simp only [Act.put,yB,yC,yD]
    refine yT 7 (some 22) ?_ hS0 ?_ ?_
    rotate_left
    ·(intro w' hSw;go_simp;try with_reducible rfl)
    simp only [Act.put,yB,yC,yD]
    refine yT 8 (some 23) ?_ hS0 ?_ ?_
    rotate_left
    ·(intro w' hSw;go_simp;try with_reducible rfl)
    simp only [Act.put,yB,yC,yD]
    refine yT 9 (some 24) ?_ hS0 ?_ ?_
    rotate_left
    ·(intro w' hSw;go_simp;try with_reducible rfl)
    simp only [Act.put,yB,yC,yD]
    refine yT 10 (some 25) ?_ hS0 ?_ ?_
    rotate_left
    ·(intro w' hSw;go_simp;try with_reducible rfl)
    simp only [Act.put,yB,yC,yD]
    refine yT 11 (some 26) ?_ hS0 ?_ ?_
    rotate_left
    ·(intro w' hSw;go_simp;try with_reducible rfl)
    simp only [Act.put,yB,yC,yD]
    refine yT 12 (some 27) (verV ⟨xa,xi,xp,xpr⟩ (.slice pa pn pc)) hS0 ?_ ?_
    ·(intro w' hSw;apply yloadv (run_loadVar_mid w' b (o+k*39+1) 40 [.int .i64 xa,.int .i64 xi,.int .i64 xp,.slice pa pn pc] _ (HSM.out.2.1 w' hSw) underlying40 rfl (by kernel_rfl)) (.tmp 26) <;> rfl)
    simp only [Act.put,yB,yC,yD]
    refine yT 13 (some 28) (verV ⟨va,vi,vp,pr⟩ (.slice qa qn qc)) hS0 ?_ ?_
    ·(intro w' hSw;apply yloadv (load_ver (HSM.out.2.2 w' hSw)) (.tmp 5) <;> rfl)
    simp only [Act.put,yB,yC,yD]
    refine wpAnyT_oneW 14 rfl (by kernel_rfl) (by rfl) ?_
    intro K hK
    go_simp
    go_at_call 29
    with_reducible refine (HCM.out _ HMA0.out).mono ?_
    rintro e wB ⟨rfl,hB⟩
    have HMB:=zh hB
    clear hB
    show K _ _
    have hS1:=HMB.out
    refine hK.out _ _ (fun _=>hS1) ?_
    clear hK K
    refine yT 15 (some 30) ?_ hS1 ?_ ?_
    rotate_left
    ·(intro w' hSw;go_simp;try with_reducible rfl)
    simp only [Act.put,yB,yC,yD]
    refine yT 16 (some 31) ?_ hS1 ?_ ?_
    rotate_left
    ·(intro w' hSw;go_simp;try with_reducible rfl)
    simp only [Act.put]
    refine wpAnyT_done (by kernel_rfl) ?_ _
    clear hS0 hS1
    rcases Decidable.em (vc=0) with hz | hz
    ·have HFI:=zh (HIT.out ⟨hh,hz⟩)
     clear HIT HNX
     subst hz
     have HMB2:=zh (HMA0.out.trans HMB.out)
     have HRg:=zh (HMB2.out.rangeAt HRG.out (fun f=>f))
     have HRb:=zh (HMB2.out.keep HR1.out (fun f=>f))
     go_wp2_with (first | (refine wpList_load_mid rfl 46 _ rfl b (o+k*39) rfl cs _ HRg.out underlying46 rfl (by rw [HL39.out];exact row_info) ?_) | (refine wpList_store_row rfl 46 _ _ rfl rb cs.toArray rfl rfl 46 _ HRb.out (by rw [List.size_toArray,HL39.out];exact row_info) (by rw [HZL.out,List.size_toArray,HL39.out]) (by rw [HCY.out];exact H1E0.out) ?_))
     have HRz:=zh (setRow_heap wB rb zs.toArray cs.toArray 46 (0,0) HRb.out)
     have hlz:=load_row (by rw [List.size_toArray,HL39.out]) HRz.out
     have HMz:=zh ((HM1.out.trans HMB2.out).setRow (g:=rb) (fun h=>by have:=HRB.out;omega) cs.toArray)
     exact bodyPost_ret (v:=.tuple #[.agg cs.toArray,.bool true]) (by simp [results,results16,asAddr,hlz]) rfl (HRS.out _ _ ((HFR.out _).2 (by rw [HFI.out];exact ⟨_,HGET.out,by rw [HCY.out]⟩)) HMz.out)
    ·have hz2:(vc == 0)=false:=by simpa using hz
     have HN2:=zh (HNX.out (fun h=>hz h.2))
     clear HIT HNX hz
     have HM2:=zh (HMA0.out.trans HMB.out)
     go_wp2_with fail
     exact ⟨⟨k+1,by omega,rfl,HM2.out,HN2.out⟩,by show xs.length - ((k:Int)+1).toNat < xs.length - (k:Int).toNat;omega⟩
   ·have he:(A1.toList == A2.toList)=false:=by rw [hT1,hT2];simpa using hh
    have hn2:=HNX.out (fun h=>hh h.1)
    have HN2:=zh hn2
    have c0:=HM.out.cell (HRG.out 0 _ (by rw [HCS.out];rfl)) (fun f=>f)
    rw [Nat.add_zero] at c0
    clear hT1 hT2 HCM0 HNX HIT hn2
    go_upto_region 4 with fail
    go_quiet (fail)
    generalize hw2:World.drewN wr _=w2
    have HM2:=zh (show Mod No w1 w2 by rw [<- hw2];exact HM.out.drewN _)
    clear hw2 c0
    go_wp2_with fail
    exact ⟨⟨k+1,by omega,rfl,HM2.out,HN2.out⟩,by show xs.length - ((k:Int)+1).toNat < xs.length - (k:Int).toNat;omega⟩
  ·have HAN:=zh (HNON.out (fun i hi=>HNO.out i hi (by have h2:i < xs.length:=(by simpa using hi);omega)))
   clear HHIT HNON
   have HRr:=zh (HM.out.keep HR1.out (fun f=>f))
   go_wp2_with (refine wpList_store_row rfl 46 _ _ rfl rb zs.toArray rfl (by rw [HZS.out];rfl) 46 _ HRr.out (by rw [HZL.out];exact row_info) rfl (by rw [HZS.out];exact row_cells _ _ _ _ _ _ _ _ _) ?_)
   have HRz:=zh (setRow_heap wr rb zs.toArray zs.toArray 46 (0,0) HRr.out)
   have hlz:=load_row HZL.out HRz.out
   have HMz:=zh ((HM1.out.trans HM.out).setRow (g:=rb) (fun h=>by have:=HRB.out;omega) zs.toArray)
   exact bodyPost_ret (v:=.tuple #[.agg zs.toArray,.bool false]) (by simp [results,results16,asAddr,hlz]) rfl (HRS.out _ _ ((HFR.out _).2 (by rw [HAN.out,HZS.out];rfl)) HMz.out)
theorem reffind_any (xs:List RwX) (hx:xs.length<=1000000) (name:List UInt8) (v:Ver) (pv:Value) (rv:Value) (w:World) (hok:∀ x ∈ xs,RwOk w x) (hv:Small v) (hpv:Sl w No 9 pv v.pre.length (strs v.pre))
  (hrv:Sl w No 46 rv xs.length (xs.flatMap RwX.cells)) :
  Calls prog 16 #[rv,strV name,verV v pv] w fun e w'=>FindR xs name v e/\Mod No w w' :=
 reffind_sv xs hx name v pv rv w hok hv (.of hpv) hrv
end Go.Proofs.YtgiigemfbebcgaaGreatDoor
