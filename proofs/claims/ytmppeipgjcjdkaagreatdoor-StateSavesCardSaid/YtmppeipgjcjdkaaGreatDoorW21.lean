/-
  Layers 0 to 14: helps of the laws of indexes. No statement is proved here; no condition.
-/
import Derived.Test.YtmppeipgjcjdkaaGreatDoorW20
import Derived.Lib.BufferWrite
namespace Go.Proofs.YtmppeipgjcjdkaaGreatDoor
open _root_.Go.Proofs.Tryz
open Go.RowKit
structure PutAt (cur cur':Array Value) (o m n k:Nat):Prop where
 size:cur'.size=cur.size
 here:∀ i,i < k->cur'[o+i]? = some (.int .u8 (((UInt8.ofNat (n / 2 ^ (8*(m - 1 - i)))).toNat:Nat):Int))
 else_:∀ i,i < o\/o+k<=i->cur'[i]? = cur[i]?
set_option maxRecDepth 100000 in
set_option maxHeartbeats 800000 in
theorem put_row (g o m c n:Nat) (cur:Array Value) (ty:TypeId) (w:World) (hg:w.heap[g]? = some (.cells cur ty (0,0))) (hm:m<=8) (ho:o+m<=cur.size) :
  Calls prog 199 #[.slice (some ⟨g,o,none⟩) m c,.int .u64 (n:Int)] w fun e w'=>e=.returned (.tuple #[])/\(∃ cur',w'.heap[g]? = some (.cells cur' ty (0,0))/\PutAt cur cur' o m n m)/\Mod (· = g) w w':=by
 refine calls_hide fun R hR=>?_
 have HG:=zh hg
 have HO:=zh ho
 clear hg ho
 go_enter func199,ntmps199
 go_wp2_with fail
 go_loopw [7] (fun i wr=>∃ k:Nat,k<=m/\i=.int .i64 k/\(∃ cur',wr.heap[g]? = some (.cells cur' ty (0,0))/\PutAt cur cur' o m n k)/\Mod (· = g) w wr) (fun i _=>m - (intOf i).toNat)
 case atStart=>exact ⟨0,by omega,rfl,⟨cur,HG.out,rfl,fun i hi=>by omega,fun _ _=>rfl⟩,Mod.refl _ _⟩
 case round =>
  obtain ⟨k,hk,rfl,⟨cur',hg,hpa⟩,hmm⟩:=hrel
  have hk0:(0:Int)<=(k:Int):=Int.natCast_nonneg _
  have HM:=zh hmm
  have HGK:=zh hg
  have HPA:=zh hpa
  by_cases hlt:k < m
  ·have hk1:(k:Int) < (m:Int):=by omega
   have hol:o+k < cur'.size:=by have:=HO.out;have:=hpa.size;omega
   have hv:cur'[o+k]? = some cur'[o+k]:=Array.getElem?_eq_getElem hol
   have cg:=cell_ofA hg hv
   have fg:=frozen_of (o+k) hg
   generalize cur'[o+k]=v0 at *
   have HOL:=zh hol
   have hm8:(m:Int)<=8:=by omega
   have HVL:=zh (show (((UInt8.ofNat (n / 2 ^ (8*(m - 1 - k)))).toNat:Nat):Int)=(n:Int) / 2 ^ (8*(m - 1 - k)) % 256 by simp)
   clear hv hg hmm hol hpa
   go_wp2_with fail
   rw [<- HVL.out]
   refine ⟨⟨k+1,by omega,by go_num,⟨_,heap_setCell HGK.out _,by rw [Array.size_setIfInBounds];exact HPA.out.size,fun i hi=>?_,fun i hi=>?_⟩,HM.out.setCell (fun _=>rfl) _⟩,by go_light;simp only [intOf];omega⟩
   ·by_cases e:i=k
    ·subst e;rw [Array.getElem?_setIfInBounds_self_of_lt HOL.out]
    ·rw [Array.getElem?_setIfInBounds_ne (by omega)];exact HPA.out.here i (by omega)
   ·rw [Array.getElem?_setIfInBounds_ne (by omega)];exact HPA.out.else_ i (by omega)
  ·have hkn:k=m:=by omega
   subst hkn
   clear hg hmm hpa
   go_wp2_with fail
   go_end0
   exact fin hR ⟨rfl,⟨cur',HGK.out,HPA.out⟩,HM.out⟩
theorem bodyB_le (rs:List (List UInt8)) (k:Nat):(bodyB (rs.take k)).length<=(bodyB rs).length:=by
 have e:bodyB rs=bodyB (rs.take k)++bodyB (rs.drop k):=by
  unfold bodyB
  rw [<- List.flatMap_append,List.take_append_drop]
 rw [e,List.length_append];omega
theorem PutAt.sl {X:Nat->Prop} {w:World} {g m n c:Nat} {cur cur':Array Value} {ty:TypeId} (h:PutAt cur cur' 0 m n m) (hg:w.heap[g]? = some (.cells cur' ty (0,0))) (hX:¬ X g) (hs:m<=cur.size) (hc:m<=c) (hc2:c<=maxLen) :
  Sl w X ty (.slice (some ⟨g,0,none⟩) m c) m (bv (be m n)):=by
 refine .inr ⟨g,0,c,cur',(0,0),rfl,hc,hc2,hX,hg,by rw [bv_length,be_len,h.size];omega,fun i hi=>?_⟩
 rw [bv_length,be_len] at hi
 rw [h.here i hi,bv_get _ _ (by rw [be_len];exact hi)]
 simp [be]
theorem bv_get? (l:List UInt8) (i:Nat):(bv l)[i]? = (l[i]?).map fun b=>Value.int .u8 ((b.toNat:Nat):Int):=by simp [bv]
theorem PutAt.get {cur cur':Array Value} {o m n i:Nat} (h:PutAt cur cur' o m n m) (h1:o<=i) (h2:i < o+m):cur'[i]? = (bv (be m n))[i - o]?:=by
 have:=h.here (i - o) (by omega)
 rw [show o+(i - o)=i by omega] at this
 rw [this,bv_get _ _ (by rw [be_len];omega)]
 simp [be]
theorem frame_cells {cur cur1 cur2 cur3 cur4:Array Value} {turn next:Nat} {rs:List (List UInt8)} (h0:∀ i,32<=i->i < 32+(bodyB rs).length->cur[i]? = (bv (bodyB rs))[i - 32]?)
  (h1:∀ i,i < 8->cur1[i]? = (bv sign)[i]?) (h1':∀ i,8<=i->cur1[i]? = cur[i]?) (h2:PutAt cur1 cur2 8 8 turn 8) (h3:PutAt cur2 cur3 16 8 next 8) (h4:PutAt cur3 cur4 24 8 (bodyB rs).length 8) :
  cur4.toList.take (32+(bodyB rs).length)=bv (frameB turn next rs):=by
 apply List.ext_getElem?
 intro i
 have e8:∀ n,(bv (be 8 n)).length=8:=fun n=>by rw [bv_length,be_len]
 have es:(bv sign).length=8:=rfl
 by_cases hi:i < 32+(bodyB rs).length
 ·rw [List.getElem?_take_of_lt hi,Array.getElem?_toList]
  unfold frameB
  rw [bv_append,bv_append,bv_append,bv_append]
  by_cases a1:i < 8
  ·rw [List.getElem?_append_left (by omega),h4.else_ i (.inl (by omega)),h3.else_ i (.inl (by omega)),h2.else_ i (.inl (by omega)),h1 i a1]
  ·rw [List.getElem?_append_right (by omega),es]
   by_cases a2:i < 16
   ·rw [List.getElem?_append_left (by rw [e8];omega),h4.else_ i (.inl (by omega)),h3.else_ i (.inl (by omega)),h2.get (by omega) (by omega)]
   ·rw [List.getElem?_append_right (by rw [e8];omega),e8]
    by_cases a3:i < 24
    ·rw [List.getElem?_append_left (by rw [e8];omega),h4.else_ i (.inl (by omega)),h3.get (by omega) (by omega)]
     congr 1
    ·rw [List.getElem?_append_right (by rw [e8];omega),e8]
     by_cases a4:i < 32
     ·rw [List.getElem?_append_left (by rw [e8];omega),h4.get (by omega) (by omega)]
      congr 1
     ·rw [List.getElem?_append_right (by rw [e8];omega),e8,h4.else_ i (.inr (by omega)),h3.else_ i (.inr (by omega)),h2.else_ i (.inr (by omega)),h1' i (by omega),h0 i (by omega) hi]
      congr 1
 ·rw [List.getElem?_eq_none (by rw [List.length_take];omega),List.getElem?_eq_none (by rw [bv_length,frameB_len];omega)]
set_option maxRecDepth 100000 in
set_option maxHeartbeats 4000000 in
theorem frame_any {X:Nat->Prop} {v:Value} {rs:List (List UInt8)} {w:World} (turn next:Nat) (h:Recs w X v rs) (hr:∀ r ∈ rs,r.length < 4294967296) (hb:(bodyB rs).length<=1000000000) (hl:rs.length<=1000000000) :
  Calls prog 147 #[.int .u64 (turn:Int),.int .u64 (next:Int),v] w fun e w'=>∃ v',e=.returned v'/\w'.ownsRow w.heap.size 5 1 v' (frameB turn next rs).length (bv (frameB turn next rs))/\Mod No w w':=by
 obtain ⟨i0,hi,hz0,hz1,hz2⟩:=info_parts info_u8
 refine calls_hide fun R hR=>?_
 obtain ⟨a,c,rfl⟩:=h.len
 obtain ⟨ZB,hZB⟩:∃ ZB:Array Value,ZB=(bv (List.replicate 32 0)).toArray:=⟨_,rfl⟩
 have hmk:∀ w,(Instr.makeSlice 41 (.int .i64 32) (.int .i64 32)).run prog w=.ok (.slice (some ⟨w.heap.size,0,none⟩) 32 32) (w.alloc (.cells ZB 5)):=fun w=>by
  rw [hZB,<- madeBytes]
  exact run_make_row' (P:=prog) 41 5 (.int .u8 0) 1 underlying41 info_u8 rfl .i64 .i64 32 (by omega) (by omega) w
 have hown:(w.alloc (.cells ZB 5)).ownsRow w.heap.size 5 1 (.slice (some ⟨w.heap.size,0,none⟩) 32 32) 32 ZB.toList:=by
  have hs:ZB.size=32*1:=by rw [hZB];simp
  exact World.ownsRow_lit w ZB 32 (Nat.le_refl _) (by unfold maxLen;omega) hs
 have HR:=zh hr
 have H:=zh h
 have HB:=zh hb
 have HO0:=zh (show (w.alloc (.cells ZB 5)).ownsRow w.heap.size 5 1 (.slice (some ⟨w.heap.size,0,none⟩) 32 32) (32+(bodyB (rs.take 0)).length) (bv (List.replicate 32 0++bodyB (rs.take 0))) by
  have e1:bodyB (rs.take 0)=[]:=rfl
  rw [e1,List.append_nil]
  have e2:bv (List.replicate 32 0)=ZB.toList:=by rw [hZB]
  rw [e2]
  exact hown)
 clear hr h hb hown hZB
 go_enter func147,ntmps147
 go_wp2_with fail
 go_loopw [7,14] (fun u i wr=>∃ k:Nat,k<=rs.length/\i=.int .i64 k/\wr.ownsRow w.heap.size 5 1 u (32+(bodyB (rs.take k)).length) (bv (List.replicate 32 0++bodyB (rs.take k)))/\Mod No w wr) (fun _ i _=>rs.length - (intOf i).toNat)
 case atStart=>exact ⟨0,by omega,rfl,HO0.out,(Mod.refl No w).alloc _⟩
 case round =>
  clear HO0
  obtain ⟨k,hk,rfl,hown,hmod⟩:=hrel
  obtain ⟨oa,oc,rfl⟩:=own_len hown
  have hk0:(0:Int)<=(k:Int):=Int.natCast_nonneg _
  by_cases hlt:k < rs.length
  ·have hk1:(k:Int) < (rs.length:Int):=by omega
   obtain ⟨g,o,c',u,hv,hu0,hsl0⟩:=H.out.at_ hlt
   cases hv
   obtain ⟨ua,uc,rfl⟩:=hsl0.len
   have hu:=hmod.cell hu0 (fun f=>f)
   have hsl:=hsl0.avoid.kn hmod
   clear hu0 hsl0
   have hbt:=bodyB_take rs k hlt
   have hble:=bodyB_le rs (k+1)
   have hbb:=HB.out
   have hlist:List.replicate 32 (0:UInt8)++bodyB (rs.take (k+1))=((List.replicate 32 (0:UInt8)++bodyB (rs.take k))++be 4 rs[k].length)++rs[k]:=by
    have e:bodyB (rs.take (k+1))=bodyB (rs.take k)++(be 4 rs[k].length++rs[k]):=by
     rw [List.take_succ_eq_append_getElem hlt]
     unfold bodyB
     rw [List.flatMap_append]
     simp [recB]
    rw [e];simp only [List.append_assoc]
   have hrk:=HR.out rs[k] (List.getElem_mem hlt)
   obtain ⟨N,hN⟩:∃ N,N=32+(bodyB (rs.take k)).length:=⟨_,rfl⟩
   obtain ⟨Z,hZ⟩:∃ Z,Z=List.replicate 32 (0:UInt8)++bodyB (rs.take k):=⟨_,rfl⟩
   have hNext:32+(bodyB (rs.take (k+1))).length=N+4+rs[k].length:=by omega
   have hNb:N+4+rs[k].length<=1000000032:=by omega
   rw [<- hN,<- hZ] at hown
   rw [<- hZ] at hlist
   rw [<- hN]
   have HNX:=zh (And.intro hNext hlist)
   clear hbt hble hbb hN hZ hNext hlist
   generalize rs[k]=r at *
   have m2:Mod No wr (wr.alloc (.cells #[.int .u8 0,.int .u8 0,.int .u8 0,.int .u8 0] 285)):=(Mod.refl No wr).alloc _
   have HPUT:=zh (put_row wr.heap.size 0 4 4 r.length #[.int .u8 0,.int .u8 0,.int .u8 0,.int .u8 0] 285 _ (heap_alloc_new wr _) (by omega) (by simp))
   have hwrap:IntKind.u64.wrap (r.length:Int)=(r.length:Int):=by rw [IntKind.wrap_u64];omega
   have HO:=zh hown
   have HSL:=zh hsl
   have HM:=zh hmod
   have M2:=zh m2
   clear hown hsl hmod m2
   go_wp2_with fail
   refine HPUT.out.mono ?_
   clear HPUT
   rintro e w3 ⟨rfl,⟨cur4,hg4,hpa⟩,hm3⟩
   have m23:Mod No wr w3:=M2.out.then hm3 fun i hi e=>by omega
   have HS4:=zh (hpa.sl (X:=No) (c:=4) hg4 (fun f=>f) (by simp) (by omega) (by unfold maxLen;omega))
   have HO3:=zh (own_keepM HO.out m23 (fun _ _ f=>f))
   have HSL3:=zh (HSL.out.kn m23)
   have HM3:=zh (HM.out.trans m23)
   have hb3:w.heap.size<=w3.heap.size:=HM3.out.size
   clear hg4 hpa hm3 m23 HO HSL HM M2
   go_wp2_with (at_builtin;refine app_sl _ rfl _ _ 41 rfl w.heap.size 5 i0 (.int .u8 0) 1 1 underlying41 hi hz0 hz1 hz2 rfl (by decide) _ _ _ rfl HO3.out No 285 _ _ _ rfl HS4.out ?_ (bv_one _) ?_ ?_ hb3 ?_)
   ·rw [bv_length,be_len]
   ·unfold maxLen;omega
   ·omega
   intro v4 w4 hown4 hg4 _
   have HO4:=zh hown4
   have HM4:=zh (HM3.out.then (Mod.of_grown (S:=fun q=>w.heap.size<=q) hg4 (fun q e _=>(HO3.out.lt _ e).1)) fun i hi e=>by omega)
   have HSL4:=zh (HSL3.out.keep (Mod.of_grown (S:=fun q=>w.heap.size<=q) hg4 (fun q e _=>(HO3.out.lt _ e).1)) (fun q cur fz e hX _=>hX (.inr e)))
   have hb4:w.heap.size<=w4.heap.size:=HM4.out.size
   obtain ⟨va4,vc4,rfl⟩:=own_len hown4
   clear hown4 hg4 HO3 HM3 HSL3 HS4
   go_wp2_with (at_builtin;refine app_sl _ rfl _ _ 41 rfl w.heap.size 5 i0 (.int .u8 0) 1 1 underlying41 hi hz0 hz1 hz2 rfl (by decide) _ _ _ rfl HO4.out _ 5 _ _ _ rfl HSL4.out ?_ (bv_one _) ?_ ?_ hb4 ?_)
   ·rw [bv_length,Nat.mul_one]
   ·unfold maxLen;omega
   ·omega
   intro v5 w5 hown5 hg5 _
   have HO5:=zh (show w5.ownsRow w.heap.size 5 1 v5 (32+(bodyB (rs.take (k+1))).length) (bv (List.replicate 32 0++bodyB (rs.take (k+1)))) by
    rw [HNX.out.1,HNX.out.2,bv_append,bv_append];rw [<- List.append_assoc] at hown5;exact hown5)
   have HM5:=zh (HM4.out.then (Mod.of_grown (S:=fun q=>w.heap.size<=q) hg5 (fun q e _=>(HO4.out.lt _ e).1)) fun i hi e=>by omega)
   clear hown5 hg5 HO4 HM4 HSL4
   go_wp2_with fail
   exact ⟨⟨k+1,by omega,by go_num,HO5.out,HM5.out⟩,by go_light;simp only [intOf];omega⟩
  ·have hkn:k=rs.length:=by omega
   subst hkn
   rw [List.take_length] at hown
   have hbb:=HB.out
   obtain ⟨B,hB⟩:∃ B,B=bodyB rs:=⟨_,rfl⟩
   rw [<- hB] at hown hbb
   have HBB:=zh hB
   rw [List.take_length,<- hB]
   clear hB HB
   obtain ⟨_,⟨_,h0⟩ | ⟨g,cap,cur,hsh,hgb,hh,hnc,hcm,hsz,htk⟩⟩:=hown
   ·omega
   cases hsh
   rw [Nat.mul_one] at hsz htk
   obtain ⟨cur1,hcur1⟩:∃ cur1,cur1=(bv sign++cur.toList.drop 8).toArray:=⟨_,rfl⟩
   have hcp:∀ ty,(Builtin.copy_ #[41,9] ty #[.slice (some ⟨g,0,none⟩) (32+B.length) oc,.string ⟨#[72,65,86,69,82,83,65,75]⟩]).run prog wr=.ok (goInt 8) (wr.setRow g cur1):=fun ty=>by
    rw [hcur1]
    exact Go.Lib.run_copy_row_string (P:=prog) wr 41 9 ty 5 g 0 (32+B.length) oc ⟨#[72,65,86,69,82,83,65,75]⟩ cur 5 underlying41 (by kernel_rfl) hh (by show 8<=32+B.length;omega) (by show 0+8<=cur.size;omega)
   have hg1:=setRow_heap wr g cur cur1 5 (0,0) hh
   have hz1':cur1.size=oc:=by
    have:(bv sign).length=8:=rfl
    simp only [hcur1,List.size_toArray,List.length_append,List.length_drop,Array.length_toList,this];omega
   have hlow:∀ i,i < 8->cur1[i]? = (bv sign)[i]?:=fun i hi=>by
    have:(bv sign).length=8:=rfl
    rw [hcur1,List.getElem?_toArray,List.getElem?_append_left (by omega)]
   have hhigh:∀ i,8<=i->cur1[i]? = cur[i]?:=fun i hi=>by
    have:(bv sign).length=8:=rfl
    rw [hcur1,List.getElem?_toArray,List.getElem?_append_right (by omega),List.getElem?_drop,<- Array.getElem?_toList]
    congr 1;omega
   have hbody:∀ i,32<=i->i < 32+B.length->cur[i]? = (bv B)[i - 32]?:=fun i h1 h2=>by
    have h3:(cur.toList.take (32+B.length))[i]? = cur[i]?:=by rw [List.getElem?_take_of_lt h2,Array.getElem?_toList]
    rw [<- h3,htk,bv_append,List.getElem?_append_right (by simp;omega)]
    simp
   have HG1:=zh hg1
   have HZ1:=zh hz1'
   have HLOW:=zh (And.intro hlow (And.intro hhigh hbody))
   have HM:=zh hmod
   have hm1:Mod (fun q=>q=g) wr (wr.setRow g cur1):=⟨rfl,rfl,rfl,by simp,fun k hk hn=>setRow_other wr g k cur1 hn⟩
   have HM1:=zh hm1
   have HST:=zh (And.intro hgb (And.intro hnc hcm))
   have k8:(8:Int)<=(oc:Int):=by omega
   have k16:(16:Int)<=(oc:Int):=by omega
   have k24:(24:Int)<=(oc:Int):=by omega
   have k32:(32:Int)<=(oc:Int):=by omega
   have n8:¬ oc=8:=by omega
   have n16:¬ oc=16:=by omega
   have n24:¬ oc=24:=by omega
   have hB1:(B.length:Int)<=1000000000:=by omega
   have hB0:(0:Int)<=(B.length:Int):=Int.natCast_nonneg _
   clear hcur1 hg1 hz1' hlow hhigh hbody hmod hm1 hgb hnc hcm hsz htk hh
   have HP2:=zh (put_row g 8 8 (oc - 8) turn cur1 5 (wr.setRow g cur1) HG1.out (by omega) (by rw [HZ1.out];omega))
   go_wp2_with fail
   with_reducible refine HP2.out.mono ?_
   clear HP2
   rintro e w2 ⟨rfl,⟨cur2,hg2,hpa2⟩,hm2⟩
   have HG2:=zh hg2
   have HPA2:=zh hpa2
   have hz2:cur2.size=oc:=by rw [hpa2.size,HZ1.out]
   have HZ2:=zh hz2
   have HM2:=zh hm2
   clear hg2 hpa2 hm2 hz2
   have HP3:=zh (put_row g 16 8 (oc - 16) next cur2 5 w2 HG2.out (by omega) (by rw [HZ2.out];omega))
   go_wp2_with fail
   with_reducible refine HP3.out.mono ?_
   clear HP3
   rintro e w3 ⟨rfl,⟨cur3,hg3,hpa3⟩,hm3⟩
   have HG3:=zh hg3
   have HPA3:=zh hpa3
   have hz3:cur3.size=oc:=by rw [hpa3.size,HZ2.out]
   have HZ3:=zh hz3
   have HM3:=zh hm3
   clear hg3 hpa3 hm3 hz3
   have HP4:=zh (put_row g 24 8 (oc - 24) B.length cur3 5 w3 HG3.out (by omega) (by rw [HZ3.out];omega))
   go_wp2_with fail
   have e32:(32:Int)+(B.length:Int) - 32=(B.length:Int):=by omega
   rw [<- e32] at HP4
   with_reducible refine HP4.out.mono ?_
   clear HP4
   rintro e w4 ⟨rfl,⟨cur4,hg4,hpa4⟩,hm4⟩
   have HG4:=zh hg4
   have HPA4:=zh hpa4
   have hz4:cur4.size=oc:=by rw [hpa4.size,HZ3.out]
   have HZ4:=zh hz4
   have HM4:=zh hm4
   clear hg4 hpa4 hm4 hz4
   go_wp2_with fail
   have hfin:=frame_cells (rs:=rs) (turn:=turn) (next:=next) (cur:=cur) (cur1:=cur1) (cur2:=cur2) (cur3:=cur3) (cur4:=cur4) (by rw [<- HBB.out];exact HLOW.out.2.2) HLOW.out.1 HLOW.out.2.1 HPA2.out HPA3.out (by rw [<- HBB.out];exact HPA4.out)
   have hmg:Mod (fun q=>q=g) wr w4:=((HM1.out.trans HM2.out).trans HM3.out).trans HM4.out
   refine fin hR ⟨_,rfl,⟨by rw [bv_length,Nat.mul_one],.inr ⟨g,oc,cur4,?_,HST.out.1,HG4.out,by rw [frameB_len,<- HBB.out];exact HST.out.2.1,HST.out.2.2,by rw [HZ4.out,Nat.mul_one],by rw [Nat.mul_one,frameB_len];exact hfin⟩⟩,HM.out.then hmg fun i hi e=>by have:=HST.out.1;omega⟩
   rw [frameB_len,<- HBB.out]
   rfl
end Go.Proofs.YtmppeipgjcjdkaaGreatDoor
