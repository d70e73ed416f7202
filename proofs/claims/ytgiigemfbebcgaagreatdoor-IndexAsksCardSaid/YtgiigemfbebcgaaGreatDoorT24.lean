/-
  Layers 0 to 14: helps of the laws of indexes. No statement is proved here; no condition.
-/
import Derived.Test.YtgiigemfbebcgaaGreatDoorT23
import Derived.Test.YtgiigemfbebcgaaGreatDoorT20
import Derived.Test.YtgiigemfbebcgaaGreatDoorT02
import Derived.Test.YtgiigemfbebcgaaGreatDoorT03
namespace Go.Proofs.YtgiigemfbebcgaaGreatDoor
open _root_.Go.Proofs.Tryz
open Go.RowKit
theorem occ_iff (l:List UInt8) (j:Nat):Lib.occAt l [124,124] j=decide ((l.drop j).take 2=[124,124]):=by
 unfold Lib.occAt
 match l.drop j with
 | []=>rfl
 | [a] =>
  rw [List.isPrefixOf]
  simp
 | a :: b :: r =>
  rw [List.isPrefixOf,List.isPrefixOf,List.isPrefixOf]
  by_cases h1:a=124
  ·by_cases h2:b=124
   ·subst h1;subst h2;rfl
   ·have e:((124:UInt8) == b)=false:=by simpa using fun h=>h2 h.symm
    simp [h2,e]
  ·have e:((124:UInt8) == a)=false:=by simpa using fun h=>h1 h.symm
   simp [h1,e]
theorem occ_drop (l:List UInt8) (a j:Nat):Lib.occAt (l.drop a) [124,124] j=Lib.occAt l [124,124] (a+j):=by
 unfold Lib.occAt;rw [List.drop_drop]
theorem occ_late {l:List UInt8} {j:Nat} (h:l.length<=j+1):Lib.occAt l [124,124] j=false:=by
 rw [occ_iff]
 refine decide_eq_false fun e=>?_
 have:=congrArg List.length e
 rw [List.length_take,List.length_drop] at this
 simp at this
 omega
theorem split_part {l:List UInt8} {a i:Nat} (hai:a<=i) (hi:i<=l.length) (hno:∀ j,a<=j->j < i->Lib.occAt l [124,124] j=false) (ho:Lib.occAt l [124,124] i=true) :
  splitO (l.drop a)=(l.drop a).take (i - a) :: splitO (l.drop (i+2))/\i+2<=l.length:=by
 have h:=Lib.index_first (s:=l.drop a) (sub:=[124,124]) (i:=i - a) (by rw [List.length_drop];omega) (by rw [occ_drop,show a+(i - a)=i by omega];exact ho)
  (fun j hj=>by rw [occ_drop];exact hno _ (by omega) (by omega))
 obtain ⟨h1,h2⟩:=splitO_hit _ _ h
 rw [List.drop_drop,show a+(i - a+2)=i+2 by omega] at h1
 rw [List.length_drop] at h2
 exact ⟨h1,by omega⟩
theorem split_last {l:List UInt8} {a:Nat} (hno:∀ j,a<=j->j < l.length->Lib.occAt l [124,124] j=false):splitO (l.drop a)=[l.drop a]:=by
 refine splitO_none _ (Lib.index_none fun j hj=>?_)
 rw [occ_drop]
 rcases Nat.lt_or_ge (a+j) l.length with h | h
 ·exact hno _ (by omega) h
 ·exact occ_late (by omega)
structure SoI (w0:World) (B ob r2:Nat) (pre:List (List UInt8)) (W:World) (ov:Value) (xs:List OrX):Prop where
 all:allO listL pre=some (xs.map OrX.l)
 out:W.heap[ob]? = some (.cells #[.bool false,ov] 79 (0,0))
 own:W.ownsRow B 126 1 ov xs.length (xs.map OrX.v)
 each:∀ x ∈ xs,BndsAt W x.v x.l
 res2:W.heap[r2]? = some (.cells #[.bool false,.slice none 0 0] 79 (0,0))
 mod:Mod No w0 W
 size:B<=W.heap.size
theorem own_heapC {w:World} {base:Nat} {e:TypeId} {size:Nat} {v:Value} {n:Nat} {xs:List Value} (h:w.ownsRow base e size v n xs) {k:Nat} (hk:v.ownBlock=some k):base<=k/\∃ cur,w.heap[k]? = some (.cells cur e (0,0)):=by
 obtain ⟨_,⟨hv,_⟩ | ⟨g,cap,cur,hv,hg,hh,r⟩⟩:=h
 ·rw [hv] at hk;cases hk
 ·rw [hv] at hk;cases hk;exact ⟨hg,_,hh⟩
theorem SoI.more {w0:World} {B ob r2:Nat} {pre:List (List UInt8)} {W WA W3:World} {ov nv v':Value} {xs:List OrX} {y:List UInt8} {l:List Bnd} (h:SoI w0 B ob r2 pre W ov xs) (hm:Mod No W WA)
  (hp:w0.heap.size<=r2/\r2 < ob/\ob < B) (hy:listL y=some l) (hg:WA.grownBy W3 ov.ownBlock) (hown:W3.ownsRow B 126 1 v' (xs.length+1) (xs.map OrX.v++[nv])) (hnew:BndsAt WA nv l) :
  SoI w0 B ob r2 (pre++[y]) (W3.setCell ⟨ob,1,none⟩ v') v' (xs++[⟨l,nv⟩]):=by
 obtain ⟨p1,p2,p3⟩:=hp
 have hgm:Mod (fun q=>ov.ownBlock=some q) WA W3:=Mod.of_grown hg (fun q e _=>e)
 have hob:∀ q,ov.ownBlock=some q->B<=q/\(∃ cur,W.heap[q]? = some (.cells cur 126 (0,0))):=fun q e=>own_heapC h.own e
 have hS2:Mod (fun p=>p=ob\/ov.ownBlock=some p) WA (W3.setCell ⟨ob,1,none⟩ v'):=(hgm.weaken (fun _ _ e=>.inr e)).setCell (fun _=>.inl rfl) _
 have hS:Mod (fun p=>p=ob\/ov.ownBlock=some p) W (W3.setCell ⟨ob,1,none⟩ v'):=hm.no.trans hS2
 have hno:∀ k,k < B->k ≠ ob->¬ (k=ob\/ov.ownBlock=some k):=fun k hk hk2 e=>by
  rcases e with e | e
  ·exact hk2 e
  ·have:=(hob k e).1;omega
 have hap:Apart [9,153] (fun p=>p=ob\/ov.ownBlock=some p) W:=fun k cur fz e hk hc hmem=>by
  rcases hk with rfl | hk
  ·rw [h.out] at hc;cases hc;simp at hmem
  ·obtain ⟨_,cur',hh⟩:=hob k hk
   rw [hh] at hc;cases hc;simp at hmem
 have hap2:Apart [9,153] (fun p=>p=ob\/ov.ownBlock=some p) WA:=fun k cur fz e hk hc hmem=>by
  rcases hk with rfl | hk
  ·rw [hm.keep h.out (fun f=>f)] at hc;cases hc;simp at hmem
  ·obtain ⟨_,cur',hh⟩:=hob k hk
   rw [hm.keep hh (fun f=>f)] at hc;cases hc;simp at hmem
 have ho3:=hgm.keep (hm.keep h.out (fun f=>f)) (fun e=>by have:=(hob ob e).1;omega)
 refine ⟨?_,?_,?_,?_,?_,?_,?_⟩
 ·rw [allO_append,h.all]
  simp [allO,hy]
 ·rw [heap_setCell ho3];rfl
 ·rw [List.length_append,List.map_append]
  exact own_keepM hown (Mod.cell1 W3 ob 1 v') (fun k e e2=>by have h2:=(own_heapC hown e).1;have h3:k=ob:=e2;omega)
 ·intro x hx
  rcases List.mem_append.1 hx with hx | hx
  ·exact BndsAt.keep (h.each x hx) hS hap
  ·obtain rfl:x=⟨l,nv⟩:=by simpa using hx
   exact BndsAt.keep hnew hS2 hap2
 ·exact hS.keep h.res2 (hno _ (by omega) (by omega))
 ·refine h.mod.then hS (fun i hi e=>?_)
  rcases e with e | e
  ·omega
  ·have:=(hob i e).1;omega
 ·exact Nat.le_trans h.size hS.size
set_option maxRecDepth 100000 in
theorem loadSpan {w:World} {b:Nat} {v0 v1:Value} (h:w.heap[b]? = some (.cells #[v0,v1] 79 (0,0))) :
  (loadVar 79 ⟨b,0,none⟩).run prog w=.ok (.agg #[v0,v1]) w :=
 run_loadVar_row (P:=prog) w b 79 79 #[v0,v1] (0,0) _ h underlying79 rfl (by kernel_rfl)
theorem res_set {w0 W:World} {r2:Nat} {u0 u1:Value} (h:W.heap[r2]? = some (.cells #[u0,u1] 79 (0,0))) (hm:Mod No w0 W) (hr:w0.heap.size<=r2) (v0 v1:Value) :
  ((W.setCell ⟨r2,0,none⟩ v0).setCell ⟨r2,1,none⟩ v1).heap[r2]? = some (.cells #[v0,v1] 79 (0,0))/\Mod No w0 ((W.setCell ⟨r2,0,none⟩ v0).setCell ⟨r2,1,none⟩ v1):=by
 refine ⟨by rw [heap_setCell (heap_setCell h v0) v1];rfl,(hm.setCell (fun h=>by dsimp only at h;omega) _).setCell (fun h=>by dsimp only at h;omega) _⟩
theorem info_boundR:(prog.info? 153).map (fun i=>(i.zero,i.size,i.bytes))=some (some (.agg #[.string ⟨#[]⟩,.int .i64 0,.int .i64 0,.int .i64 0,.slice none 0 0]),5,64):=by kernel_rfl
theorem info_boundsR:(prog.info? 126).map (fun i=>(i.zero,i.size,i.bytes))=some (some (.slice none 0 0),1,24):=by kernel_rfl
noncomputable def bodySo:Code:=Tryz.f37.body.getD .skip
noncomputable def blkSo:Code:=(blockAt 0 bodySo).getD .skip
noncomputable def restSo:Code:=(behind 0 bodySo).getD .skip
set_option maxRecDepth 100000 in
theorem lit114 (t:Array Value) (h:t.size=114):∃ c:Nat->Value,t=#[c 0,c 1,c 2,c 3,c 4,c 5,c 6,c 7,c 8,c 9,c 10,c 11,c 12,c 13,c 14,c 15,c 16,c 17,c 18,c 19,c 20,c 21,c 22,c 23,c 24,c 25,c 26,c 27,c 28,c 29,c 30,c 31,c 32,c 33,c 34,c 35,c 36,c 37,c 38,c 39,c 40,c 41,c 42,c 43,c 44,c 45,c 46,c 47,c 48,c 49,c 50,c 51,c 52,c 53,c 54,c 55,c 56,c 57,c 58,c 59,c 60,c 61,c 62,c 63,c 64,c 65,c 66,c 67,c 68,c 69,c 70,c 71,c 72,c 73,c 74,c 75,c 76,c 77,c 78,c 79,c 80,c 81,c 82,c 83,c 84,c 85,c 86,c 87,c 88,c 89,c 90,c 91,c 92,c 93,c 94,c 95,c 96,c 97,c 98,c 99,c 100,c 101,c 102,c 103,c 104,c 105,c 106,c 107,c 108,c 109,c 110,c 111,c 112,c 113]/\∀ i,t.getD i undef=c i:=by
 refine ⟨fun i=>t.getD i undef,?_,fun _=>rfl⟩
 have h1:=arr_lits t
 rw [h] at h1
 exact h1.trans (by kernel_rfl)
set_option maxRecDepth 100000 in
set_option maxHeartbeats 4000000 in
theorem reflists_any (l:List UInt8) (hl:l.length<=1000000) (p2 p5:Value) (f:Act) (w:World) (hF:Fr 114 [(0,strV l),(2,p2),(3,.int .i64 0),(5,p5),(6,.slice none 0 0),(7,.int .i64 0),(8,.int .i64 0)] f) :
  Code.wp prog blkSo (Exit.then (fun a' w'=>∃ v,w'.ownsRow w.heap.size 9 1 v (splitO l).length (strs (splitO l))/\Mod No w w'/\Fr 114 [(0,strV l),(2,p2),(3,.int .i64 0),(5,p5),(6,v)] a') Nope) f w:=by
 refine wp_part fun J K' hJ hK=>?_
 have HJ:=zh hJ
 clear hJ
 have HZ:=zh (str_len3 l)
 have HPT:=zh (str_part l)
 have HSL:=zh (splitO_length_le l)
 obtain ⟨i0,hi0,hz0,hz1,hz2⟩:=info_parts info_str
 unfold strV at *
 generalize (⟨l.toArray⟩:ByteArray)=Z at *
 have hZs:(Z.size:Int)=(l.length:Int):=by rw [HZ.out]
 obtain ⟨ts,ds⟩:=f
 obtain ⟨hsz,hds,hs0,hs2,hs3,hs5,hs6,hs7,hs8,-⟩:=hF
 dsimp only at hsz hds hs0 hs2 hs3 hs5 hs6 hs7 hs8
 subst hds
 obtain ⟨c,rfl,hc⟩:=lit114 ts hsz
 rw [hc] at hs0
 rw [hc] at hs2
 rw [hc] at hs3
 rw [hc] at hs5
 rw [hc] at hs6
 rw [hc] at hs7
 rw [hc] at hs8
 simp only [hs0,hs2,hs3,hs5,hs6,hs7,hs8]
 clear hc hsz hs0 hs2 hs3 hs5 hs6 hs7 hs8
 conv=>arg 2;whnf
 go_step
 go_loopw [6,7,8] (fun ls fr q wr=>∃ outs:List (List UInt8),wr.ownsRow w.heap.size 9 1 ls outs.length (strs outs)/\Mod No w wr ∧
  ((∃ a i:Nat,a<=i/\i<=l.length/\fr=.int .i64 (a:Int)/\q=.int .i64 (i:Int)/\(∀ j,a<=j->j < i->Lib.occAt l [124,124] j=false)/\outs++splitO (l.drop a)=splitO l) ∨
   (∃ z:Nat,l.length < z/\fr=.int .i64 (z:Int)/\q=.int .i64 (z:Int)/\outs=splitO l))) (fun _ _ q _=>l.length+3 - (intOf q).toNat)
 case atStart=>exact ⟨[],⟨rfl,.inl ⟨rfl,rfl⟩⟩,Mod.refl _ _,.inl ⟨0,0,by omega,by omega,rfl,rfl,(fun j _ h=>by omega),by simp⟩⟩
 case round =>
  obtain ⟨outs,hown,hmod,hst⟩:=hrel
  have HO:=zh hown
  have HM:=zh hmod
  have hbase:=hmod.size
  clear hown hmod
  obtain ⟨oa,oc,rfl⟩:=own_len HO.out
  rcases hst with ⟨a,i,hai,hil,rfl,rfl,hno,hsp⟩ | ⟨z,hz,rfl,rfl,rfl⟩
  ·have HNO:=zh hno
   have HSP:=zh hsp
   have hol:outs.length<=1000001:=by
    have h1:=congrArg List.length hsp
    rw [List.length_append] at h1
    have:=HSL.out
    omega
   clear hno hsp
   have ha0:(0:Int)<=(a:Int):=Int.natCast_nonneg _
   have hi0':(0:Int)<=(i:Int):=Int.natCast_nonneg _
   have hai':(a:Int)<=(i:Int):=by omega
   have hil':(i:Int)<=(Z.size:Int):=by omega
   have hxp:=HPT.out a i
   have HX:=zh hxp
   by_cases heq:i=l.length
   ·subst heq
    have HLS:=zh (show outs++[(l.drop a).take (l.length - a)]=splitO l by
     rw [<- HSP.out,split_last (fun j h1 h2=>HNO.out j h1 h2),List.take_of_length_le (by rw [List.length_drop];exact Nat.le_refl _)])
    generalize hxe:(l.drop a).take (l.length - a)=px at *
    have HMA:=zh ((Mod.refl No wr).alloc (.cells #[.string ⟨px.toArray⟩] 9))
    have HOA:=zh (own_keepM HO.out HMA.out (fun _ _ f=>f))
    have HSA:=zh (show Sl (wr.alloc (.cells #[.string ⟨px.toArray⟩] 9)) No 9 (.slice (some ⟨wr.heap.size,0,none⟩) 1 1) 1 [.string ⟨px.toArray⟩] from sl_new wr _ _ (Nat.le_refl _) (Nat.le_of_ble_eq_true rfl))
    have hbA:w.heap.size<=(wr.alloc (.cells #[.string ⟨px.toArray⟩] 9)).heap.size:=Nat.le_trans hbase HMA.out.size
    go_wp2_with (at_builtin;refine app_sl _ rfl _ _ 38 rfl w.heap.size 9 i0 (.string ⟨#[]⟩) 1 16 underlying38 hi0 hz0 hz1 hz2 rfl (by decide) _ _ _ rfl HOA.out No 9 _ 1 [.string ⟨px.toArray⟩] rfl HSA.out rfl (by simp [Value.oneCell']) ?_ ?_ hbA ?_)
    ·unfold maxLen;omega
    ·omega
    intro v' w2 hown2 hg2 _
    have HO2:=zh hown2
    have HM2:=zh ((HM.out.trans HMA.out).then (Mod.of_grown (S:=fun q=>w.heap.size<=q) hg2 (fun q e _=>(HOA.out.lt _ e).1)) (fun i hi hq=>absurd hi (by omega)))
    clear hown2 hg2
    obtain ⟨va,vc,rfl⟩:=own_len HO2.out
    go_wp2_with fail
    refine ⟨⟨outs++[px],?_,HM2.out,.inr ⟨l.length+2,by omega,rfl,rfl,HLS.out⟩⟩,by show l.length+3 - ((l.length:Int)+2).toNat < l.length+3 - (l.length:Int).toNat;omega⟩
    rw [List.length_append,strs_append]
    exact HO2.out
   ·have hie:((i:Int) == (l.length:Int))=false:=by simp;omega
    by_cases hoc:Lib.occAt l [124,124] i=true
    ·obtain ⟨hs1,hs2⟩:=split_part hai hil HNO.out hoc
     have HLS:=zh (show (outs++[(l.drop a).take (i - a)])++splitO (l.drop (i+2))=splitO l by
      rw [<- HSP.out,hs1];simp)
     have h12:(i:Int)+1 < (Z.size:Int):=by omega
     have h22:(i:Int)+2<=(Z.size:Int):=by omega
     have hx2:=HPT.out i (i+2)
     have ht2:(⟨((l.drop i).take (i+2 - i)).toArray⟩:ByteArray).toList=[124,124]:=by
      rw [str_list,show i+2 - i=2 by omega]
      rw [occ_iff] at hoc
      exact of_decide_eq_true hoc
     generalize (⟨((l.drop i).take (i+2 - i)).toArray⟩:ByteArray)=T at *
     clear hs1 hoc
     generalize hxe:(l.drop a).take (i - a)=px at *
     have HMA:=zh ((Mod.refl No wr).alloc (.cells #[.string ⟨px.toArray⟩] 9))
     have HOA:=zh (own_keepM HO.out HMA.out (fun _ _ f=>f))
     have HSA:=zh (show Sl (wr.alloc (.cells #[.string ⟨px.toArray⟩] 9)) No 9 (.slice (some ⟨wr.heap.size,0,none⟩) 1 1) 1 [.string ⟨px.toArray⟩] from sl_new wr _ _ (Nat.le_refl _) (Nat.le_of_ble_eq_true rfl))
     have hbA:w.heap.size<=(wr.alloc (.cells #[.string ⟨px.toArray⟩] 9)).heap.size:=Nat.le_trans hbase HMA.out.size
     go_wp2_with (at_builtin;refine app_sl _ rfl _ _ 38 rfl w.heap.size 9 i0 (.string ⟨#[]⟩) 1 16 underlying38 hi0 hz0 hz1 hz2 rfl (by decide) _ _ _ rfl HOA.out No 9 _ 1 [.string ⟨px.toArray⟩] rfl HSA.out rfl (by simp [Value.oneCell']) ?_ ?_ hbA ?_)
     ·unfold maxLen;omega
     ·omega
     intro v' w2 hown2 hg2 _
     have HO2:=zh hown2
     have HM2:=zh ((HM.out.trans HMA.out).then (Mod.of_grown (S:=fun q=>w.heap.size<=q) hg2 (fun q e _=>(HOA.out.lt _ e).1)) (fun i hi hq=>absurd hi (by omega)))
     clear hown2 hg2
     obtain ⟨va,vc,rfl⟩:=own_len HO2.out
     go_wp2_with fail
     refine ⟨⟨outs++[px],?_,HM2.out,.inl ⟨i+2,i+2,by omega,by omega,rfl,rfl,(fun j h1 h2=>by omega),HLS.out⟩⟩,by show l.length+3 - ((i:Int)+2).toNat < l.length+3 - (i:Int).toNat;omega⟩
     rw [List.length_append,strs_append]
     exact HO2.out
    ·have hof:Lib.occAt l [124,124] i=false:=by simpa using hoc
     have HN2:=zh (show ∀ j,a<=j->j < i+1->Lib.occAt l [124,124] j=false from fun j h1 h2=>by
      rcases Nat.lt_or_ge j i with h | h
      ·exact HNO.out j h1 h
      ·obtain rfl:j=i:=by omega
       exact hof)
     by_cases h12:i+1 < l.length
     ·have h12':(i:Int)+1 < (Z.size:Int):=by omega
      have h22:(i:Int)+2<=(Z.size:Int):=by omega
      have hx2:=HPT.out i (i+2)
      have ht2:((⟨((l.drop i).take (i+2 - i)).toArray⟩:ByteArray).toList == [124,124])=false:=by
       rw [str_list,show i+2 - i=2 by omega]
       rw [occ_iff] at hof
       simpa using of_decide_eq_false hof
      generalize (⟨((l.drop i).take (i+2 - i)).toArray⟩:ByteArray)=T at *
      clear hoc hof hxp
      go_wp2_with fail
      exact ⟨⟨outs,HO.out,HM.out,.inl ⟨a,i+1,by omega,by omega,rfl,rfl,HN2.out,HSP.out⟩⟩,by show l.length+3 - ((i:Int)+1).toNat < l.length+3 - (i:Int).toNat;omega⟩
     ·have h12':(Z.size:Int)<=(i:Int)+1:=by omega
      clear hoc hof hxp
      go_wp2_with fail
      exact ⟨⟨outs,HO.out,HM.out,.inl ⟨a,i+1,by omega,by omega,rfl,rfl,HN2.out,HSP.out⟩⟩,by show l.length+3 - ((i:Int)+1).toNat < l.length+3 - (i:Int).toNat;omega⟩
  ·have h1:¬ ((z:Int)<=(Z.size:Int)):=by omega
   have h0:(0:Int)<=(z:Int):=Int.natCast_nonneg _
   go_wp2_with fail
   exact Met.intro (HJ.out _ _ ⟨_,HO.out,HM.out,rfl,rfl,rfl,rfl,rfl,rfl,rfl,trivial⟩)
theorem spanR_bad {l:List UInt8} {y:List UInt8} (hs:wordsL l ≠ [[42]]) (hy:y ∈ splitO l) (hn:listL y=none):spanL l=none:=by
 unfold spanL
 rw [if_neg hs]
 by_cases h8:8 < (splitO l).length
 ·rw [if_pos h8]
 ·rw [if_neg h8]
  obtain ⟨k,hk,rfl⟩:=List.getElem_of_mem hy
  rw [allO_fail hk hn];rfl
theorem bndR_one {X:Nat->Prop} {w:World} {bs:List BndX} (h:∀ x ∈ bs,Sl w X 9 x.pv x.b.v.pre.length (strs x.b.v.pre)):∀ u ∈ bs.flatMap BndX.cells,u.oneCell'=true:=by
 intro u hu
 obtain ⟨x,hx,hu⟩:=List.mem_flatMap.1 hu
 obtain ⟨a,c,e⟩:=(h x hx).len
 unfold BndX.cells verCs at hu
 rw [e] at hu
 simp only [List.mem_cons,List.not_mem_nil,or_false] at hu
 rcases hu with rfl | rfl | rfl | rfl | rfl <;> rfl
theorem boundsR_few {l:List UInt8} {bs:List Bnd} (h:boundsL l=some bs):0 < bs.length/\bs.length<=2:=by
 unfold boundsL at h
 cases hv:verOf (l.drop (signL l).length) with
 | none=>rw [hv] at h;cases h
 | some v =>
  rw [hv] at h
  obtain rfl:=Option.some.inj h
  unfold boundsV
  split
  ·simp
  ·split
   ·simp
   ·split <;> simp
set_option maxRecDepth 100000 in
set_option maxHeartbeats 8000000 in
theorem refspan_rest (l:List UInt8) (hl:l.length<=1000000) (hst:wordsL l ≠ [[42]]) (w0 w:World) (R:Ending->World->Prop) (r2 ob:Nat) (lv:Value) (f:Act)
  (HR:Hid (∀ e w',(((spanL l=none/\e=.returned (.tuple #[.agg #[.bool false,.slice none 0 0],.int .i64 61])) ∨
   ∃ s ov,spanL l=some s/\e=.returned (.tuple #[.agg #[.bool s.any,ov],.int .i64 0])/\OrsAt w' ov s.ors)/\Mod No w0 w')->R e w'))
  (hp:w0.heap.size<=r2/\r2 < ob/\ob < w.heap.size) (hm:Mod No w0 w)
  (h2:w.heap[r2]? = some (.cells #[.bool false,.slice none 0 0] 79 (0,0))) (ho:w.heap[ob]? = some (.cells #[.bool false,.slice none 0 0] 79 (0,0)))
  (hlv:Sl w No 9 lv (splitO l).length (strs (splitO l)))
  (hF:Fr 114 [(0,strV l),(2,.pointer (some ⟨r2,0,none⟩)),(3,.int .i64 0),(5,.pointer (some ⟨ob,0,none⟩)),(6,lv)] f) :
  Code.wp prog restSo (bodyPost prog Tryz.f37 R) f w:=by
 have HWO:=zh (fun (x:List UInt8) (h:x ∈ splitO l)=>refwords_any x (Nat.le_trans (splitO_mem_le l x h) hl))
 have HBO:=zh (fun (y:List UInt8) (hy:y ∈ splitO l) (x:List UInt8) (hx:x ∈ wordsL y)=>refbounds_any x (words_mem_le y x hx).2 (Nat.le_trans (words_mem_le y x hx).1 (Nat.le_trans (splitO_mem_le l y hy) hl)))
 have HP:=zh hp
 have HST:=zh hst
 obtain ⟨va,vc,rfl⟩:=hlv.len
 have HLV:=zh hlv
 have HS:=zh (show SoI w0 w.heap.size ob r2 [] w (.slice none 0 0) [] from ⟨rfl,ho,⟨rfl,.inl ⟨rfl,rfl⟩⟩,(fun x hx=>by cases hx),h2,hm,Nat.le_refl _⟩)
 have HB8:=zh (show 8 < (splitO l).length->spanL l=none from fun h=>by unfold spanL;rw [if_neg hst,if_pos h])
 have HG:=zh (show (splitO l).length<=8->∀ xs,allO listL (splitO l)=some xs->spanL l=some ⟨false,xs⟩ from fun h xs hx=>by unfold spanL;rw [if_neg hst,if_neg (by omega),hx];rfl)
 have HMR:=zh (Mod.refl No w)
 have HSB:=zh (fun y (hy:y ∈ splitO l) (hn:listL y=none)=>spanR_bad hst hy hn)
 unfold strV at *
 generalize (⟨l.toArray⟩:ByteArray)=Z at *
 clear hst hp hm h2 ho hlv hl
 obtain ⟨ts,ds⟩:=f
 obtain ⟨hsz,hds,hs0,hs2,hs3,hs5,hs6,-⟩:=hF
 dsimp only at hsz hds hs0 hs2 hs3 hs5 hs6
 subst hds
 obtain ⟨c,rfl,hc⟩:=lit114 ts hsz
 rw [hc] at hs0
 rw [hc] at hs2
 rw [hc] at hs3
 rw [hc] at hs5
 rw [hc] at hs6
 simp only [hs0,hs2,hs3,hs5,hs6]
 clear hc hsz hs0 hs2 hs3 hs5 hs6
 conv=>arg 2;whnf
 generalize splitO l=ps at *
 by_cases h8:8 < ps.length
 ·have HN:=zh (HB8.out h8)
  have h8':(8:Int) < (ps.length:Int):=by omega
  have c2:=cell_ofA (HMR.out.keep HS.out.res2 (fun f=>f)) (i:=0) rfl
  have c2':=cell_ofA (HMR.out.keep HS.out.res2 (fun f=>f)) (i:=1) rfl
  have f2:=frozen_of 0 (HMR.out.keep HS.out.res2 (fun f=>f))
  have f2':=frozen_of 1 (HMR.out.keep HS.out.res2 (fun f=>f))
  obtain ⟨k2,k3⟩:=res_set (HMR.out.keep HS.out.res2 (fun f=>f)) (HS.out.mod.trans HMR.out) HP.out.1 (.bool false) (.slice none 0 0)
  have hl2:=loadSpan k2
  have HK3:=zh k3
  clear k2 k3
  go_wp2_with fail
  exact bodyPost_ret (v:=.tuple #[.agg #[.bool false,.slice none 0 0],.int .i64 61]) (by simp [results,results37,asAddr,hl2]) rfl (fin HR ⟨.inl ⟨HN.out,rfl⟩,HK3.out⟩)
 ·have h8':(ps.length:Int)<=8:=by omega
  have hp8:ps.length<=8:=by omega
  clear HB8 HMR
  go_wp2_with fail
  go_loopw [9] (fun q wr=>∃ (k:Nat) (ov:Value) (xs:List OrX),k<=ps.length/\q=.int .i64 (k:Int)/\SoI w0 w.heap.size ob r2 (ps.take k) wr ov xs/\Sl wr No 9 (.slice va ps.length vc) ps.length (strs ps)) (fun q _=>ps.length - (intOf q).toNat)
  case atStart=>exact ⟨0,_,_,by omega,rfl,HS.out,HLV.out⟩
  case round =>
   obtain ⟨k,ov,xs,hk,rfl,hs,hlv⟩:=hrel
   clear HS HLV
   have HS:=zh hs
   have HLV:=zh hlv
   obtain ⟨oa,oc,rfl⟩:=own_len HS.out.own
   have hk0:(0:Int)<=(k:Int):=Int.natCast_nonneg _
   clear hs hlv
   by_cases hlt:k < ps.length
   ·have hk1:(k:Int) < (ps.length:Int):=by omega
    obtain ⟨gb,go,gc,hvs,_⟩:=HLV.out.shape (by omega)
    cases hvs
    have hcell:=HLV.out.cellN (i:=k) (by rw [strs_length];exact hlt)
    rw [show (strs ps)[k]'(by rw [strs_length];exact hlt)=.string ⟨ps[k].toArray⟩ from by simp [strs,strV]] at hcell
    have hmem:ps[k] ∈ ps:=List.getElem_mem hlt
    have HWK:=zh (HWO.out _ hmem)
    have HBK:=zh (HBO.out _ hmem)
    have HSK:=zh (HSB.out _ hmem)
    have HAT:=zh (show ∀ b,listL ps[k]=some b->allO listL (ps.take (k+1))=some (xs.map OrX.l++[b]) from fun b hb=>allO_take hlt HS.out.all hb)
    have HTK:=zh (show ps.take (k+1)=ps.take k++[ps[k]] from List.take_succ_eq_append_getElem hlt)
    have HLL:=zh (show listL ps[k]=if wordsL ps[k]=[]\/8 < (wordsL ps[k]).length then none else (allO boundsL (wordsL ps[k])).map List.flatten from rfl)
    clear HAT
    unfold strV at *
    generalize ps[k]=y at *
    go_wp2_with fail
    with_reducible refine (HWK.out _).mono ?_
    rintro e W1 ⟨wv,rfl,hown,hm1⟩
    have HW1:=zh (Sl.of_own (X:=No) hown (fun _ _ f=>f))
    obtain ⟨wa,wc,rfl⟩:=HW1.out.len
    have HM1:=zh hm1
    clear hown hm1 hcell HWK
    generalize wordsL y=ws at *
    by_cases hbad:ws=[]\/8 < ws.length
    ·have HN:=zh (HSK.out (by rw [HLL.out,if_pos hbad]))
     have hb3:ws.length=0\/8 < ws.length:=hbad.imp (fun h=>by rw [h];rfl) id
     have c2:=cell_ofA (HM1.out.keep HS.out.res2 (fun f=>f)) (i:=0) rfl
     have c2':=cell_ofA (HM1.out.keep HS.out.res2 (fun f=>f)) (i:=1) rfl
     have f2:=frozen_of 0 (HM1.out.keep HS.out.res2 (fun f=>f))
     have f2':=frozen_of 1 (HM1.out.keep HS.out.res2 (fun f=>f))
     obtain ⟨k2,k3⟩:=res_set (HM1.out.keep HS.out.res2 (fun f=>f)) (HS.out.mod.trans HM1.out) HP.out.1 (.bool false) (.slice none 0 0)
     have hl2:=loadSpan k2
     have HK3:=zh k3
     clear k2 k3
     clear hbad HLL HBK
     generalize ws.length=wn at *
     rcases hb3 with rfl | h
     ·go_wp2_with fail
      exact bodyPost_ret (v:=.tuple #[.agg #[.bool false,.slice none 0 0],.int .i64 61]) (by simp [results,results37,asAddr,hl2]) rfl (fin HR ⟨.inl ⟨HN.out,rfl⟩,HK3.out⟩)
     ·have h1:(8:Int) < (wn:Int):=by omega
      have h2:(1:Int)<=(wn:Int):=by omega
      go_wp2_with fail
      exact bodyPost_ret (v:=.tuple #[.agg #[.bool false,.slice none 0 0],.int .i64 61]) (by simp [results,results37,asAddr,hl2]) rfl (fin HR ⟨.inl ⟨HN.out,rfl⟩,HK3.out⟩)
    ·have hg1:ws.length ≠ 0:=fun h=>hbad (.inl (List.eq_nil_of_length_eq_zero h))
     have hwl:ws.length<=8:=by
      have:¬ 8 < ws.length:=fun h=>hbad (.inr h)
      omega
     have hg2:(ws.length:Int)<=8:=by omega
     have hg3:(1:Int)<=(ws.length:Int):=by omega
     have HLL2:=zh (show listL y=(allO boundsL ws).map List.flatten by rw [HLL.out,if_neg hbad])
     clear hbad HLL
     go_wp2_with fail
     clear hg1 hg2 hg3
     go_loopw [11,12] (fun u q wr=>∃ (k:Nat) (bs:List BndX) (bss:List (List Bnd)),k<=ws.length/\q=.int .i64 (k:Int)/\allO boundsL (ws.take k)=some bss/\bs.map BndX.b=bss.flatten/\bs.length<=2*k/\wr.ownsRow W1.heap.size 153 5 u bs.length (bs.flatMap BndX.cells) ∧
      (∀ x ∈ bs,Sl wr No 9 x.pv x.b.v.pre.length (strs x.b.v.pre))/\Mod No W1 wr) (fun _ q _=>ws.length - (intOf q).toNat)
     case atStart=>exact ⟨0,[],[],by omega,rfl,rfl,rfl,by simp,⟨rfl,.inl ⟨rfl,rfl⟩⟩,(fun x hx=>by cases hx),Mod.refl _ _⟩
     case round =>
      obtain ⟨j,bs,bss,hj,rfl,hall,hbs,hbl,hown,heach,hmod⟩:=hrel
      have HO:=zh hown
      have HE:=zh heach
      have HM:=zh hmod
      have HA:=zh hall
      have HBS:=zh hbs
      have hj0:(0:Int)<=(j:Int):=Int.natCast_nonneg _
      obtain ⟨ua,uc,rfl⟩:=own_len HO.out
      clear hown heach hmod hall hbs
      by_cases hjt:j < ws.length
      ·have hj1:(j:Int) < (ws.length:Int):=by omega
       obtain ⟨fb,fo,fc,hvs,_⟩:=HW1.out.shape (by omega)
       cases hvs
       have hcell:=HM.out.cell (HW1.out.cellN (i:=j) (by rw [strs_length];exact hjt)) (fun f=>f)
       rw [show (strs ws)[j]'(by rw [strs_length];exact hjt)=.string ⟨ws[j].toArray⟩ from by simp [strs,strV]] at hcell
       have HWB:=zh (HBK.out _ (List.getElem_mem hjt))
       have HAT:=zh (show ∀ b,boundsL ws[j]=some b->allO boundsL (ws.take (j+1))=some (bss++[b]) from fun b hb=>allO_take hjt HA.out hb)
       have HAF:=zh (show boundsL ws[j]=none->allO boundsL ws=none from fun hb=>allO_fail hjt hb)
       generalize ws[j]=wk at *
       go_wp2_with fail
       with_reducible refine (HWB.out _).mono ?_
       rintro e W2 ⟨hv,hm2⟩
       rcases hv with ⟨hn,rfl⟩ | ⟨bk,vv,hbk,rfl,hbx⟩
       ·have HN:=zh (HSK.out (by rw [HLL2.out,HAF.out hn];rfl))
        have hmz:=(HM1.out.trans HM.out).trans hm2
        have c2:=cell_ofA (hmz.keep HS.out.res2 (fun f=>f)) (i:=0) rfl
        have c2':=cell_ofA (hmz.keep HS.out.res2 (fun f=>f)) (i:=1) rfl
        have f2:=frozen_of 0 (hmz.keep HS.out.res2 (fun f=>f))
        have f2':=frozen_of 1 (hmz.keep HS.out.res2 (fun f=>f))
        obtain ⟨k2,k3⟩:=res_set (hmz.keep HS.out.res2 (fun f=>f)) (HS.out.mod.trans hmz) HP.out.1 (.bool false) (.slice none 0 0)
        have hl2:=loadSpan k2
        have HK3:=zh k3
        clear k2 k3
        clear hn hm2 hmz hcell HWB HAT HAF
        go_wp2_with fail
        exact bodyPost_ret (v:=.tuple #[.agg #[.bool false,.slice none 0 0],.int .i64 61]) (by simp [results,results37,asAddr,hl2]) rfl (fin HR ⟨.inl ⟨HN.out,rfl⟩,HK3.out⟩)
       ·obtain ⟨ys,hy1,hy2,hy3⟩:=hbx
        have HY2:=zh hy2
        have HY3:=zh hy3
        have HY1:=zh hy1
        obtain ⟨hb0,hb2⟩:=boundsR_few hbk
        have hyn:ys.length=bk.length:=by rw [<- hy1,List.length_map]
        obtain ⟨vb,vo,vc2,hvs,_⟩:=HY3.out.shape (by omega)
        cases hvs
        have HAK:=zh (HAT.out _ hbk)
        have HO2:=zh (own_keepM HO.out hm2 (fun _ _ f=>f))
        have HE2:=zh (show ∀ x ∈ bs,Sl W2 No 9 x.pv x.b.v.pre.length (strs x.b.v.pre) from fun x hx=>(HE.out x hx).kn hm2)
        have HM2:=zh (HM.out.trans hm2)
        obtain ⟨i0,hi0,hz0,hz1,hz2⟩:=info_parts info_boundR
        have hlen5:(ys.flatMap BndX.cells).length=bk.length*5:=by rw [flat_length BndX.cells_length,hyn]
        have hbase:=HM2.out.size
        clear hy1 hy2 hy3 hbk hm2 HAT HAF HWB hcell HO HE HM
        go_wp2_with (at_builtin;refine app_sl _ rfl _ _ 126 rfl W1.heap.size 153 i0 (.agg #[.string ⟨#[]⟩,.int .i64 0,.int .i64 0,.int .i64 0,.slice none 0 0]) 5 64 underlying126 hi0 hz0 hz1 hz2 rfl (by decide) _ _ _ rfl HO2.out No 153 _ bk.length (ys.flatMap BndX.cells) rfl HY3.out hlen5 (bndR_one HY2.out) ?_ ?_ hbase ?_)
        ·unfold maxLen;omega
        ·omega
        intro v' W3 hown3 hg3 _
        have HM3:=zh (show Mod (fun q=>(Value.slice ua bs.length uc).ownBlock=some q) W2 W3 from Mod.of_grown hg3 (fun q e _=>e))
        have HOB:=zh (fun q (e:(Value.slice ua bs.length uc).ownBlock=some q)=>own_heapC HO2.out e)
        have HE3:=zh (show ∀ x ∈ bs++ys,Sl W3 No 9 x.pv x.b.v.pre.length (strs x.b.v.pre) from fun x hx=>by
         have hk:Sl W2 No 9 x.pv x.b.v.pre.length (strs x.b.v.pre):=(List.mem_append.1 hx).elim (HE2.out x) (HY2.out x)
         refine hk.keep HM3.out (fun q cur fz e _ hh=>?_)
         obtain ⟨_,cur',hh2⟩:=HOB.out q e
         rw [hh] at hh2
         cases hh2)
        have HM4:=zh (HM2.out.then HM3.out (S:=No) (fun i hi e=>by have:=(HOB.out i e).1;omega))
        have HO3:=zh hown3
        clear hown3 hg3
        obtain ⟨za,zc,rfl⟩:=own_len HO3.out
        go_wp2_with fail
        exact ⟨⟨j+1,bs++ys,bss++[bk],by omega,rfl,HAK.out,by rw [List.map_append,HBS.out,HY1.out];simp,by rw [List.length_append];omega,by rw [List.length_append,hyn,List.flatMap_append];exact HO3.out,HE3.out,HM4.out⟩,by show ws.length - ((j:Int)+1).toNat < ws.length - (j:Int).toNat;omega⟩
      ·obtain rfl:j=ws.length:=by omega
       have hE:ws.take ws.length=ws:=List.take_length
       rw [hE] at HA
       have hj1:¬ (ws.length:Int) < (ws.length:Int):=by omega
       clear hE hjt
       have HLY:=zh (show listL y=some bss.flatten by rw [HLL2.out,HA.out];rfl)
       have ho:=(HM1.out.trans HM.out).keep HS.out.out (fun f=>f)
       have o1:=cell_ofA ho (i:=1) rfl
       have f1:=frozen_of 1 ho
       have hmA:=(HM1.out.trans HM.out).alloc (.cells #[.slice ua bs.length uc] 126)
       have HOV:=zh (own_keepM HS.out.own hmA (fun _ _ f=>f))
       have HMA:=zh hmA
       have hbase:w.heap.size<=(wr.alloc (.cells #[.slice ua bs.length uc] 126)).heap.size:=Nat.le_trans HS.out.size hmA.size
       have HNEW:=zh (show BndsAt (wr.alloc (.cells #[.slice ua bs.length uc] 126)) (.slice ua bs.length uc) bss.flatten from
        ⟨bs,HBS.out,fun x hx=>(HE.out x hx).keep (S:=No) ((Mod.refl No wr).alloc _) (fun _ _ _ f=>f.elim),by
         rw [<- HBS.out,List.length_map]
         exact Sl.keep (S:=No) (Sl.of_own (X:=No) HO.out (fun _ _ f=>f)) ((Mod.refl No wr).alloc _) (fun _ _ _ f=>f.elim)⟩)
       have HSN:=zh (sl_new wr 126 [.slice ua bs.length uc] (n:=1) (c:=1) (Nat.le_refl _) (Nat.le_of_ble_eq_true rfl))
       obtain ⟨i1,hi1,hy0,hy1,hy2⟩:=info_parts info_boundsR
       have hxl:xs.length<=8:=by
        have:=allO_length HS.out.all
        rw [List.length_map,List.length_take] at this
        omega
       clear hmA HO HE HBS HA
       go_wp2_with (at_builtin;refine app_sl _ rfl _ _ 77 rfl w.heap.size 126 i1 (.slice none 0 0) 1 24 underlying77 hi1 hy0 hy1 hy2 rfl (by decide) _ _ _ rfl HOV.out No 126 _ 1 [.slice ua bs.length uc] rfl HSN.out rfl (by simp [Value.oneCell']) ?_ ?_ hbase ?_)
       ·unfold maxLen;omega
       ·omega
       intro v' W3 hown3 hg3 _
       have HFIN:=zh (fun v'' (e:v'=v'')=>HS.out.more (v':=v'') HMA.out HP.out HLY.out hg3 (e ▸ hown3) HNEW.out)
       have hgm:=Mod.of_grown (S:=fun q=>(Value.slice oa xs.length oc).ownBlock=some q) hg3 (fun q e _=>e)
       have ho3:W3.heap[ob]? = some (.cells #[.bool false,.slice oa xs.length oc] 79 (0,0)) :=
        hgm.keep (heap_alloc_old _ ho) (fun e=>by have h1:=(own_heapC HOV.out e).1;have h2:=HP.out.2.2;omega)
       have HL3:=zh (show Sl W3 No 9 (.slice (some ⟨gb,go,none⟩) ps.length vc) ps.length (strs ps) from (HLV.out.kn HMA.out).keep hgm (fun q cur fz e _ hh=>by
        obtain ⟨_,cur',hh2⟩:=own_heapC HOV.out e
        rw [hh] at hh2
        cases hh2))
       have o3:=cell_ofA ho3 (i:=1) rfl
       have f3:=frozen_of 1 ho3
       have HO3:=zh ho3
       obtain ⟨za,zc,hz⟩:=own_len hown3
       have HF2:=zh (HFIN.out _ hz)
       clear HFIN hown3 hg3 ho3 o1 f1 ho HNEW HOV HMA hbase hgm
       subst hz
       go_wp2_with fail
       have HF3:=HF2.out
       rw [<- HTK.out] at HF3
       exact ⟨⟨k+1,_,_,by omega,rfl,HF3,HL3.out.keep (Mod.cell1 W3 ob 1 _) (fun q cur fz e _ hh=>by
         have e2:q=ob:=e
         subst e2
         rw [HO3.out] at hh
         cases hh)⟩,by show ps.length - ((k:Int)+1).toNat < ps.length - (k:Int).toNat;omega⟩
   ·obtain rfl:k=ps.length:=by omega
    have hE:ps.take ps.length=ps:=List.take_length
    rw [hE] at HS
    have HN:=zh (HG.out hp8 _ HS.out.all)
    have c2:=cell_ofA HS.out.res2 (i:=0) rfl
    have c2':=cell_ofA HS.out.res2 (i:=1) rfl
    have f2:=frozen_of 0 HS.out.res2
    have f2':=frozen_of 1 HS.out.res2
    have o0:=cell_ofA HS.out.out (i:=0) rfl
    have o1:=cell_ofA HS.out.out (i:=1) rfl
    obtain ⟨k2,k3⟩:=res_set HS.out.res2 HS.out.mod HP.out.1 (.bool false) (.slice oa xs.length oc)
    have hl2:=loadSpan k2
    have HK3:=zh k3
    have HOR:=zh (show OrsAt ((wr.setCell ⟨r2,0,none⟩ (.bool false)).setCell ⟨r2,1,none⟩ (.slice oa xs.length oc)) (.slice oa xs.length oc) (xs.map OrX.l) from by
     have hm:Mod (fun p=>p=r2) wr ((wr.setCell ⟨r2,0,none⟩ (.bool false)).setCell ⟨r2,1,none⟩ (.slice oa xs.length oc)):=((Mod.refl (fun p=>p=r2) wr).setCell (p:=⟨r2,0,none⟩) (fun _=>rfl) _).setCell (p:=⟨r2,1,none⟩) (fun _=>rfl) _
     refine ⟨xs,rfl,fun x hx=>BndsAt.keep (HS.out.each x hx) hm (fun q cur fz e hq hc hmem=>?_),?_⟩
     ·have e2:q=r2:=hq
      subst e2
      rw [HS.out.res2] at hc;cases hc;simp at hmem
     ·rw [List.length_map]
      refine (Sl.of_own (X:=No) HS.out.own (fun _ _ f=>f)).keep hm (fun q cur fz hq _ hc=>?_)
      have e2:q=r2:=hq
      subst e2
      rw [HS.out.res2] at hc;cases hc)
    clear k2 k3 hE hlt
    go_wp2_with fail
    exact bodyPost_ret (v:=.tuple #[.agg #[.bool false,.slice oa xs.length oc],.int .i64 0]) (by simp [results,results37,asAddr,hl2]) rfl (fin HR ⟨.inr ⟨_,_,HN.out,rfl,HOR.out⟩,HK3.out⟩)
set_option maxRecDepth 100000 in
set_option maxHeartbeats 8000000 in
theorem refspan_any (l:List UInt8) (hl:l.length<=1000000) (w:World) :
  Calls prog 37 #[strV l] w fun e w'=>((spanL l=none/\e=.returned (.tuple #[.agg #[.bool false,.slice none 0 0],.int .i64 61])) ∨
   ∃ s ov,spanL l=some s/\e=.returned (.tuple #[.agg #[.bool s.any,ov],.int .i64 0])/\OrsAt w' ov s.ors)/\Mod No w w':=by
 refine calls_hide fun R hR=>?_
 have HWO:=zh (fun (x:List UInt8) (h:x.length<=l.length)=>refwords_any x (by omega))
 have HBO:=zh (fun (x:List UInt8) (h0:x ≠ []) (h:x.length<=l.length)=>refbounds_any x h0 (by omega))
 have HZ:=zh (str_len3 l)
 have HPT:=zh (str_part l)
 obtain ⟨i2,hi2,hj0,hj1,hj2⟩:=info_parts info_str
 unfold strV at *
 generalize hZe:(⟨l.toArray⟩:ByteArray)=Z at *
 have HZE:=zh hZe
 clear hZe
 have hZs:(Z.size:Int)=(l.length:Int):=by rw [HZ.out]
 go_enter func37,ntmps37
 go_upto_region 1 with fail
 obtain ⟨r2,hr2⟩:∃ g,g=w.heap.size:=⟨_,rfl⟩
 rw [<- hr2]
 generalize hw1:World.alloc w _=w1
 have h21:w1.heap[r2]? = some (.cells #[.bool false,.slice none 0 0] 79 (0,0)):=by rw [<- hw1,hr2];exact heap_alloc_new w _
 have hm1:Mod No w w1:=by rw [<- hw1];exact (Mod.refl No w).alloc _
 have HR2:=zh hr2
 have H21:=zh h21
 have HM1:=zh hm1
 clear hw1 h21 hm1 hr2
 go_wp2_with fail
 have hwo:=HWO.out l (Nat.le_refl _)
 unfold strV at hwo
 rw [HZE.out] at hwo
 with_reducible refine (hwo w1).mono ?_
 rintro e w2 ⟨wv,rfl,hown,hm2⟩
 have HWS:=zh (Sl.of_own (X:=No) hown (fun _ _ f=>f))
 obtain ⟨wa,wc,rfl⟩:=HWS.out.len
 have H22:=zh (hm2.keep H21.out (fun f=>f))
 have HM2:=zh (HM1.out.trans hm2)
 clear hown hm2 hwo H21 HM1
 by_cases hst:wordsL l=[[42]]
 ·have HG:=zh (show spanL l=some ⟨true,[]⟩ by unfold spanL;rw [if_pos hst])
  rw [hst] at HWS ⊢
  obtain ⟨fb,fo,fc,hvs,_⟩:=HWS.out.shape (by simp)
  cases hvs
  have hcell:=HWS.out.cellN (i:=0) (by simp [strs])
  rw [show (strs [[42]])[0]'(by simp [strs])=.string ⟨#[42]⟩ from rfl,Nat.add_zero] at hcell
  have c2:=cell_ofA H22.out (i:=0) rfl
  have c2':=cell_ofA H22.out (i:=1) rfl
  have f2:=frozen_of 0 H22.out
  have f2':=frozen_of 1 H22.out
  obtain ⟨k2,k3⟩:=res_set H22.out HM2.out (by rw [HR2.out];exact Nat.le_refl _) (.bool true) (.slice none 0 0)
  have hl2:=loadSpan k2
  have HK3:=zh k3
  clear k3 k2 hst
  go_wp2_with fail
  exact bodyPost_ret (v:=.tuple #[.agg #[.bool true,.slice none 0 0],.int .i64 0]) (by simp [results,results37,asAddr,hl2]) rfl (fin hR ⟨.inr ⟨_,_,HG.out,rfl,⟨[],rfl,by simp,.inl ⟨rfl,rfl,rfl⟩⟩⟩,HK3.out⟩)
 ·have HST:=zh hst
  have hlen:(wordsL l).length=1->∃ x,wordsL l=[x]/\x ≠ [42]:=fun h=>by
   match hx:wordsL l,h with
   | [x],_=>exact ⟨x,rfl,fun e=>hst (by rw [hx,e])⟩
  have hcase:((((wordsL l).length:Int) == 1)=false)\/((wordsL l).length=1/\∃ fb fo x,wa=some ⟨fb,fo,none⟩/\w2.cell? ⟨fb,fo,none⟩=some (.string x)/\(x.toList == [42])=false):=by
   by_cases h1:(wordsL l).length=1
   ·obtain ⟨x,hx,hne⟩:=hlen h1
    have hs:=HWS.out
    rw [hx] at hs
    obtain ⟨fb,fo,fc,hvs,_⟩:=hs.shape (by simp)
    cases hvs
    have hcell:=hs.cellN (i:=0) (by simp [strs])
    rw [show (strs [x])[0]'(by simp [strs])=.string ⟨x.toArray⟩ from rfl,Nat.add_zero] at hcell
    exact .inr ⟨h1,fb,fo,_,rfl,hcell,by rw [str_list];simpa using hne⟩
   ·exact .inl (by simp;omega)
  clear hst hlen HWS
  generalize (wordsL l).length=wn at *
  rcases hcase with h1 | ⟨rfl,fb,fo,x,rfl,hcell,hne⟩
  ·go_upto_block 0 with fail
   obtain ⟨ob,hob⟩:∃ g,g=w2.heap.size:=⟨_,rfl⟩
   rw [<- hob]
   generalize hw3:World.alloc w2 _=w3
   have h23:w3.heap[r2]? = some (.cells #[.bool false,.slice none 0 0] 79 (0,0)):=by rw [<- hw3];exact heap_alloc_old _ H22.out
   have ho3:w3.heap[ob]? = some (.cells #[.bool false,.slice none 0 0] 79 (0,0)):=by rw [<- hw3,hob];exact heap_alloc_new w2 _
   have hm3:Mod No w w3:=by rw [<- hw3];exact HM2.out.alloc _
   have hlt:r2 < ob:=by rw [hob];exact lt_of_heap H22.out
   clear hw3 hob
   rename_i K5 hK5
   refine wp_only (reflists_any l hl _ _ _ w3 ⟨rfl,rfl,by unfold strV;rw [HZE.out];rfl,rfl,rfl,rfl,rfl,rfl,rfl,trivial⟩) ?_
   rintro a4 w4 ⟨v,hown,hm4,hF⟩
   refine hK5 _ _ ?_
   have hr:=HR2.out
   have h1:=hm4.size
   have h2:=lt_of_heap ho3
   exact refspan_rest l hl HST.out w w4 R r2 ob v a4 hR ⟨by omega,hlt,by omega⟩ (hm3.trans hm4) (hm4.keep h23 (fun f=>f)) (hm4.keep ho3 (fun f=>f)) (Sl.of_own (X:=No) hown (fun _ _ f=>f)) hF
  ·go_upto_block 0 with fail
   obtain ⟨ob,hob⟩:∃ g,g=w2.heap.size:=⟨_,rfl⟩
   rw [<- hob]
   generalize hw3:World.alloc w2 _=w3
   have h23:w3.heap[r2]? = some (.cells #[.bool false,.slice none 0 0] 79 (0,0)):=by rw [<- hw3];exact heap_alloc_old _ H22.out
   have ho3:w3.heap[ob]? = some (.cells #[.bool false,.slice none 0 0] 79 (0,0)):=by rw [<- hw3,hob];exact heap_alloc_new w2 _
   have hm3:Mod No w w3:=by rw [<- hw3];exact HM2.out.alloc _
   have hlt:r2 < ob:=by rw [hob];exact lt_of_heap H22.out
   clear hw3 hob
   rename_i K5 hK5
   refine wp_only (reflists_any l hl _ _ _ w3 ⟨rfl,rfl,by unfold strV;rw [HZE.out];rfl,rfl,rfl,rfl,rfl,rfl,rfl,trivial⟩) ?_
   rintro a4 w4 ⟨v,hown,hm4,hF⟩
   refine hK5 _ _ ?_
   have hr:=HR2.out
   have h1:=hm4.size
   have h2:=lt_of_heap ho3
   exact refspan_rest l hl HST.out w w4 R r2 ob v a4 hR ⟨by omega,hlt,by omega⟩ (hm3.trans hm4) (hm4.keep h23 (fun f=>f)) (hm4.keep ho3 (fun f=>f)) (Sl.of_own (X:=No) hown (fun _ _ f=>f)) hF
end Go.Proofs.YtgiigemfbebcgaaGreatDoor
