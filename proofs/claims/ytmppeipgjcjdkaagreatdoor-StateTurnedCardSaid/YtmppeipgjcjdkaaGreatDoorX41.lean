/-
  Layers 0 to 14: helps of the laws of indexes. No statement is proved here; no condition.
-/
import Derived.Test.YtmppeipgjcjdkaaGreatDoorX33
import Derived.Test.YtmppeipgjcjdkaaGreatDoorX22
import Derived.Test.YtmppeipgjcjdkaaGreatDoorX40
import Derived.Test.YtmppeipgjcjdkaaGreatDoorX00
import Derived.Test.YtmppeipgjcjdkaaGreatDoorX05
import Derived.Test.YtmppeipgjcjdkaaGreatDoorX21
import Derived.Test.YtmppeipgjcjdkaaGreatDoorX01
import Derived.Deep.DeepCutAuto
import Derived.Great.Walk
import Derived.Sort.KeysCollected
namespace Go.Proofs.YtmppeipgjcjdkaaGreatDoor
open _root_.Go.Proofs.Tryz
open Go.RowKit Go.Maps Go.Sort
theorem sameKey_strT (x k:List UInt8):(Lit.string x).sameKey (.string k)=decide (x=k):=by
 rw [Bool.eq_iff_iff,WideAt.sameKey_iff (isKey_str _)]
 simp
theorem info_fl:(prog.info? 51).map (fun i=>(i.zero,i.size,i.bytes))=some (some (.agg #[.string ⟨#[]⟩,.bool false,.slice none 0 0]),3,48):=by kernel_rfl
theorem own_apartT {B:Nat} {w:World} {e:TypeId} {size:Nat} {v:Value} {n:Nat} {xs:List Value} (h:w.ownsRow B e size v n xs) {ts:List TypeId} (hne:e ∉ ts):Apart ts (fun k=>v.ownBlock=some k) w:=fun k cur fz e2 hk hc hm=>by
 obtain ⟨cur2,h5⟩:=own_heapM h hk
 rw [hc] at h5
 cases h5
 exact hne hm
theorem own_baseT {B:Nat} {w:World} {e:TypeId} {size:Nat} {v:Value} {n:Nat} {xs:List Value} (h:w.ownsRow B e size v n xs) {q:Nat} (hq:v.ownBlock=some q):B<=q:=(h.lt q hq).1
set_option maxRecDepth 100000 in
theorem fl_new {w:World} {cs:List Value} {o:Oper} {ρ:Operand->Value} (hc:cs.length=3) (x:Operand) (ho:o.op=.buildSlice 22 1 #[(0,x)]) (hx:ρ x=.agg cs.toArray) :
  (execOp ρ o).run prog w=.ok (.value (.slice (some ⟨w.heap.size,0,none⟩) 1 1)) (w.alloc (.cells cs.toArray 51)):=by
 obtain ⟨i0,hi,hz0,hz1,hz2⟩:=info_parts info_fl
 have h:=run_buildSlice (P:=prog) w 22 51 1 #[(0,.agg cs.toArray)] cs.toArray i0 _ underlying22 hi hz0 (by rw [hz1];omega) (by rw [hz1];omega) (by
  rw [hz1]
  have h2:=Great.fill_whole (s:=3) (by decide) [Value.agg cs.toArray] ((Array.range (1*3)).map ((Value.agg #[.string ⟨#[]⟩,.bool false,.slice none 0 0]).cells[· % (Value.agg #[.string ⟨#[]⟩,.bool false,.slice none 0 0]).cells.size]!)) (fun v hv=>by
   simp at hv
   subst hv
   show cs.toArray.size=3
   simp [hc]) (by simp)
  have h3:[Value.agg cs.toArray].flatMap (fun v=>v.cells.toList)=cs:=by
   show cs.toArray.toList++[]=cs
   simp
  rw [h3] at h2
  exact h2)
 unfold execOp
 simp only [ho,List.map_toArray,List.map_cons,List.map_nil,hx,Sem.run_bind]
 erw [h]
 rfl
set_option maxRecDepth 100000 in
set_option maxHeartbeats 16000000 in
theorem tfiles_any {w:World} {q m:Nat} {g:List UInt8->Nat} {t:Tr} {sz:Int} (h:TrM w q m g t sz) (htl:t.length<=100000) (hsm:∀ f ∈ t,f.path.length<=1000000/\f.b.length<=1000000) :
  Calls prog 29 #[.pointer (some ⟨q,0,none⟩)] w fun e w'=>(∃ (v:Value) (ys:List FlX),e=.returned v/\ys.map FlX.f=t/\SvX w' No v ys.length (ys.flatMap FlX.cells)/\∀ y ∈ ys,FlIn w' y)/\Mod No w w':=by
 refine calls_hide fun R hR=>?_
 obtain ⟨i0,hi0,hz0,hz1,hz2⟩:=info_parts info_fl
 have c0:=cell_ofA h.obj (i:=0) rfl
 obtain ⟨DD,d1,d2,d3⟩:=h.map.row
 have hmw:=h.map.lt
 have HMp:=zh d1
 have HD:=zh d3
 have HT:=zh h
 have HSM0:=zh hsm
 have HSZ:=zh d2
 clear h d1 d2 d3 hsm
 go_enter func29,ntmps29
 go_wp2_with (at_range;refine wpList_range_own _ rfl _ 159 rfl 9 147 key_str underlying159 heldR m (Maps.size DD) DD rfl HMp.out ?_;intro w0 hrg0 hg0 hs0)
 go_frame
 have hmr:Mod No w w0:=Mod.of_grown hg0 (fun k e _=>by cases e)
 have HRG0:=zh hrg0
 have HMR:=zh hmr
 obtain ⟨r,hr⟩:∃ r,r=w.heap.size:=⟨_,rfl⟩
 rw [<- hr] at HRG0 ⊢
 obtain ⟨base,hbase⟩:∃ b,b=w0.heap.size:=⟨_,rfl⟩
 have HRR:=zh (show r < base from by rw [hbase,hs0,hr];omega)
 have HRW:=zh hr
 have HBB:=zh (show w.heap.size<=base from by rw [hbase];exact hmr.size)
 have HB0:=zh hbase
 have HALL0:=zh (show ∀ f ∈ t,Maps.has DD (.string f.path)=false->∃ y ∈ ([]:List FlX),y.f=f from fun f hf hl=>by
  have h1:trV t g f.path=some (.pointer (some ⟨g f.path,0,none⟩)):=by unfold trV;rw [at_mem HT.out.asc hf];rfl
  have h2:=((HD.out f.path).2 _ h1).1
  rw [hl] at h2;cases h2)
 clear hrg0 hg0 hs0 hmr hr hbase c0
 go_loopw [3] (fun v wr=>∃ (left:Lit->Bool) (cnt:Nat) (xs:List FlX),wr.ranges prog 9 heldR m r (Maps.size DD) DD left cnt/\wr.ownsRow base 51 3 v xs.length (xs.flatMap FlX.cells)/\(∀ y ∈ xs,y.f ∈ t/\left (.string y.f.path)=false/\Sl wr No 5 y.v y.f.b.length (bv y.f.b))/\(xs.map fun y=>y.f.path).Nodup/\(∀ f ∈ t,left (.string f.path)=false->∃ y ∈ xs,y.f=f)/\base<=wr.heap.size/\Mod No w wr) (fun _ wr=>wr.rangeLeft m r)
 case atStart=>exact ⟨_,_,[],HRG0.out,World.ownsRow_nil _ _ _ _,(fun y hy=>by cases hy),List.nodup_nil,HALL0.out,(by rw [HB0.out];exact Nat.le_refl _),HMR.out⟩
 case round =>
  obtain ⟨left,cnt,xs,hrg,hown,hxs,hnd,hal,hbs,hmod⟩:=hrel
  obtain ⟨v,rfl⟩:∃ v,v=u3:=⟨_,rfl⟩
  have RG:=zh hrg
  have MO:=zh hmod
  have HO:=zh hown
  have HX:=zh hxs
  have HND:=zh hnd
  have HAL:=zh hal
  have hxl:xs.length<=100000:=by
   have h1:(xs.map FlX.f) ⊆ t:=fun f hf=>by
    obtain ⟨y,hy,rfl⟩:=List.mem_map.1 hf
    exact (hxs y hy).1
   have h2:(xs.map FlX.f).Nodup:=by
    rw [List.nodup_iff_pairwise_ne,List.pairwise_map] at hnd ⊢
    exact hnd.imp fun h e=>h (by rw [e])
   have h3:=h2.length_le_of_subset h1
   rw [List.length_map] at h3
   omega
  clear hrg hmod hown hxs hnd hal
  go_wp2_with (at_next;refine wpList_next_ranges _ rfl _ rfl 9 key_str heldR Go.Proofs.encStr (fun v:Value=>v) (fun key kl hk=>by obtain ⟨x,hx,_⟩:=Maps.keyOf_str underlying9 hk;exact ⟨x,hx⟩) (fun v y _=>⟨v,rfl⟩) m r (Maps.size DD) DD left cnt rfl RG.out ?_ ?_)
  ·intro _ hl0
   have HCOV:=zh (show ∀ f ∈ t,∃ y ∈ xs,y.f=f from fun f hf=>HAL.out f hf (by rw [hl0]))
   clear hl0
   obtain ⟨oa,oc,rfl⟩:=own_len HO.out
   have HSRT:=zh (sortfl_any (by omega) HO.out HND.out (fun y hy=>(HX.out y hy).2.2.len.imp fun a h=>⟨_,h⟩))
   go_wp2_with fail
   with_reducible refine HSRT.out.mono ?_
   rintro e w8 ⟨rfl,⟨ys,hperm,hasc,hsv⟩,hm8⟩
   have HE:=zh (show ys.map FlX.f=t from by
    refine tree_unique (List.pairwise_map.2 hasc) HT.out.asc fun k=>?_
    have ha2:AscT (ys.map FlX.f):=List.pairwise_map.2 hasc
    cases h1:atT (ys.map FlX.f) k with
    | some f =>
     obtain ⟨p1,p2⟩:=at_path h1
     obtain ⟨y,hy,rfl⟩:=List.mem_map.1 p2
     have h2:=at_mem HT.out.asc (HX.out y (hperm.mem_iff.1 hy)).1
     rw [p1] at h2
     exact h2.symm
    | none =>
     cases h2:atT t k with
     | none=>rfl
     | some f =>
      obtain ⟨p1,p2⟩:=at_path h2
      obtain ⟨y,hy,rfl⟩:=HCOV.out f p2
      have h3:=at_mem ha2 (List.mem_map.2 ⟨y,hperm.mem_iff.2 hy,rfl⟩)
      rw [p1,h1] at h3
      cases h3)
   have HF:=zh (show ∀ y ∈ ys,FlIn w8 y from fun y hy=>SvX.of ((HX.out y (hperm.mem_iff.1 hy)).2.2.apart hm8 (own_apartT HO.out (by decide))))
   have HSV:=zh hsv
   have HM8:=zh (MO.out.then hm8 (fun q hq e=>absurd (own_baseT HO.out e) (by have:=HBB.out;omega)))
   clear hm8 hsv hperm hasc HSRT
   go_wp2_with fail
   exact fin hR ⟨⟨_,ys,rfl,HE.out,HSV.out,HF.out⟩,HM8.out⟩
  ·intro x c kl ya yb w1 cnt1 hkey hleft hy hat hrg1 hlt hg1 hs1 hen
   cases hy
   obtain ⟨x',hx',hkl,-⟩:=Maps.keyOf_str underlying9 hkey
   obtain rfl:=encStr_inj hx'
   subst hkl
   have hhas:Maps.has DD (.string x)=true:=Maps.has_true_of_atKey (y:=.held c) (fun zd=>hat zd)
   obtain ⟨u,hu⟩:∃ u,trV t g x=some u:=by
    cases hM:trV t g x with
    | none=>have:=(HD.out x).1 hM;rw [hhas] at this;cases this
    | some v=>exact ⟨v,rfl⟩
   have hcv:c=u:=by
    have h1:=hat .nil
    rw [((HD.out x).2 u hu).2] at h1
    simpa using h1.symm
   subst hcv
   obtain ⟨f,hf⟩:∃ f,atT t x=some f:=by
    unfold trV at hu
    cases ha:atT t x with
    | none=>rw [ha] at hu;cases hu
    | some f=>exact ⟨f,rfl⟩
   obtain ⟨hfp,hft⟩:=at_path hf
   obtain ⟨fp,d,bs⟩:=f
   dsimp only at hfp
   subst hfp
   obtain ⟨nb,hnb⟩:∃ nb,nb=g fp:=⟨_,rfl⟩
   have hc:c=.pointer (some ⟨nb,0,none⟩):=by
    unfold trV at hu
    rw [hf] at hu
    rw [hnb]
    exact (Option.some.inj hu).symm
   subst hc
   have hm1:Mod (· = r) wr w1:=Mod.of_grown hg1 (by rintro k ⟨⟩ _;rfl)
   have hm01:Mod No w w1:=MO.out.then hm1 (fun q hq e=>by have e':q=r:=e;have:=HRW.out;omega)
   obtain ⟨nv,hn1,hn2⟩:=HT.out.each _ hft
   dsimp only at hn1 hn2
   rw [<- hnb] at hn1
   obtain ⟨na,nc,rfl⟩:=hn2.len
   have hm1s:=hm1.size
   have RG1:=zh hrg1
   have M01:=zh hm01
   have HFT:=zh hft
   have HLX:=zh hleft
   have hbl:=(HSM0.out _ hft).2
   dsimp only at hbl
   obtain ⟨mes,mck,hmb⟩:=HMp.out.heap
   have HMBK:=zh (hm01.keep hmb (fun f=>f))
   have HN1:=zh (hm01.keep hn1 (fun f=>f))
   have HN2:=zh (hn2.kn hm01)
   have HO1:=zh (own_keepM HO.out hm1 (fun q hq e=>absurd (own_baseT HO.out hq) (by have e':q=r:=e;have:=HRR.out;omega)))
   have HX1:=zh (show ∀ y ∈ xs,y.f ∈ t/\left (.string y.f.path)=false/\Sl w1 No 5 y.v y.f.b.length (bv y.f.b) from fun y hy=>by
    obtain ⟨h1,h2,h3⟩:=HX.out y hy
    refine ⟨h1,h2,h3.keep hm1 (fun k cur fz e _ hc=>?_)⟩
    have e':k=r:=e
    obtain ⟨es,clock,since,seen,c9,-,-,-,-,q5,-⟩:=RG.out
    rw [e',q5] at hc
    cases hc)
   have HEN:=zh (show Go.Proofs.encStr fp=.string ⟨fp.toArray⟩ from rfl)
   rw [HEN.out] at hen ⊢
   have HPP:=zh (show ∀ v,FlX.cells ⟨⟨fp,d,bs⟩,v⟩=[.string ⟨fp.toArray⟩,.bool d,v] from fun _=>rfl)
   generalize (⟨fp.toArray⟩:ByteArray)=P at *
   have hLT:=zh hlt
   clear hkey hleft hat hrg1 hlt hg1 hs1 hhas hm1 hm01 hu hf hft hn1 hn2 hnb HX HO
   go_upto_region 5 with fail
   obtain ⟨wD,hwD⟩:∃ y,y=w1.drew:=⟨_,rfl⟩
   have hmD:Mod No w1 wD:=by rw [hwD];exact (Mod.refl No w1).drew
   have HMD:=zh hmD
   have HOD:=zh (own_keepM HO1.out hmD (fun _ _ f=>f))
   have HX:=HX1
   have HBD:=zh (show base<=wD.heap.size from Nat.le_trans (Nat.le_trans hbs hm1s) HMD.out.size)
   have HSM:=zh (show ∀ w',Mod (fun q=>v.ownBlock=some q) wD w'->w'.cell? ⟨nb,0,none⟩=some (.bool d)/\w'.cell? ⟨nb,1,none⟩=some (.slice na bs.length nc) from fun w' h=>by
    have h1:=hmD.keep HN1.out (fun f=>f)
    have h2:=h.keep h1 (fun e=>own_apartT HOD.out (ts:=[150]) (by decide) _ _ _ _ e h1 (by simp))
    exact ⟨cell_ofA h2 rfl,cell_ofA h2 rfl⟩)
   have HCL:=zh (clone_sv (.slice na bs.length nc) (bv bs) wD (by rw [bv_length];exact SvX.of (HN2.out.kn hmD)) (bv_one _) (by rw [bv_length];omega))
   have HWD:=zh hwD
   have hS0:=Mod.refl (fun q=>v.ownBlock=some q) wD
   clear hwD hmD HN1 HN2 HX1
   refine wp_region_T (fun w'=>Mod (fun q=>v.ownBlock=some q) wD w') 99 (by kernel_rfl) ?_
   rw [<- HWD.out]
   refine yS 0 16 hS0 ?_
   refine yS 1 17 hS0 ?_
   refine yS 2 18 hS0 ?_
   refine yS 3 19 hS0 ?_
   refine yS 4 20 hS0 ?_
   refine yT 5 (some 21) (.bool d) hS0 ?_ ?_
   ·(intro w' hSw;have q0:=(HSM.out w' hSw).1;go_simp;try with_reducible rfl)
   simp only [Act.put,yB,yC,yD]
   refine yS 6 22 hS0 ?_
   refine yS 7 23 hS0 ?_
   refine yS 8 24 hS0 ?_
   refine yT 9 (some 25) (.slice na bs.length nc) hS0 ?_ ?_
   ·(intro w' hSw;have q0:=(HSM.out w' hSw).2;go_simp;try with_reducible rfl)
   simp only [Act.put,yB,yC,yD]
   refine wpAnyT_one 10 rfl (by kernel_rfl) rfl ?_
   intro K hK
   go_simp
   go_at_call 81
   with_reducible refine HCL.out.mono ?_
   rintro e wB ⟨⟨v',rfl,hown⟩,hmB⟩
   obtain ⟨ba,bc,rfl⟩:=own_len hown
   rw [bv_length] at hown ⊢
   have HOB:=zh hown
   have HMB:=zh hmB
   clear hown hmB HCL
   show K _ _
   have hS1:=(show Mod (fun q=>v.ownBlock=some q) wD wB from HMB.out.weaken (fun _ _ f=>f.elim))
   refine hK.out _ _ (fun _=>hS1) ?_
   clear hK K
   refine yT 11 (some 27) (.agg #[.string P,.bool d,.slice ba bs.length bc]) hS1 ?_ ?_
   ·(intro w' hSw;go_simp;try with_reducible rfl)
   simp only [Act.put,yB,yC,yD]
   refine wpAnyT_one 12 rfl (by kernel_rfl) rfl ?_
   intro K hK
   obtain ⟨ga,hga⟩:∃ ga,ga=wB.heap.size:=⟨_,rfl⟩
   obtain ⟨wE,hwE⟩:∃ y,y=wB.alloc (.cells #[.string P,.bool d,.slice ba bs.length bc] 51):=⟨_,rfl⟩
   have HGA:=zh (show wE.heap[ga]? = some (.cells #[.string P,.bool d,.slice ba bs.length bc] 51 (0,0)) by rw [hwE,hga];exact heap_alloc_new _ _)
   have hmE:Mod No wB wE:=by rw [hwE];exact (Mod.refl No _).alloc _
   have HME:=zh (HMB.out.trans hmE)
   have HOE:=zh (own_keepM HOB.out hmE (fun _ _ f=>f))
   refine wp_value (v:=.slice (some ⟨ga,0,none⟩) 1 1) (w':=wE) (by rw [hga,hwE];exact fl_new (cs:=[.string P,.bool d,.slice ba bs.length bc]) rfl (.tmp 27) (by rfl) (by rfl)) ?_
   clear hwE hga hmE
   show K (Act.put _ (some 28) _) _
   have hS2:=(show Mod (fun q=>v.ownBlock=some q) wD wE from HME.out.weaken (fun _ _ f=>f.elim))
   refine hK.out _ _ (fun _=>hS2) ?_
   clear hK K
   refine wpAnyT_one 13 rfl (by kernel_rfl) rfl ?_
   intro K hK
   simp only [Act.put,yB,yC,yD]
   refine wp_app_sl wE (.tmp 16) (.tmp 28) 22 (by rfl) base 51 i0 _ 3 48 underlying22 hi0 hz0 hz1 hz2 rfl (by decide) v xs.length (xs.flatMap FlX.cells) (by rfl) (own_keepM HOD.out HME.out (fun _ _ f=>f)) No 51 (.slice (some ⟨ga,0,none⟩) 1 1) 1 [.string P,.bool d,.slice ba bs.length bc] (by rfl) (.inr ⟨ga,0,1,_,(0,0),rfl,Nat.le_refl _,by unfold maxLen;omega,fun f=>f,HGA.out,by simp,fun i hi=>by simp⟩) rfl (fun u hu=>by simp only [List.mem_cons,List.not_mem_nil,or_false] at hu;rcases hu with rfl | rfl | rfl <;> rfl) (by unfold maxLen;omega) (by omega) (Nat.le_trans HBD.out HME.out.size) ?_
   intro v7 w7 hown7 hg7 _
   have HO7:=zh hown7
   have HM7:=zh (hS2.trans (Mod.of_grown (S:=fun q=>v.ownBlock=some q) hg7 (fun q e _=>e)))
   have HM8:=zh (Mod.of_grown (S:=fun q=>v.ownBlock=some q) hg7 (fun q e _=>e))
   clear hown7 hg7
   show K (Act.put _ (some 29) _) _
   have hS3:=HM7.out
   refine hK.out _ _ (fun _=>hS3) ?_
   clear hK K
   refine yT 14 (some 3) ?_ hS3 ?_ ?_
   rotate_left
   ·(intro w' hSw;go_simp;try with_reducible rfl)
   simp only [Act.put]
   refine wpAnyT_done (by kernel_rfl) ?_ _
   clear hS0 hS1 hS2 hS3
   have HXA:=zh (show ∀ y ∈ xs++[(⟨⟨fp,d,bs⟩,.slice ba bs.length bc⟩:FlX)],y.f ∈ t/\(left (.string y.f.path) && !(Lit.string y.f.path).sameKey (.string fp))=false/\Sl w7 No 5 y.v y.f.b.length (bv y.f.b) from fun y hy=>by
    rcases List.mem_append.1 hy with hy | hy
    ·obtain ⟨h1,h2,h3⟩:=HX.out y hy
     exact ⟨h1,by rw [h2];rfl,((h3.kn HMD.out).apart HM7.out (own_apartT HOD.out (by decide)))⟩
    ·obtain rfl:=List.mem_singleton.1 hy
     refine ⟨HFT.out,by dsimp only;rw [sameKey_strT];simp,?_⟩
     have h9:Sl wE No 5 (.slice ba bs.length bc) bs.length (bv bs):=Sl.of_own HOE.out (fun _ _ f=>f)
     exact h9.apart HM8.out (own_apartT (own_keepM HOD.out HME.out (fun _ _ f=>f)) (by decide)))
   have HND7:=zh (show ((xs++[(⟨⟨fp,d,bs⟩,.slice ba bs.length bc⟩:FlX)]).map fun y=>y.f.path).Nodup from by
    rw [List.map_append,List.nodup_append]
    refine ⟨HND.out,by simp,fun p hp q hq=>?_⟩
    obtain ⟨y,hy,rfl⟩:=List.mem_map.1 hp
    simp only [List.map_cons,List.map_nil,List.mem_singleton] at hq
    subst hq
    intro e
    have h1:=(HX.out y hy).2.1
    rw [e,HLX.out] at h1
    cases h1)
   have HAL7:=zh (show ∀ f ∈ t,(left (.string f.path) && !(Lit.string f.path).sameKey (.string fp))=false->∃ y ∈ xs++[(⟨⟨fp,d,bs⟩,.slice ba bs.length bc⟩:FlX)],y.f=f from fun f hf hlf=>by
    by_cases e:f.path=fp
    ·refine ⟨_,List.mem_append_right _ (List.mem_singleton.2 rfl),?_⟩
     have h1:=at_mem HT.out.asc hf
     have h2:=at_mem HT.out.asc HFT.out
     rw [e] at h1
     exact Option.some.inj (h2.symm.trans h1)
    ·have h1:left (.string f.path)=false:=by
      rw [sameKey_strT,decide_eq_false e] at hlf
      simpa using hlf
     obtain ⟨y,hy,e2⟩:=HAL.out f hf h1
     exact ⟨y,List.mem_append_left _ hy,e2⟩)
   have HOO:=zh (show w7.ownsRow base 51 3 v7 (xs++[(⟨⟨fp,d,bs⟩,.slice ba bs.length bc⟩:FlX)]).length ((xs++[(⟨⟨fp,d,bs⟩,.slice ba bs.length bc⟩:FlX)]).flatMap FlX.cells) from by
    rw [List.length_append,List.flatMap_append]
    have h9:=HO7.out
    rw [<- HPP.out] at h9
    simpa using h9)
   have HRG7:=zh (ranges_keep (ranges_keep RG1.out HMD.out (fun f=>f) (fun f=>f)) HM7.out (fun e=>by obtain ⟨cur,h5⟩:=own_heapM HOD.out e;rw [HMD.out.keep HMBK.out (fun f=>f)] at h5;cases h5) (fun e=>absurd (own_baseT HOD.out e) (by have:=HRR.out;omega)))
   have HM70:=zh (show Mod No w w7 from (M01.out.trans HMD.out).then HM7.out (fun q hq e=>absurd (own_baseT HOD.out e) (by have:=HBB.out;omega)))
   clear HO7 HOB HOE HGA HME HM8 HMB
   go_wp2_with fail
   exact ⟨⟨_,⟨cnt1,HRG7.out⟩,_,HOO.out,HXA.out,HND7.out,HAL7.out,(Nat.le_trans HBD.out HM7.out.size),HM70.out⟩,by rw [HRG7.out.left_eq,RG.out.left_eq];exact hLT.out⟩
end Go.Proofs.YtmppeipgjcjdkaaGreatDoor
namespace Go.Proofs.YtmppeipgjcjdkaaGreatDoor
open _root_.Go.Proofs.Tryz
open Go.RowKit Go.Maps
theorem Sl.fresh {X:Nat->Prop} {w:World} {e:TypeId} {b o n c:Nat} {xs:List Value} (h:Sl w No e (.slice (some ⟨b,o,none⟩) n c) n xs) (hb:¬ X b):Sl w X e (.slice (some ⟨b,o,none⟩) n c) n xs:=by
 rcases h with ⟨h,_⟩ | ⟨blk,o',c',cur,fz,hv,h1,h2,h3,h4,h5,h6⟩
 ·cases h
 ·cases hv
  exact .inr ⟨b,o,c,cur,fz,rfl,h1,h2,hb,h4,h5,h6⟩
set_option maxRecDepth 100000 in
set_option maxHeartbeats 16000000 in
theorem stfiles_any (s:List UInt8) (hs:s.length<=300000) (w:World) :
  Calls prog 38 #[strV s] w fun e w'=>(∃ (v:Value) (ys:List FlX),e=.returned v/\ys.map FlX.f=filesD s/\Sl w' (fun q=>q < w.heap.size) 51 v ys.length (ys.flatMap FlX.cells)/\∀ y ∈ ys,Sl w' (fun q=>q < w.heap.size) 5 y.v y.f.b.length (bv y.f.b))/\Mod No w w':=by
 refine calls_hide fun R hR=>?_
 obtain ⟨i0,hi0,hz0,hz1,hz2⟩:=info_parts info_fl
 obtain ⟨c1,w1,hcv,hsl,hm1⟩:=bytes_of_str w s (by omega)
 have HNR:=zh (newReader_any hsl (by omega))
 have HM1:=zh hm1
 have hsz:=str_size_list s
 obtain ⟨n,hn⟩:∃ n,n=min (rdN (some s)).1 s.length:=⟨_,rfl⟩
 have HFD:=zh (show filesD s=filesG n (rdN (some s)).2 by rw [hn];rfl)
 have HN:=zh hn
 have hnI:(n:Int)<=300000:=by omega
 have hsI:(s.length:Int)<=300000:=by omega
 have HRL:=zh (show RstLe s.length (rdN (some s)).2 from rdN_len (Nat.le_refl _))
 have HRN:=zh (fun w q (h:RdR w q (some s))=>rdnum_any h)
 have hmn:∀ W,(Builtin.min_ #[130,130] 130 #[.int .u64 ((rdN (some s)).1:Int),.int .u64 (s.length:Int)]).run prog W=.ok (.int .u64 (n:Int)) W:=fun W=>by
  have e:(if ((s.length:Int)) < ((rdN (some s)).1:Int) then (s.length:Int) else ((rdN (some s)).1:Int))=(n:Int):=by
   rw [hn]
   split <;> omega
  show Result.ok (Value.int .u64 (if ((s.length:Int)) < ((rdN (some s)).1:Int) then (s.length:Int) else ((rdN (some s)).1:Int))) W=_
  rw [e]
 unfold strV at *
 generalize (⟨s.toArray⟩:ByteArray)=Z at *
 clear hsl hm1 hn
 go_enter func38,ntmps38
 go_wp2_with fail
 with_reducible refine HNR.out.mono ?_
 rintro e w2 ⟨q,v',rfl,hrd,hm2,hq⟩
 have HM2:=zh (HM1.out.trans hm2)
 have HNU:=zh (HRN.out w2 q ⟨by omega,v',hrd⟩)
 have HQ:=zh (Nat.le_trans HM1.out.size hq)
 clear hcv hm2 hrd hq HNR HRN
 go_wp2_with fail
 with_reducible refine HNU.out.mono ?_
 rintro e w3 ⟨rfl,hrd3,hm3⟩
 generalize (rdN (some s)).1=n0 at *
 generalize (rdN (some s)).2=R0 at *
 have HM3:=zh (HM2.out.then hm3 (fun i hi e=>by have:=HQ.out;omega))
 have HR3:=zh hrd3
 obtain ⟨base,hbase⟩:∃ b,b=w3.heap.size:=⟨_,rfl⟩
 have HQB:=zh (show q < base from by rw [hbase];exact hrd3.lt)
 have HBB:=zh (show w.heap.size<=base from by rw [hbase];exact HM3.out.size)
 have HB0:=zh hbase
 clear hm3 hrd3 HNU HM1 HM2 hbase
 go_wp2_with fail
 go_loopw [4,15] (fun q4 q15 wr=>∃ (k:Nat) (R:Rst) (ys:List FlX),k<=n/\q15=.int .u64 (k:Int)/\RdR wr q R/\filesD s=ys.map FlX.f++filesG (n - k) R/\ys.length=k/\wr.ownsRow base 51 3 q4 ys.length (ys.flatMap FlX.cells)/\(∀ y ∈ ys,Sl wr (fun q=>q < w.heap.size) 5 y.v y.f.b.length (bv y.f.b))/\base<=wr.heap.size/\RstLe s.length R/\Mod No w wr) (fun _ q15 _=>n - (intOf q15).toNat)
 case atStart=>exact ⟨0,R0,[],Nat.zero_le _,rfl,HR3.out,by rw [HFD.out];rfl,rfl,World.ownsRow_nil _ _ _ _,(fun y hy=>by cases hy),(by rw [HB0.out];exact Nat.le_refl _),HRL.out,HM3.out⟩
 case round =>
  obtain ⟨k,R,ys,hk,rfl,hrd,hfd,hyl,hown,hys,hbr,hrl,hm⟩:=hrel
  obtain ⟨v,rfl⟩:∃ v,v=u4:=⟨_,rfl⟩
  have hk0:(0:Int)<=(k:Int):=Int.natCast_nonneg _
  have HM:=zh hm
  have HRD:=zh hrd
  have HO:=zh hown
  have HY:=zh hys
  have HB:=zh hbr
  have HYL:=zh hyl
  have HF:=zh hfd
  have HLE:=zh hrl
  clear hm hrd hown hys hbr hyl hfd hrl HR3 HM3 HFD HRL
  by_cases hlt:k < n
  ·have hk1:(k:Int) < (n:Int):=by omega
   have HF2:=zh (show filesD s=ys.map FlX.f++(⟨(rdT R).1,(rdO (rdT (rdT R).2).2).1,(rdT (rdT R).2).1⟩ :: filesG (n - (k+1)) (rdO (rdT (rdT R).2).2).2) by
    rw [HF.out,show n - k=(n - (k+1))+1 by omega]
    rfl)
   have HT1:=zh (rdtext_any HRD.out)
   have hl1:=rdT_len HLE.out
   have hl2:=rdT_len hl1.2
   have hl3:=rdO_len hl2.2
   have HT2:=zh (fun W (h:RdR W q (rdT R).2)=>rdtext_any h)
   have HBL:=zh (fun W (h:RdR W q (rdT (rdT R).2).2)=>rdbool_any h)
   have HL:=zh (And.intro hl1.1 (And.intro hl2.1 hl3))
   clear hl1 hl2 hl3
   generalize hpt:(rdT R).1=pt at *
   generalize hR1:(rdT R).2=R1 at *
   generalize hbs:(rdT R1).1=bs at *
   generalize hR2:(rdT R1).2=R2 at *
   generalize hdr:(rdO R2).1=dr at *
   generalize hR3:(rdO R2).2=R3 at *
   clear hpt hR1 hbs hR2 hdr hR3
   go_upto_region 5 with fail
   go_wp2_with fail
   with_reducible refine HT1.out.mono ?_
   rintro e w4 ⟨rfl,hr4,hm4⟩
   have HT2w:=zh (HT2.out w4 hr4)
   have HM4:=zh hm4
   clear hr4 hm4 HT1 HT2
   go_wp2_with fail
   with_reducible refine HT2w.out.mono ?_
   rintro e w5 ⟨rfl,hr5,hm5⟩
   have HM5:=zh (HM4.out.trans hm5)
   have HR5:=zh hr5
   obtain ⟨c5,w6,hcv,hsl6,hm6⟩:=bytes_of_str w5 bs (by have:=HL.out.2.1;omega)
   obtain ⟨ba,hba⟩:∃ a,a=w5.heap.size:=⟨_,rfl⟩
   have HFA:=zh (show w.heap.size<=ba from by rw [hba];exact Nat.le_trans HM.out.size HM5.out.size)
   rw [<- hba] at hcv hsl6
   have HM6:=zh hm6
   have HR6:=zh (HR5.out.stay hm6)
   have HS6:=zh hsl6
   obtain ⟨w7,hw7⟩:∃ w7,w7=w6.alloc (.cells #[.string ⟨pt.toArray⟩,.bool false,.slice (some ⟨ba,0,none⟩) bs.length c5] 51):=⟨_,rfl⟩
   have m7:Mod No w6 w7:=by rw [hw7];exact (Mod.refl No w6).alloc _
   have HF7:=zh (show w7.heap[w6.heap.size]? = some (.cells #[.string ⟨pt.toArray⟩,.bool false,.slice (some ⟨ba,0,none⟩) bs.length c5] 51 (0,0)) by rw [hw7];exact heap_alloc_new w6 _)
   have HW7:=zh hw7
   have HM7:=zh (hm6.trans m7)
   have HR7:=zh (HR6.out.stay m7)
   have HBL7:=zh (HBL.out w7 HR7.out)
   obtain ⟨fb,hfb⟩:∃ f,f=w6.heap.size:=⟨_,rfl⟩
   rw [<- hfb] at HF7
   have HFB:=zh (show q ≠ fb from fun e=>by
    have h:=HR6.out.lt
    omega)
   have HPT:=zh (show ∀ b v,FlX.cells ⟨⟨pt,b,bs⟩,v⟩=[.string ⟨pt.toArray⟩,.bool b,v] from fun _ _=>rfl)
   have HSZ6:=zh hfb
   generalize (⟨pt.toArray⟩:ByteArray)=P at *
   generalize (⟨bs.toArray⟩:ByteArray)=B at *
   clear hfb hm6 hsl6 hw7 m7 hm5 hr5 HT2w hba HBL
   go_upto_region 6 with fail
   rw [<- HW7.out,<- HSZ6.out]
   go_wp2_with fail
   with_reducible refine HBL7.out.mono ?_
   rintro e w8 ⟨rfl,hr8,hm8⟩
   have hf8:=hm8.keep HF7.out (fun e=>HFB.out e.symm)
   have fz8:=frozen_of 1 hf8
   have k8:w8.cell? ⟨fb,1,none⟩=some (.bool false):=cell_ofA hf8 rfl
   obtain ⟨w9,hw9⟩:∃ w9,w9=w8.setCell ⟨fb,1,none⟩ (.bool dr):=⟨_,rfl⟩
   have hf9:w9.heap[fb]? = some (.cells #[.string P,.bool dr,.slice (some ⟨ba,0,none⟩) bs.length c5] 51 (0,0)):=by rw [hw9,heap_setCell hf8];rfl
   have m9:Mod (fun k=>k=fb) w8 w9:=by rw [hw9];exact Mod.cell1 w8 fb 1 _
   have hnb:∀ k cur fz,k=fb->w8.heap[k]? ≠ some (.cells cur 5 fz):=fun k cur fz e h=>by
    subst e
    rw [hf8] at h
    cases h
   have HR9:=zh (hr8.keep m9 HFB.out (fun k cur fz e h=>hnb k cur fz e h))
   -- what there was
   have hq8:∀ k cur fz,k=q->w7.heap[k]? ≠ some (.cells cur 5 fz):=fun k cur fz e h=>by
    subst e
    exact HR7.out.not_bytes cur fz h
   have HFO:=zh (show w.heap.size<=fb from by
    have h1:=HM.out.size
    have h2:=HM5.out.size
    have h3:=HM6.out.size
    have h4:=HSZ6.out
    omega)
   have HBF:=zh (show base<=fb from by
    have h1:=HB.out
    have h2:=HM5.out.size
    have h3:=HM6.out.size
    have h4:=HSZ6.out
    omega)
   have HMA:=zh (show Mod (fun k=>k=q\/k=fb) wr w9 from ((HM5.out.weaken (fun _ _ e=>.inl e)).trans ((HM7.out.weaken (fun _ _ f=>f.elim)).trans (hm8.weaken (fun _ _ e=>.inl e)))).trans (m9.weaken (fun _ _ e=>.inr e)))
   have HFW:=zh (show wr.heap.size<=fb from by
    have h2:=HM5.out.size
    have h3:=HM6.out.size
    have h4:=HSZ6.out
    omega)
   have HO9:=zh (own_keepM HO.out HMA.out (fun k hk e=>by
    obtain ⟨cur,h1⟩:=own_heapM HO.out hk
    have h2:=lt_of_heap h1
    have h3:=own_baseT HO.out hk
    rcases e with e | e
    ·have:=HQB.out;omega
    ·have:=HFW.out;omega))
   have HY9:=zh (show ∀ y ∈ ys,Sl w9 (fun q=>q < w.heap.size) 5 y.v y.f.b.length (bv y.f.b) from fun y hy=>(HY.out y hy).keep HMA.out (fun k cur fz e _ h=>by
    rcases e with e | e
    ·subst e;exact HRD.out.not_bytes cur fz h
    ·have h1:=lt_of_heap h
     have:=HFW.out
     omega))
   have HSB:=zh (show Sl w9 No 5 (.slice (some ⟨ba,0,none⟩) bs.length c5) bs.length (bv bs) from (((HS6.out.keep (S:=No) (by rw [HW7.out];exact (Mod.refl No w6).alloc _) (fun _ _ _ f=>f.elim)):Sl w7 No 5 (.slice (some ⟨ba,0,none⟩) bs.length c5) bs.length (bv bs)).keep hm8 (fun k cur fz e _ h=>hq8 k cur fz e h)).keep m9 (fun k cur fz e _ h=>hnb k cur fz e h))
   have HB9:=zh (Nat.le_trans HB.out HMA.out.size)
   have HW9:=zh hw9
   have HF9:=zh hf9
   clear hw9 m9 hnb hq8 hm8 hr8
   go_upto_region 7 with fail
   rw [<- HW9.out]
   clear k8 fz8 hf8
   have c0:w9.cell? ⟨fb,0,none⟩=some (.string P):=cell_ofA HF9.out rfl
   have c1:w9.cell? ⟨fb,1,none⟩=some (.bool dr):=cell_ofA HF9.out rfl
   have c2:w9.cell? ⟨fb,2,none⟩=some (.slice (some ⟨ba,0,none⟩) bs.length c5):=cell_ofA HF9.out rfl
   have m10:Mod No w9 (w9.alloc (.cells #[.string P,.bool dr,.slice (some ⟨ba,0,none⟩) bs.length c5] 51)):=(Mod.refl No w9).alloc _
   have HO10:=zh (own_keepM HO9.out m10 (fun _ _ f=>f))
   have HM10:=zh m10
   have hyn:ys.length<=300000:=by have:=HYL.out;omega
   clear hf9 m10
   go_wp2_with (at_builtin;refine app_sl _ rfl _ _ 22 rfl base 51 i0 _ 3 48 underlying22 hi0 hz0 hz1 hz2 rfl (by decide) v ys.length (ys.flatMap FlX.cells) rfl HO10.out No 51 (.slice (some ⟨w9.heap.size,0,none⟩) 1 1) 1 [.string P,.bool dr,.slice (some ⟨ba,0,none⟩) bs.length c5] rfl (.inr ⟨w9.heap.size,0,1,_,(0,0),rfl,Nat.le_refl _,by unfold maxLen;omega,fun f=>f,heap_alloc_new w9 _,by simp,fun i hi=>by simp⟩) rfl (fun u hu=>by simp only [List.mem_cons,List.not_mem_nil,or_false] at hu;rcases hu with rfl | rfl | rfl <;> rfl) (by unfold maxLen;omega) (by omega) (Nat.le_trans HB9.out HM10.out.size) ?_;intro v7 w11 hown7 hg7 _;have HO7:=zh hown7;have HG7:=zh (Mod.of_grown (S:=fun q=>v.ownBlock=some q) hg7 (fun q e _=>e));clear hown7 hg7)
   have hap:=own_apartT HO10.out (ts:=[5,221]) (by decide)
   have HYZ:∀ y ∈ ys++[(⟨⟨pt,dr,bs⟩,.slice (some ⟨ba,0,none⟩) bs.length c5⟩:FlX)],Sl w11 (fun q=>q < w.heap.size) 5 y.v y.f.b.length (bv y.f.b):=fun y hy=>by
    rcases List.mem_append.1 hy with hy | hy
    ·exact ((HY9.out y hy).kn HM10.out).keep HG7.out (fun k cur fz hk _ hc=>hap k cur fz _ hk hc (by simp))
    ·obtain rfl:=List.mem_singleton.1 hy
     exact ((HSB.out.kn HM10.out).apart HG7.out (hap.less (by simp))).fresh (fun h=>by have:=HFA.out;omega)
   have HRZ:RdR w11 q R3:=(HR9.out.stay HM10.out).keep HG7.out (fun e=>by
    have h1:=own_baseT HO10.out e
    have:=HQB.out
    omega) (fun k cur fz e h=>hap k cur fz _ e h (by simp))
   have HMZ:Mod No w w11:=(HM.out.then HMA.out (fun i hi e=>by
    rcases e with e | e
    ·have h1:=HQ.out;omega
    ·have h1:=HFO.out;omega)).then ((HM10.out.weaken (fun _ _ f=>f.elim)).trans HG7.out) (fun i hi e=>by
    have h1:=own_baseT HO10.out e
    have:=HBB.out
    omega)
   refine ⟨⟨k+1,R3,ys++[⟨⟨pt,dr,bs⟩,.slice (some ⟨ba,0,none⟩) bs.length c5⟩],by omega,by simp,HRZ,by rw [HF2.out];simp,by rw [List.length_append,HYL.out];rfl,?_,HYZ,Nat.le_trans (Nat.le_trans HB9.out HM10.out.size) HG7.out.size,HL.out.2.2,HMZ⟩,by show n - ((k:Int)+1).toNat < n - (k:Int).toNat;omega⟩
   have h9:=HO7.out
   rw [<- HPT.out] at h9
   rw [List.length_append,List.flatMap_append]
   simpa using h9
  ·obtain rfl:k=n:=by omega
   have hk1:¬ ((k:Int) < (k:Int)):=by omega
   have HE:=zh (show ys.map FlX.f=filesD s by rw [HF.out,Nat.sub_self];simp [filesG])
   obtain ⟨va,vc,rfl⟩:=own_len HO.out
   go_wp2_with fail
   exact fin hR ⟨⟨_,ys,rfl,HE.out,Sl.of_own HO.out (fun k hk f=>by have:=HBB.out;omega),fun y hy=>HY.out y hy⟩,HM.out⟩
end Go.Proofs.YtmppeipgjcjdkaaGreatDoor
