/-
  Layers 0 to 14: helps of the laws of indexes. No statement is proved here; no condition.
-/
import Derived.Test.YtgiigemfbebcgaaGreatDoorT29
import Derived.Test.YtgiigemfbebcgaaGreatDoorT01
namespace Go.Proofs.YtgiigemfbebcgaaGreatDoor
open _root_.Go.Proofs.Tryz
open Go.RowKit
theorem own_none (w:World) (e:TypeId) (size:Nat):(w.alloc (.cells #[] e)).ownsRow w.heap.size e size (.slice (some ⟨w.heap.size,0,none⟩) 0 0) 0 [] :=
 ⟨by simp,.inr ⟨w.heap.size,_,_,rfl,Nat.le_refl _,heap_alloc_new w _,Nat.le_refl _,by unfold maxLen;omega,by simp,by simp⟩⟩
theorem info_need:(prog.info? 81).map (fun i=>(i.zero,i.size,i.bytes))=some (some (.agg #[.string ⟨#[]⟩,.bool false,.slice none 0 0,.string ⟨#[]⟩]),4,64):=by kernel_rfl
set_option maxRecDepth 100000 in
theorem clonends (n:Nat) (hn:n<=1000000) (v:Value) (xs:List Value) (hl:xs.length=n*4) (h1:∀ u ∈ xs,u.oneCell'=true) (w:World) (hv:Sl w No 81 v n xs) :
  Calls prog 52 #[v] w fun e w'=>∃ v',e=.returned v'/\Sl w' (Old w) 81 v' n xs/\Mod No w w':=by
 refine calls_hide fun R hR=>?_
 obtain ⟨i0,hi0,hz0,hz1,hz2⟩:=info_parts info_need
 have hq:∀ (w:World) (a:Option Addr) (n c n' c':Nat),(binOp .eql 44 (.slice a n c) (.slice none n' c')).run prog w=.ok (.bool a.isNone) w:=fun w a n c n' c'=>Lib.run_eql_slice_nil w _ _ a n c n' c' underlying44
 rcases hv with ⟨rfl,rfl,rfl⟩ | hsl
 ·go_enter func52,ntmps52
  go_wp2_with fail
  exact fin hR ⟨_,rfl,.inl ⟨rfl,rfl,rfl⟩,Mod.refl _ _⟩
 ·have HV:=zh (show Sl w No 81 v n xs from .inr hsl)
  obtain ⟨blk,o,c,cur,fz,rfl,hnc,hc,hX,hh,hle,hr⟩:=hsl
  have H1:=zh h1
  clear h1 hr hh hle
  go_enter func52,ntmps52
  go_wp2_with (at_builtin;refine app_sl _ rfl _ _ 44 rfl w.heap.size 81 i0 (.agg #[.string ⟨#[]⟩,.bool false,.slice none 0 0,.string ⟨#[]⟩]) 4 64 underlying44 hi0 hz0 hz1 hz2 rfl (by decide) _ 0 [] rfl (own_none w _ _) No 81 _ n xs rfl (Sl.keep (S:=No) HV.out ((Mod.refl No w).alloc _) (fun _ _ _ f=>f.elim)) hl H1.out (by unfold maxLen;omega) (by omega) (by simp) ?_)
  intro v' w1 hown hgrow _
  have hx:Sl w1 (Old w) 81 v' n xs:=Sl.of_own (by simpa using hown) (fun k hk ho=>Nat.lt_irrefl _ (Nat.lt_of_lt_of_le ho hk))
  have hm:Mod No w w1:=((Mod.refl No w).alloc _).then (T:=fun k=>k=w.heap.size) (Mod.of_grown hgrow (by intro k hk _;simp [Value.ownBlock] at hk;exact hk.symm)) (fun i hi e=>by omega)
  have HX:=zh hx
  have HM:=zh hm
  clear hx hm hown hgrow
  go_wp2_with fail
  exact fin hR ⟨_,rfl,HX.out,HM.out⟩
set_option maxRecDepth 100000 in
theorem clonestrs (n:Nat) (hn:n<=1000000) (v:Value) (xs:List Value) (hl:xs.length=n*1) (h1:∀ u ∈ xs,u.oneCell'=true) (w:World) (hv:Sl w No 9 v n xs) :
  Calls prog 51 #[v] w fun e w'=>∃ v',e=.returned v'/\Sl w' (Old w) 9 v' n xs/\Mod No w w':=by
 refine calls_hide fun R hR=>?_
 obtain ⟨i0,hi0,hz0,hz1,hz2⟩:=info_parts info_str
 have hq:∀ (w:World) (a:Option Addr) (n c n' c':Nat),(binOp .eql 38 (.slice a n c) (.slice none n' c')).run prog w=.ok (.bool a.isNone) w:=fun w a n c n' c'=>Lib.run_eql_slice_nil w _ _ a n c n' c' underlying38
 rcases hv with ⟨rfl,rfl,rfl⟩ | hsl
 ·go_enter func51,ntmps51
  go_wp2_with fail
  exact fin hR ⟨_,rfl,.inl ⟨rfl,rfl,rfl⟩,Mod.refl _ _⟩
 ·have HV:=zh (show Sl w No 9 v n xs from .inr hsl)
  obtain ⟨blk,o,c,cur,fz,rfl,hnc,hc,hX,hh,hle,hr⟩:=hsl
  have H1:=zh h1
  clear h1 hr hh hle
  go_enter func51,ntmps51
  go_wp2_with (at_builtin;refine app_sl _ rfl _ _ 38 rfl w.heap.size 9 i0 (.string ⟨#[]⟩) 1 16 underlying38 hi0 hz0 hz1 hz2 rfl (by decide) _ 0 [] rfl (own_none w _ _) No 9 _ n xs rfl (Sl.keep (S:=No) HV.out ((Mod.refl No w).alloc _) (fun _ _ _ f=>f.elim)) hl H1.out (by unfold maxLen;omega) (by omega) (by simp) ?_)
  intro v' w1 hown hgrow _
  have hx:Sl w1 (Old w) 9 v' n xs:=Sl.of_own (by simpa using hown) (fun k hk ho=>Nat.lt_irrefl _ (Nat.lt_of_lt_of_le ho hk))
  have hm:Mod No w w1:=((Mod.refl No w).alloc _).then (T:=fun k=>k=w.heap.size) (Mod.of_grown hgrow (by intro k hk _;simp [Value.ownBlock] at hk;exact hk.symm)) (fun i hi e=>by omega)
  have HX:=zh hx
  have HM:=zh hm
  clear hx hm hown hgrow
  go_wp2_with fail
  exact fin hR ⟨_,rfl,HX.out,HM.out⟩
def zeroRw:Rw:=⟨[],⟨0,0,0,[]⟩,List.replicate 32 0,0,[]⟩
structure RwAt (w:World) (x:RwX):Prop where
 ok:RwOk w x
 nds:NdsAt w x.nv x.r.needs
 few:x.r.needs.length<=1000000
theorem RwOk.keep {S:Nat->Prop} {w w':World} {x:RwX} (h:RwOk w x) (hm:Mod S w w') (ha:Apart [9] S w):RwOk w' x:=⟨h.sum,h.small,h.pre.apart hm ha,h.nv⟩
theorem RwAt.keep {S:Nat->Prop} {w w':World} {x:RwX} (h:RwAt w x) (hm:Mod S w w') (ha:Apart [9,153,126,81] S w):RwAt w' x :=
 ⟨h.ok.keep hm (ha.less (by simp)),h.nds.keep hm ha,h.few⟩
def FindRes (w':World) (l:List Rw) (name:List UInt8) (v:Ver) (e:Ending):Prop:=match atL l name v with
 | none=>∃ x:RwX,x.r=zeroRw/\x.pv=.slice none 0 0/\x.nv=.slice none 0 0/\e=.returned (.tuple #[.agg (RwX.cells x).toArray,.bool false])
 | some k=>∃ x:RwX,l[k]? = some x.r/\RwAt w' x/\e=.returned (.tuple #[.agg (RwX.cells x).toArray,.bool true])
theorem nds_one {w:World} {v:Value} {l:List Nd} (h:NdsAt w v l):∃ ys:List NdX,ys.map NdX.n=l/\(∀ x ∈ ys,OrsAt w x.ov x.n.span.ors)/\Sl w No 81 v l.length (ys.flatMap NdX.cells)/\(ys.flatMap NdX.cells).length=l.length*4/\∀ u ∈ ys.flatMap NdX.cells,u.oneCell'=true:=by
 obtain ⟨ys,h1,h2,h3⟩:=h
 refine ⟨ys,h1,h2,h3,by rw [flat_length NdX.cells_length,<- h1,List.length_map],fun u hu=>?_⟩
 obtain ⟨y,hy,hu⟩:=List.mem_flatMap.1 hu
 obtain ⟨zs,-,-,hz⟩:=h2 y hy
 obtain ⟨a,c,e⟩:=hz.len
 unfold NdX.cells at hu
 rw [e] at hu
 simp only [List.mem_cons,List.not_mem_nil,or_false] at hu
 rcases hu with rfl | rfl | rfl | rfl <;> rfl
theorem rows_set4 {x:RwX} (h:x.r.sum.length=32) (p1 p2:Value):((RwX.cells x).toArray.setIfInBounds 4 p1).setIfInBounds 38 p2=(RwX.cells ⟨x.r,p1,p2⟩).toArray:=by
 obtain ⟨⟨nm,⟨a,b,c,pr⟩,S,n,nds⟩,pv,nv⟩:=x
 obtain ⟨s0,s1,s2,s3,s4,s5,s6,s7,s8,s9,s10,s11,s12,s13,s14,s15,s16,s17,s18,s19,s20,s21,s22,s23,s24,s25,s26,s27,s28,s29,s30,s31,rfl⟩:=list32 h
 rfl
theorem rows_get4 (x:RwX):(RwX.cells x)[4]? = some x.pv:=rfl
theorem rows_get38 {x:RwX} (h:x.r.sum.length=32) (p1:Value):((RwX.cells x).toArray.setIfInBounds 4 p1)[38]? = some x.nv:=by
 obtain ⟨⟨nm,⟨a,b,c,pr⟩,S,n,nds⟩,pv,nv⟩:=x
 obtain ⟨s0,s1,s2,s3,s4,s5,s6,s7,s8,s9,s10,s11,s12,s13,s14,s15,s16,s17,s18,s19,s20,s21,s22,s23,s24,s25,s26,s27,s28,s29,s30,s31,rfl⟩:=list32 h
 rfl
theorem rows_get38' {x:RwX} (h:x.r.sum.length=32):(RwX.cells x)[38]? = some x.nv:=by
 obtain ⟨⟨nm,⟨a,b,c,pr⟩,S,n,nds⟩,pv,nv⟩:=x
 obtain ⟨s0,s1,s2,s3,s4,s5,s6,s7,s8,s9,s10,s11,s12,s13,s14,s15,s16,s17,s18,s19,s20,s21,s22,s23,s24,s25,s26,s27,s28,s29,s30,s31,rfl⟩:=list32 h
 rfl
theorem rows_one {w:World} {x:RwX} (h:RwOk w x):(RwX.cells x).toArray.all (·.oneCell')=true:=by
 obtain ⟨a,c,e⟩:=h.pre.len
 obtain ⟨na,nm,nc,e2⟩:=h.nv
 unfold RwX.cells verCs strV
 rw [e,e2]
 simp [bv,Value.oneCell']
theorem load_rowM {w:World} {b:Nat} {cs:Array Value} (hl:cs.size=39) (h:w.heap[b]? = some (.cells cs 46 (0,0))):(loadVar 46 ⟨b,0,none⟩).run prog w=.ok (.agg cs) w:=load_row hl h
set_option maxRecDepth 100000 in
set_option maxHeartbeats 8000000 in
theorem find_sv (xs:List RwX) (hx:xs.length<=1000000) (name:List UInt8) (v:Ver) (pv:Value) (rv:Value) (w:World) (hok:∀ x ∈ xs,RwAt w x) (hv:Small v) (hpv:SvX w No pv v.pre.length (strs v.pre))
  (hrv:Sl w No 46 rv xs.length (xs.flatMap RwX.cells)) :
  Calls prog 15 #[rv,strV name,verV v pv] w fun e w'=>FindRes w' (xs.map RwX.r) name v e/\Mod No w w':=by
 refine calls_hide fun R hR=>?_
 have HAT:=zh (fun W (hm:Mod No w W)=>at_any xs hx name v pv rv W (fun x hx=>(hok x hx).ok.keep hm (Apart.no _ _)) hv (hpv.kn hm) (hrv.kn hm))
 obtain ⟨ra,rc,rfl⟩:=hrv.len
 obtain ⟨qa,qc,rfl⟩:=hpv.len
 have HOK:=zh hok
 have HRV:=zh hrv
 have HFI:=zh (show findI (fun r:Rw=>decide (r.name=name) && decide (verC r.v v=0)) (xs.map RwX.r)=match atL (xs.map RwX.r) name v with | some k=>(k:Int) | none=>-1 from rfl)
 have HFR:=zh (show ∀ w' e,FindRes w' (xs.map RwX.r) name v e ↔ _ from fun w' e=>Iff.rfl)
 have HKL:=zh (show ∀ k,atL (xs.map RwX.r) name v=some k->k < xs.length from fun k h=>by
  obtain ⟨h1,-⟩:=List.findIdx?_eq_some_iff_getElem.1 h
  simpa using h1)
 obtain ⟨zs,hzs⟩:∃ zs,zs=rowCs ⟨#[]⟩ 0 0 0 (.slice none 0 0) (List.replicate 32 0) 0:=⟨_,rfl⟩
 have HZS:=zh hzs
 have HZL:=zh (show zs.toArray.size=39 by rw [hzs];exact rowCs_length (by simp) _ _ _ _ _ _)
 clear hok hrv hpv hv hzs HFR
 obtain ⟨va,vi,vp,pr⟩:=v
 dsimp only at *
 obtain ⟨qn,hqn⟩:∃ n,n=pr.length:=⟨_,rfl⟩
 unfold strV verV at *
 dsimp only at *
 rw [<- hqn] at HAT ⊢
 clear hqn
 have HRS:=zh (show (∀ w' e,FindRes w' (xs.map RwX.r) name ⟨va,vi,vp,pr⟩ e->Mod No w w'->R e w') from fun w' e h1 h2=>fin hR ⟨h1,h2⟩)
 generalize (⟨name.toArray⟩:ByteArray)=A2 at *
 go_enter func15,ntmps15
 go_upto_region 1 with fail
 obtain ⟨vb,hvb⟩:∃ g,g=w.heap.size:=⟨_,rfl⟩
 rw [<- hvb]
 generalize hw1:World.alloc (World.alloc w _) _=w1
 have HV1:=zh (show w1.heap[vb]? = some (.cells #[.int .i64 va,.int .i64 vi,.int .i64 vp,.slice qa qn qc] 40 (0,0)) by rw [<- hw1,hvb];exact heap_alloc_old _ (heap_alloc_new w _))
 have HR1:=zh (show w1.heap[vb+1]? = some (.cells zs.toArray 46 (0,0)) by rw [<- hw1,hvb,HZS.out];exact heap_at_new _ _ (by simp))
 have HM1:=zh (show Mod No w w1 by rw [<- hw1];exact ((Mod.refl No w).alloc _).alloc _)
 have HRB:=zh (show w.heap.size<=vb+1 by omega)
 clear hw1 hvb
 obtain ⟨⟨c0,c1,c2,c3⟩,-⟩:=cells4 HV1.out
 have HATW:=zh (HAT.out w1 HM1.out)
 go_wp2_with fail
 with_reducible refine HATW.out.mono ?_
 rintro e w3 ⟨rfl,hm3⟩
 have HM3:=zh (HM1.out.trans hm3)
 have HR3:=zh (hm3.keep HR1.out (fun f=>f))
 clear hm3 HATW HAT HV1 HR1 HM1 c0 c1 c2 c3
 rw [HFI.out]
 clear HFI
 obtain ⟨rb,hrb⟩:∃ g,g=vb+1:=⟨_,rfl⟩
 rw [<- hrb] at HR3 HRB
 rw [<- hrb]
 clear hrb
 cases hat:atL (xs.map RwX.r) name ⟨va,vi,vp,pr⟩ with
 | none =>
  have HN:=zh hat
  clear hat
  dsimp only
  go_wp2_with (refine wpList_store_row rfl 46 _ _ rfl rb zs.toArray rfl (by rw [HZS.out];rfl) 46 _ HR3.out (by rw [HZL.out];exact row_info) rfl (by rw [HZS.out];exact row_cells _ _ _ _ _ _ _ _ _) ?_)
  have HRz:=zh (setRow_heap w3 rb zs.toArray zs.toArray 46 (0,0) HR3.out)
  have hlz:=load_row HZL.out HRz.out
  have HMz:=zh (HM3.out.setRow (g:=rb) (fun h=>by have:=HRB.out;omega) zs.toArray)
  exact bodyPost_ret (v:=.tuple #[.agg zs.toArray,.bool false]) (by simp [results,results15,asAddr,hlz]) rfl (HRS.out _ _ (by unfold FindRes;rw [HN.out];exact ⟨⟨zeroRw,.slice none 0 0,.slice none 0 0⟩,rfl,rfl,rfl,by rw [HZS.out];rfl⟩) HMz.out)
 | some k =>
  have HN:=zh hat
  have hk:=HKL.out k hat
  have HGET:=zh (show (xs.map RwX.r)[k]? = some xs[k].r by simp [hk])
  have HXK:=zh ((HOK.out _ (List.getElem_mem hk)).keep HM3.out (Apart.no _ _))
  have hk1:(k:Int) < (xs.length:Int):=by omega
  have hk0:(0:Int)<=(k:Int):=Int.natCast_nonneg _
  have hk2:¬ ((k:Int) < 0):=by omega
  obtain ⟨b,o,c,hvs,_⟩:=HRV.out.shape (by omega)
  cases hvs
  have HRG:=zh (HM3.out.rangeAt (Sl.atM (fun x hx=>RwX.cells_length x (HOK.out x hx).ok.sum) HRV.out hk) (fun f=>f))
  have hzl:=HZL.out
  clear hat HKL HOK HRV HZL HZS
  generalize xs[k]=y at *
  have HL39:=zh (RwX.cells_length y HXK.out.ok.sum)
  obtain ⟨zz,hzz⟩:∃ zz,zz=zs.toArray:=⟨_,rfl⟩
  rw [<- hzz] at HR3 hzl
  have HZZ:=zh hzl
  clear hzz hzl
  obtain ⟨cs,hcs⟩:∃ cs,cs=RwX.cells y:=⟨_,rfl⟩
  rw [<- hcs] at HRG HL39
  have HCS:=zh hcs
  clear hcs
  dsimp only
  go_upto_region 5 with (first | (refine wpList_load_mid rfl 46 _ rfl b (o+k*39) rfl cs _ HRG.out underlying46 rfl (by rw [HL39.out];exact row_info) ?_) | (refine wpList_store_row rfl 46 _ _ rfl w3.heap.size cs.toArray rfl rfl 46 _ (heap_alloc_new w3 _) (by rw [List.size_toArray,HL39.out];exact row_info) (by show _=cs.length;rw [HL39.out];rfl) (by rw [HCS.out];exact rows_one HXK.out.ok) ?_))
  obtain ⟨gb,hgb⟩:∃ g,g=w3.heap.size:=⟨_,rfl⟩
  rw [<- hgb]
  generalize hw0:World.setRow _ gb cs.toArray=w0
  obtain ⟨wA,hwA⟩:∃ z,z=w0.drew:=⟨_,rfl⟩
  have hm3A:Mod No w3 wA:=by rw [hwA,<- hw0,hgb];exact (((Mod.refl No w3).alloc _).setRow (fun h=>absurd h (by omega)) _).drew
  have HM3A:=zh hm3A
  have HGA:=zh (show wA.heap[gb]? = some (.cells cs.toArray 46 (0,0)) by rw [hwA,<- hw0,hgb];exact setRow_heap _ _ _ _ _ _ (heap_alloc_new w3 _))
  have HGB0:=zh (show w.heap.size<=gb by rw [hgb];exact HM3.out.size)
  have HNE:=zh (show rb ≠ gb by have:=lt_of_heap HR3.out;omega)
  obtain ⟨pa,pc,hpv⟩:=HXK.out.ok.pre.len
  obtain ⟨ys,hy1,hy2,hy3,hy4,hy5⟩:=nds_one HXK.out.nds
  obtain ⟨na,nc,hnv⟩:=hy3.len
  have HSB:=zh (show ∀ w':World,w'.heap[gb]? = some (.cells cs.toArray 46 (0,0))->w'.cell? ⟨gb,4,none⟩=some (.slice pa y.r.v.pre.length pc)/\w'.cell? ⟨gb,38,none⟩=some (.slice na y.r.needs.length nc) from fun w' h =>
   ⟨by rw [<- hpv];exact cell_of h (by rw [HCS.out];exact rows_get4 _),by rw [<- hnv];exact cell_of h (by rw [HCS.out];exact rows_get38' HXK.out.ok.sum)⟩)
  have HC1:=zh (fun W (hm:Mod No w3 W)=>clonestrs y.r.v.pre.length HXK.out.ok.small.len (.slice pa y.r.v.pre.length pc) (strs y.r.v.pre) (by simp [strs]) (strs_one _) W (by rw [<- hpv];exact HXK.out.ok.pre.kn hm))
  have HC2:=zh (fun W (hm:Mod No w3 W)=>clonends y.r.needs.length HXK.out.few (.slice na y.r.needs.length nc) (ys.flatMap NdX.cells) hy4 hy5 W (by rw [<- hnv];exact hy3.kn hm))
  have HND:=zh (show ∀ (wD:World) {wC:World},Mod No w3 wC->Mod (fun p=>p=gb) wC wD->∀ v,Sl wD No 81 v y.r.needs.length (ys.flatMap NdX.cells)->NdsAt wD v y.r.needs from fun wD wC h1 h2 v h3=>by
   refine ⟨ys,hy1,fun x hx=>?_,h3⟩
   have hm3:Mod (fun p=>p=gb) w3 wD:=h1.no.trans h2
   exact (hy2 x hx).keep hm3 (fun k cur fz e hk hc=>absurd (lt_of_heap hc) (by have h6:k=gb:=hk;omega)))
  have hS0:=HSB.out wA HGA.out
  have HWA:=zh hwA
  clear hw0 hwA hm3A hgb hpv hy1 hy2 hy3 hy4 hy5 hnv HRG
  refine wp_region_D (fun w'=>w'.cell? ⟨gb,4,none⟩=some (.slice pa y.r.v.pre.length pc)/\w'.cell? ⟨gb,38,none⟩=some (.slice na y.r.needs.length nc)) 7 (by kernel_rfl) ?_
  rw [<- HWA.out]
  clear HWA
  refine wpAnyD_take 0 (some 21) ?_ rfl rfl (by kernel_rfl) (fun _ _ _ h=>h) hS0 (Or.inl ⟨by rfl,?_⟩) ?_
  rotate_left
  ·(intro w' hSw;obtain ⟨q0,q1⟩:=hSw;go_simp;try with_reducible rfl)
  simp only [Act.put,yB,yC,yD]
  refine wpAnyD_take 1 (some 22) ?_ rfl rfl (by kernel_rfl) (fun _ _ _ h=>h) hS0 (Or.inl ⟨by rfl,?_⟩) ?_
  rotate_left
  ·(intro w' hSw;obtain ⟨q0,q1⟩:=hSw;go_simp;try with_reducible rfl)
  simp only [Act.put,yB,yC,yD]
  refine wpAnyD_take 2 (some 23) ?_ rfl rfl (by kernel_rfl) (fun _ _ _ h=>h) hS0 (Or.inl ⟨by rfl,?_⟩) ?_
  rotate_left
  ·(intro w' hSw;obtain ⟨q0,q1⟩:=hSw;go_simp;try with_reducible rfl)
  simp only [Act.put,yB,yC,yD]
  refine wpAnyD_take 4 (some 25) ?_ rfl rfl (by kernel_rfl) (fun _ _ _ h=>h) hS0 (Or.inl ⟨by rfl,?_⟩) ?_
  rotate_left
  ·(intro w' hSw;obtain ⟨q0,q1⟩:=hSw;go_simp;try with_reducible rfl)
  simp only [Act.put,yB,yC,yD]
  refine wpAnyD_take 5 (some 26) ?_ rfl rfl (by kernel_rfl) (fun _ _ _ h=>h) hS0 (Or.inl ⟨by rfl,?_⟩) ?_
  rotate_left
  ·(intro w' hSw;obtain ⟨q0,q1⟩:=hSw;go_simp;try with_reducible rfl)
  simp only [Act.put,yB,yC,yD]
  refine wpAnyD_one 3 rfl (by kernel_rfl) rfl ?_
  intro K hK
  go_simp
  go_at_call 51
  with_reducible refine (HC1.out _ HM3A.out).mono ?_
  rintro e wB ⟨v1,rfl,hs1,hB⟩
  have HB:=zh (HM3A.out.trans hB)
  have HGB:=zh (hB.keep HGA.out (fun f=>f))
  have HV1:=zh (hs1.shrink (Y:=fun q=>q=gb) (fun q hq e=>by have h1:q=gb:=e;have h2:=lt_of_heap HGA.out;show q < wA.heap.size;omega))
  obtain ⟨v1a,v1c,hv1⟩:=hs1.len
  subst hv1
  clear hB hs1
  show K _ _
  have hS1:=HSB.out wB HGB.out
  refine hK.out _ _ (fun _=>hS1) ?_
  clear hK K
  refine wpAnyD_two 6 7 rfl rfl (by kernel_rfl) rfl rfl ?_ ?_
  ·intro K hK
   go_simp
   go_at_call 52
   with_reducible refine (HC2.out _ HB.out).mono ?_
   rintro e wC ⟨v2,rfl,hs2,hC⟩
   have HMC:=zh (HB.out.trans hC)
   have HGC:=zh (hC.keep HGB.out (fun f=>f))
   have HV1C:=zh (HV1.out.kn hC)
   have HV2:=zh (hs2.shrink (Y:=fun q=>q=gb) (fun q hq e=>by have h1:q=gb:=e;have h2:=lt_of_heap HGB.out;show q < wB.heap.size;omega))
   obtain ⟨v2a,v2c,hv2⟩:=hs2.len
   subst hv2
   clear hC hs2
   show K _ _
   have hS2:=HSB.out wC HGC.out
   refine hK.out _ _ (fun _=>hS2) ?_
   clear hK K
   refine wpAnyD_one 7 rfl (by kernel_rfl) rfl ?_
   intro K hK
   go_simp
   show K _ _
   refine hK.out _ _ (fun h=>absurd h (by decide)) ?_
   clear hK K
   refine wpAnyD_one 8 rfl (by kernel_rfl) rfl ?_
   intro K hK
   go_simp
   show K _ _
   refine hK.out _ _ (fun h=>absurd h (by decide)) ?_
   clear hK K
   refine wpAnyD_one 9 rfl (by kernel_rfl) rfl ?_
   intro K hK
   have c4:=cell_of HGC.out (i:=4) (by rw [HCS.out];exact rows_get4 _)
   have f4:=frozen_of 4 HGC.out
   go_simp
   show K _ _
   refine hK.out _ _ (fun h=>absurd h (by decide)) ?_
   clear hK K
   refine wpAnyD_one 10 rfl (by kernel_rfl) rfl ?_
   intro K hK
   go_simp
   show K _ _
   refine hK.out _ _ (fun h=>absurd h (by decide)) ?_
   clear hK K
   refine wpAnyD_one 11 rfl (by kernel_rfl) rfl ?_
   intro K hK
   have hg1:=heap_setCell HGC.out (i:=4) (.slice v1a y.r.v.pre.length v1c)
   have c38:=cell_ofA hg1 (i:=38) (by rw [HCS.out];exact rows_get38 HXK.out.ok.sum _)
   have f38:=frozen_of 38 hg1
   go_simp
   show K _ _
   refine hK.out _ _ (fun h=>absurd h (by decide)) ?_
   clear hK K
   refine wpAnyD_done (by kernel_rfl) ?_ _
   have hg1:=heap_setCell HGC.out (i:=4) (.slice v1a y.r.v.pre.length v1c)
   have hg2:=heap_setCell hg1 (i:=38) (.slice v2a y.r.needs.length v2c)
   rw [HCS.out,rows_set4 HXK.out.ok.sum] at hg2
   have hmD:=((Mod.cell1 wC gb 4 (.slice v1a y.r.v.pre.length v1c)).trans (Mod.cell1 _ gb 38 (.slice v2a y.r.needs.length v2c)))
   generalize hwD:World.setCell (World.setCell wC _ _) _ _=wD at *
   have HGD:=zh hg2
   have HRD:=zh (hmD.keep (HMC.out.keep HR3.out (fun f=>f)) (fun e=>HNE.out e))
   have HV1D:=zh (HV1C.out.keep hmD (fun k cur fz a b=>absurd a b))
   have HV2D:=zh (HV2.out.keep hmD (fun k cur fz a b=>absurd a b))
   have HMD:=zh ((HM3.out.trans HMC.out).then hmD (S:=No) (fun i hi e=>by have h1:i=gb:=e;have:=HGB0.out;omega))
   have HOR:=zh (show RwAt wD ⟨y.r,.slice v1a y.r.v.pre.length v1c,.slice v2a y.r.needs.length v2c⟩ from ⟨⟨HXK.out.ok.sum,HXK.out.ok.small,HV1D.out.shrink (fun _ _ f=>f.elim),_,_,_,rfl⟩,HND.out wD (HMC.out) hmD _ (HV2D.out.shrink (fun _ _ f=>f.elim)),HXK.out.few⟩)
   have HL2:=zh (RwX.cells_length ⟨y.r,.slice v1a y.r.v.pre.length v1c,.slice v2a y.r.needs.length v2c⟩ HXK.out.ok.sum)
   have H1C:=zh (rows_one HOR.out.ok)
   have HFN:=zh (show ∀ w',RwAt w' ⟨y.r,.slice v1a y.r.v.pre.length v1c,.slice v2a y.r.needs.length v2c⟩->FindRes w' (xs.map RwX.r) name ⟨va,vi,vp,pr⟩ (.returned (.tuple #[.agg (RwX.cells ⟨y.r,.slice v1a y.r.v.pre.length v1c,.slice v2a y.r.needs.length v2c⟩).toArray,.bool true])) from fun w' h=>by unfold FindRes;rw [HN.out];exact ⟨⟨y.r,.slice v1a y.r.v.pre.length v1c,.slice v2a y.r.needs.length v2c⟩,HGET.out,h,rfl⟩)
   clear hg1 hg2 hmD hwD HV1D HV2D HMC HGC HV1C HV2 HGB HB HV1 HC1 HC2 HND HSB HGA HM3A hS0
   generalize (⟨y.r,.slice v1a y.r.v.pre.length v1c,.slice v2a y.r.needs.length v2c⟩:RwX)=x2 at *
   have HL3:=zh (show (RwX.cells x2).toArray.size=39 from HL2.out)
   generalize hcs2:(RwX.cells x2).toArray=ds at *
   go_wp2_with (first | (refine wpList_load_row rfl 46 _ rfl gb rfl 46 ds (0,0) _ HGD.out underlying46 rfl (by rw [HL3.out];exact row_info) ?_) | (refine wpList_store_row rfl 46 _ _ rfl rb ds rfl rfl 46 _ HRD.out (by rw [HL3.out];exact row_info) (by rw [HL3.out];exact HZZ.out) H1C.out ?_))
   have HRz:=zh (setRow_heap wD rb zz ds 46 (0,0) HRD.out)
   have hlz:=load_row HL3.out HRz.out
   have HMz:=zh (HMD.out.setRow (g:=rb) (fun h=>by have:=HRB.out;omega) ds)
   have HOz:=zh (HOR.out.keep (S:=fun p=>p=rb) (Mod.setRow (S:=fun p=>p=rb) (Mod.refl _ wD) (fun _=>rfl) ds) (fun k cur fz e hk hc hm=>by rw [show k=rb from hk,HRD.out] at hc;cases hc;simp at hm))
   exact bodyPost_ret (v:=.tuple #[.agg ds,.bool true]) (by simp [results,results15,asAddr,hlz]) rfl (HRS.out _ _ (HFN.out _ HOz.out) HMz.out)
  ·intro K hK
   go_simp
   show K _ _
   have hS2:=hS1
   refine hK.out _ _ (fun _=>hS2) ?_
   clear hK K
   refine wpAnyD_two 6 8 rfl rfl (by kernel_rfl) rfl rfl ?_ ?_
   ·intro K hK
    go_simp
    go_at_call 52
    with_reducible refine (HC2.out _ HB.out).mono ?_
    rintro e wC ⟨v2,rfl,hs2,hC⟩
    have HMC:=zh (HB.out.trans hC)
    have HGC:=zh (hC.keep HGB.out (fun f=>f))
    have HV1C:=zh (HV1.out.kn hC)
    have HV2:=zh (hs2.shrink (Y:=fun q=>q=gb) (fun q hq e=>by have h1:q=gb:=e;have h2:=lt_of_heap HGB.out;show q < wB.heap.size;omega))
    obtain ⟨v2a,v2c,hv2⟩:=hs2.len
    subst hv2
    clear hC hs2
    show K _ _
    have hS3:=HSB.out wC HGC.out
    refine hK.out _ _ (fun _=>hS3) ?_
    clear hK K
    refine wpAnyD_one 8 rfl (by kernel_rfl) rfl ?_
    intro K hK
    go_simp
    show K _ _
    refine hK.out _ _ (fun h=>absurd h (by decide)) ?_
    clear hK K
    refine wpAnyD_one 9 rfl (by kernel_rfl) rfl ?_
    intro K hK
    have c4:=cell_of HGC.out (i:=4) (by rw [HCS.out];exact rows_get4 _)
    have f4:=frozen_of 4 HGC.out
    go_simp
    show K _ _
    refine hK.out _ _ (fun h=>absurd h (by decide)) ?_
    clear hK K
    refine wpAnyD_one 10 rfl (by kernel_rfl) rfl ?_
    intro K hK
    go_simp
    show K _ _
    refine hK.out _ _ (fun h=>absurd h (by decide)) ?_
    clear hK K
    refine wpAnyD_one 11 rfl (by kernel_rfl) rfl ?_
    intro K hK
    have hg1:=heap_setCell HGC.out (i:=4) (.slice v1a y.r.v.pre.length v1c)
    have c38:=cell_ofA hg1 (i:=38) (by rw [HCS.out];exact rows_get38 HXK.out.ok.sum _)
    have f38:=frozen_of 38 hg1
    go_simp
    show K _ _
    refine hK.out _ _ (fun h=>absurd h (by decide)) ?_
    clear hK K
    refine wpAnyD_done (by kernel_rfl) ?_ _
    have hg1:=heap_setCell HGC.out (i:=4) (.slice v1a y.r.v.pre.length v1c)
    have hg2:=heap_setCell hg1 (i:=38) (.slice v2a y.r.needs.length v2c)
    rw [HCS.out,rows_set4 HXK.out.ok.sum] at hg2
    have hmD:=((Mod.cell1 wC gb 4 (.slice v1a y.r.v.pre.length v1c)).trans (Mod.cell1 _ gb 38 (.slice v2a y.r.needs.length v2c)))
    generalize hwD:World.setCell (World.setCell wC _ _) _ _=wD at *
    have HGD:=zh hg2
    have HRD:=zh (hmD.keep (HMC.out.keep HR3.out (fun f=>f)) (fun e=>HNE.out e))
    have HV1D:=zh (HV1C.out.keep hmD (fun k cur fz a b=>absurd a b))
    have HV2D:=zh (HV2.out.keep hmD (fun k cur fz a b=>absurd a b))
    have HMD:=zh ((HM3.out.trans HMC.out).then hmD (S:=No) (fun i hi e=>by have h1:i=gb:=e;have:=HGB0.out;omega))
    have HOR:=zh (show RwAt wD ⟨y.r,.slice v1a y.r.v.pre.length v1c,.slice v2a y.r.needs.length v2c⟩ from ⟨⟨HXK.out.ok.sum,HXK.out.ok.small,HV1D.out.shrink (fun _ _ f=>f.elim),_,_,_,rfl⟩,HND.out wD (HMC.out) hmD _ (HV2D.out.shrink (fun _ _ f=>f.elim)),HXK.out.few⟩)
    have HL2:=zh (RwX.cells_length ⟨y.r,.slice v1a y.r.v.pre.length v1c,.slice v2a y.r.needs.length v2c⟩ HXK.out.ok.sum)
    have H1C:=zh (rows_one HOR.out.ok)
    have HFN:=zh (show ∀ w',RwAt w' ⟨y.r,.slice v1a y.r.v.pre.length v1c,.slice v2a y.r.needs.length v2c⟩->FindRes w' (xs.map RwX.r) name ⟨va,vi,vp,pr⟩ (.returned (.tuple #[.agg (RwX.cells ⟨y.r,.slice v1a y.r.v.pre.length v1c,.slice v2a y.r.needs.length v2c⟩).toArray,.bool true])) from fun w' h=>by unfold FindRes;rw [HN.out];exact ⟨⟨y.r,.slice v1a y.r.v.pre.length v1c,.slice v2a y.r.needs.length v2c⟩,HGET.out,h,rfl⟩)
    clear hg1 hg2 hmD hwD HV1D HV2D HMC HGC HV1C HV2 HGB HB HV1 HC1 HC2 HND HSB HGA HM3A hS0
    generalize (⟨y.r,.slice v1a y.r.v.pre.length v1c,.slice v2a y.r.needs.length v2c⟩:RwX)=x2 at *
    have HL3:=zh (show (RwX.cells x2).toArray.size=39 from HL2.out)
    generalize hcs2:(RwX.cells x2).toArray=ds at *
    go_wp2_with (first | (refine wpList_load_row rfl 46 _ rfl gb rfl 46 ds (0,0) _ HGD.out underlying46 rfl (by rw [HL3.out];exact row_info) ?_) | (refine wpList_store_row rfl 46 _ _ rfl rb ds rfl rfl 46 _ HRD.out (by rw [HL3.out];exact row_info) (by rw [HL3.out];exact HZZ.out) H1C.out ?_))
    have HRz:=zh (setRow_heap wD rb zz ds 46 (0,0) HRD.out)
    have hlz:=load_row HL3.out HRz.out
    have HMz:=zh (HMD.out.setRow (g:=rb) (fun h=>by have:=HRB.out;omega) ds)
    have HOz:=zh (HOR.out.keep (S:=fun p=>p=rb) (Mod.setRow (S:=fun p=>p=rb) (Mod.refl _ wD) (fun _=>rfl) ds) (fun k cur fz e hk hc hm=>by rw [show k=rb from hk,HRD.out] at hc;cases hc;simp at hm))
    exact bodyPost_ret (v:=.tuple #[.agg ds,.bool true]) (by simp [results,results15,asAddr,hlz]) rfl (HRS.out _ _ (HFN.out _ HOz.out) HMz.out)
   ·intro K hK
    go_simp
    show K _ _
    have hS3:=hS2
    refine hK.out _ _ (fun _=>hS3) ?_
    clear hK K
    refine wpAnyD_one 6 rfl (by kernel_rfl) rfl ?_
    intro K hK
    go_simp
    go_at_call 52
    with_reducible refine (HC2.out _ HB.out).mono ?_
    rintro e wC ⟨v2,rfl,hs2,hC⟩
    have HMC:=zh (HB.out.trans hC)
    have HGC:=zh (hC.keep HGB.out (fun f=>f))
    have HV1C:=zh (HV1.out.kn hC)
    have HV2:=zh (hs2.shrink (Y:=fun q=>q=gb) (fun q hq e=>by have h1:q=gb:=e;have h2:=lt_of_heap HGB.out;show q < wB.heap.size;omega))
    obtain ⟨v2a,v2c,hv2⟩:=hs2.len
    subst hv2
    clear hC hs2
    show K _ _
    have hS4:=HSB.out wC HGC.out
    refine hK.out _ _ (fun _=>hS4) ?_
    clear hK K
    refine wpAnyD_one 9 rfl (by kernel_rfl) rfl ?_
    intro K hK
    have c4:=cell_of HGC.out (i:=4) (by rw [HCS.out];exact rows_get4 _)
    have f4:=frozen_of 4 HGC.out
    go_simp
    show K _ _
    refine hK.out _ _ (fun h=>absurd h (by decide)) ?_
    clear hK K
    refine wpAnyD_one 10 rfl (by kernel_rfl) rfl ?_
    intro K hK
    go_simp
    show K _ _
    refine hK.out _ _ (fun h=>absurd h (by decide)) ?_
    clear hK K
    refine wpAnyD_one 11 rfl (by kernel_rfl) rfl ?_
    intro K hK
    have hg1:=heap_setCell HGC.out (i:=4) (.slice v1a y.r.v.pre.length v1c)
    have c38:=cell_ofA hg1 (i:=38) (by rw [HCS.out];exact rows_get38 HXK.out.ok.sum _)
    have f38:=frozen_of 38 hg1
    go_simp
    show K _ _
    refine hK.out _ _ (fun h=>absurd h (by decide)) ?_
    clear hK K
    refine wpAnyD_done (by kernel_rfl) ?_ _
    have hg1:=heap_setCell HGC.out (i:=4) (.slice v1a y.r.v.pre.length v1c)
    have hg2:=heap_setCell hg1 (i:=38) (.slice v2a y.r.needs.length v2c)
    rw [HCS.out,rows_set4 HXK.out.ok.sum] at hg2
    have hmD:=((Mod.cell1 wC gb 4 (.slice v1a y.r.v.pre.length v1c)).trans (Mod.cell1 _ gb 38 (.slice v2a y.r.needs.length v2c)))
    generalize hwD:World.setCell (World.setCell wC _ _) _ _=wD at *
    have HGD:=zh hg2
    have HRD:=zh (hmD.keep (HMC.out.keep HR3.out (fun f=>f)) (fun e=>HNE.out e))
    have HV1D:=zh (HV1C.out.keep hmD (fun k cur fz a b=>absurd a b))
    have HV2D:=zh (HV2.out.keep hmD (fun k cur fz a b=>absurd a b))
    have HMD:=zh ((HM3.out.trans HMC.out).then hmD (S:=No) (fun i hi e=>by have h1:i=gb:=e;have:=HGB0.out;omega))
    have HOR:=zh (show RwAt wD ⟨y.r,.slice v1a y.r.v.pre.length v1c,.slice v2a y.r.needs.length v2c⟩ from ⟨⟨HXK.out.ok.sum,HXK.out.ok.small,HV1D.out.shrink (fun _ _ f=>f.elim),_,_,_,rfl⟩,HND.out wD (HMC.out) hmD _ (HV2D.out.shrink (fun _ _ f=>f.elim)),HXK.out.few⟩)
    have HL2:=zh (RwX.cells_length ⟨y.r,.slice v1a y.r.v.pre.length v1c,.slice v2a y.r.needs.length v2c⟩ HXK.out.ok.sum)
    have H1C:=zh (rows_one HOR.out.ok)
    have HFN:=zh (show ∀ w',RwAt w' ⟨y.r,.slice v1a y.r.v.pre.length v1c,.slice v2a y.r.needs.length v2c⟩->FindRes w' (xs.map RwX.r) name ⟨va,vi,vp,pr⟩ (.returned (.tuple #[.agg (RwX.cells ⟨y.r,.slice v1a y.r.v.pre.length v1c,.slice v2a y.r.needs.length v2c⟩).toArray,.bool true])) from fun w' h=>by unfold FindRes;rw [HN.out];exact ⟨⟨y.r,.slice v1a y.r.v.pre.length v1c,.slice v2a y.r.needs.length v2c⟩,HGET.out,h,rfl⟩)
    clear hg1 hg2 hmD hwD HV1D HV2D HMC HGC HV1C HV2 HGB HB HV1 HC1 HC2 HND HSB HGA HM3A hS0
    generalize (⟨y.r,.slice v1a y.r.v.pre.length v1c,.slice v2a y.r.needs.length v2c⟩:RwX)=x2 at *
    have HL3:=zh (show (RwX.cells x2).toArray.size=39 from HL2.out)
    generalize hcs2:(RwX.cells x2).toArray=ds at *
    go_wp2_with (first | (refine wpList_load_row rfl 46 _ rfl gb rfl 46 ds (0,0) _ HGD.out underlying46 rfl (by rw [HL3.out];exact row_info) ?_) | (refine wpList_store_row rfl 46 _ _ rfl rb ds rfl rfl 46 _ HRD.out (by rw [HL3.out];exact row_info) (by rw [HL3.out];exact HZZ.out) H1C.out ?_))
    have HRz:=zh (setRow_heap wD rb zz ds 46 (0,0) HRD.out)
    have hlz:=load_row HL3.out HRz.out
    have HMz:=zh (HMD.out.setRow (g:=rb) (fun h=>by have:=HRB.out;omega) ds)
    have HOz:=zh (HOR.out.keep (S:=fun p=>p=rb) (Mod.setRow (S:=fun p=>p=rb) (Mod.refl _ wD) (fun _=>rfl) ds) (fun k cur fz e hk hc hm=>by rw [show k=rb from hk,HRD.out] at hc;cases hc;simp at hm))
    exact bodyPost_ret (v:=.tuple #[.agg ds,.bool true]) (by simp [results,results15,asAddr,hlz]) rfl (HRS.out _ _ (HFN.out _ HOz.out) HMz.out)
theorem find_any (xs:List RwX) (hx:xs.length<=1000000) (name:List UInt8) (v:Ver) (pv:Value) (rv:Value) (w:World) (hok:∀ x ∈ xs,RwAt w x) (hv:Small v) (hpv:Sl w No 9 pv v.pre.length (strs v.pre))
  (hrv:Sl w No 46 rv xs.length (xs.flatMap RwX.cells)) :
  Calls prog 15 #[rv,strV name,verV v pv] w fun e w'=>FindRes w' (xs.map RwX.r) name v e/\Mod No w w' :=
 find_sv xs hx name v pv rv w hok hv (.of hpv) hrv
end Go.Proofs.YtgiigemfbebcgaaGreatDoor
