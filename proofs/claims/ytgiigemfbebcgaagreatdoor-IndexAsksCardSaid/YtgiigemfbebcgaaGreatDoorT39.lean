/-
  Layers 0 to 14: helps of the laws of indexes. No statement is proved here; no condition.
-/
import Derived.Test.YtgiigemfbebcgaaGreatDoorT38
import Derived.Test.YtgiigemfbebcgaaGreatDoorT32
import Derived.Test.YtgiigemfbebcgaaGreatDoorT34
import Derived.Test.YtgiigemfbebcgaaGreatDoorT37
import Derived.Test.YtgiigemfbebcgaaGreatDoorT14
import Derived.Test.YtgiigemfbebcgaaGreatDoorT02
import Derived.Test.YtgiigemfbebcgaaGreatDoorT21
import Derived.Test.YtgiigemfbebcgaaGreatDoorT11
import Derived.Test.YtgiigemfbebcgaaGreatDoorT22
import Derived.Test.YtgiigemfbebcgaaGreatDoorT20
namespace Go.Proofs.YtgiigemfbebcgaaGreatDoor
open _root_.Go.Proofs.Tryz
open Go.RowKit
noncomputable def blkMd3:Code:=(blockAt 3 bodyMd).getD .skip
theorem SvX.at {α:Type} {f:α->List Value} {wd:Nat} {X:Nat->Prop} {w:World} {b o n c:Nat} {xs:List α} (hf:∀ x,(f x).length=wd) (h:SvX w X (.slice (some ⟨b,o,none⟩) n c) n (xs.flatMap f)) {i:Nat} (hi:i < xs.length) (hn:xs.length=n):w.rangeAt b (o+i*wd) (f xs[i]):=by
 subst hn
 obtain ⟨e,h⟩:=h.get (by omega)
 exact Sl.at hf h hi
def u16s (l:List Nat):List Value:=l.map fun t:Nat=>Value.int .u16 (t:Int)
theorem nfold_good (name:List UInt8) (l:List Nat):Rises Nd.name (l.foldl (nstep name) [])/\(l.foldl (nstep name) []).length<=l.length:=by
 obtain ⟨h1,-,h3⟩:=ndsK_good name l [] List.Pairwise.nil (fun _ h=>by cases h)
 exact ⟨h1,by rw [List.length_nil,Nat.zero_add] at h3;exact h3⟩
theorem nfold_take {name:List UInt8} {l:List Nat} {k:Nat} (h:k < l.length):(l.take (k+1)).foldl (nstep name) []=nstep name ((l.take k).foldl (nstep name) []) l[k]:=by
 rw [List.take_succ_eq_append_getElem h,List.foldl_append]
 rfl
def LpN (z1 z2 z3 z4 z5 z6 z12 z215 z216 z217 z218:Value) (x:RwX) (nds:List Nat) (i ib io inn icc rb:Nat) (wb:World) (m:Nat) (a:Act) (w:World):Prop :=
 ∃ (k:Nat) (nv':Value),k+m=nds.length/\w.heap[rb]? = some (.cells (RwX.cells ⟨{ x.r with needs:=(nds.take k).foldl (nstep x.r.name) [] },x.pv,nv'⟩).toArray 46 (0,0))/\NdsAt w nv' ((nds.take k).foldl (nstep x.r.name) [])/\Mod (fun q=>q=rb) wb w/\Fr 219 [(0,.slice (some ⟨ib,io,none⟩) inn icc),(7,.int .i64 (i:Int)),(13,.pointer (some ⟨rb,0,none⟩)),(14,.int .i64 (k:Int)),(1,z1),(2,z2),(3,z3),(4,z4),(5,z5),(6,z6),(12,z12),(215,z215),(216,z216),(217,z217),(218,z218)] a
set_option maxRecDepth 100000 in
set_option maxHeartbeats 16000000 in
theorem needs3_part (z1 z2 z3 z4 z5 z6 z12 z215 z216 z217 z218:Value) (x:RwX) (nds:List Nat) (i ib io inn icc rb:Nat) (nvv:Value) (f:Act) (w:World) (hS:x.r.sum.length=32) (hrb:w.heap[rb]? = some (.cells (RwX.cells x).toArray 46 (0,0))) (hnv:x.nv=.slice none 0 0) (hx0:x.r.needs=[])
  (hi:i < inn) (hc1:w.cell? ⟨ib,io+i*5+2,none⟩=some nvv) (hsl:SvX w (fun q=>q=rb) nvv nds.length (u16s nds)) (ht:∀ t ∈ nds,t < 65536) (hnl:nds.length<=1000) (hir:ib ≠ rb)
  (hF:Fr 219 [(0,.slice (some ⟨ib,io,none⟩) inn icc),(7,.int .i64 (i:Int)),(13,.pointer (some ⟨rb,0,none⟩)),(14,.int .i64 ((0:Nat):Int)),(1,z1),(2,z2),(3,z3),(4,z4),(5,z5),(6,z6),(12,z12),(215,z215),(216,z216),(217,z217),(218,z218)] f) :
  Code.wp prog blkMd3 (Exit.then (fun a' w'=>∃ nv',Fr 219 [(0,.slice (some ⟨ib,io,none⟩) inn icc),(7,.int .i64 (i:Int)),(13,.pointer (some ⟨rb,0,none⟩)),(1,z1),(2,z2),(3,z3),(4,z4),(5,z5),(6,z6),(12,z12),(215,z215),(216,z216),(217,z217),(218,z218)] a'/\w'.heap[rb]? = some (.cells (RwX.cells ⟨{ x.r with needs:=ndsK x.r.name nds },x.pv,nv'⟩).toArray 46 (0,0))/\NdsAt w' nv' (ndsK x.r.name nds)/\Mod (fun q=>q=rb) w w') Nope) f w:=by
 refine wp_part fun J K' hJ hK=>?_
 have H0:=zh (show LpN z1 z2 z3 z4 z5 z6 z12 z215 z216 z217 z218 x nds i ib io inn icc rb w nds.length f w from ⟨0,x.nv,by omega,by
  have he:(⟨{ x.r with needs:=[] },x.pv,x.nv⟩:RwX)=x:=by
   obtain ⟨⟨a,b,c,d,e⟩,pv,nv⟩:=x
   obtain rfl:e=[]:=hx0
   rfl
  rw [List.take_zero]
  show w.heap[rb]? = some (.cells (RwX.cells ⟨{ x.r with needs:=[] },x.pv,x.nv⟩).toArray 46 (0,0))
  rw [he];exact hrb,by rw [hnv];exact ⟨[],rfl,(fun z hz=>by cases hz),.inl ⟨rfl,rfl,rfl⟩⟩,Mod.refl _ w,hF⟩)
 have HJ:=zh hJ
 have HC1:=zh hc1
 have HSL:=zh hsl
 have HT:=zh ht
 obtain ⟨na,nc,hnvv⟩:=hsl.len
 subst hnvv
 have HS:=zh hS
 obtain ⟨wb,hwb⟩:∃ wb,wb=w:=⟨_,rfl⟩
 rw [<- hwb] at HJ H0 HC1 HSL
 clear hF hJ hc1 hsl ht hnv hx0 hrb hS
 conv=>arg 2;whnf
 go_step
 refine wp_loop_ghost_k (LpN z1 z2 z3 z4 z5 z6 z12 z215 z216 z217 z218 x nds i ib io inn icc rb wb) nds.length (by rw [hwb] at H0 ⊢;exact H0.out) ?_
 clear H0 hwb f w
 intro m f w hI J2 K2 hJ2 hK2
 have HJ2:=zh hJ2
 obtain ⟨k,nv',hkm,hrb,hnd,hmod,hF⟩:=hI
 have HRB:=zh hrb
 have HND:=zh hnd
 have HM:=zh hmod
 have hc1:=hmod.cell HC1.out hir
 clear hJ2 hrb hnd hmod
 obtain ⟨ts,ds⟩:=f
 obtain ⟨hsz,hds,hs0,hs7,hs13,hs14,hs1,hs2,hs3,hs4,hs5,hs6,hs12,hs215,hs216,hs217,hs218,-⟩:=hF
 dsimp only at hsz hds hs0 hs7 hs13 hs14 hs1 hs2 hs3 hs4 hs5 hs6 hs12 hs215 hs216 hs217 hs218
 subst hds
 obtain ⟨c,rfl,hc⟩:=lit219 ts hsz
 rw [hc] at hs0
 rw [hc] at hs7
 rw [hc] at hs13
 rw [hc] at hs14
 rw [hc] at hs1
 rw [hc] at hs2
 rw [hc] at hs3
 rw [hc] at hs4
 rw [hc] at hs5
 rw [hc] at hs6
 rw [hc] at hs12
 rw [hc] at hs215
 rw [hc] at hs216
 rw [hc] at hs217
 rw [hc] at hs218
 simp only [hs0,hs7,hs13,hs14,hs1,hs2,hs3,hs4,hs5,hs6,hs12,hs215,hs216,hs217,hs218]
 clear hc hsz hs0 hs7 hs13 hs14 hs1 hs2 hs3 hs4 hs5 hs6 hs12 hs215 hs216 hs217 hs218
 have hk0:(0:Int)<=(k:Int):=Int.natCast_nonneg _
 have hii:(i:Int) < (inn:Int):=by omega
 have hi0:(0:Int)<=(i:Int):=Int.natCast_nonneg _
 obtain ⟨nl,hnn⟩:∃ nl,nl=nds.length:=⟨_,rfl⟩
 have HNN:=zh hnn
 rw [<- hnn] at hc1 hkm hnl
 clear hnn
 by_cases hlt:k < nl
 ·have hk1:(k:Int) < (nl:Int):=by omega
  have hkl:k < nds.length:=by rw [<- HNN.out];exact hlt
  obtain ⟨nb,no,ncc,hvs,_,_,hnrb⟩:=HSL.out.shape (by rw [<- HNN.out];omega)
  have hna:na=some ⟨nb,no,none⟩:=by cases hvs;rfl
  subst hna
  have hc2:=HM.out.cell (HSL.out.cellN (i:=k) (by unfold u16s;rw [List.length_map];exact hkl)) hnrb
  rw [show (u16s nds)[k]'(by unfold u16s;rw [List.length_map];exact hkl)=.int .u16 ((nds[k]:Nat):Int) from List.getElem_map ..] at hc2
  have HTK:=zh (nfold_take (name:=x.r.name) hkl)
  have htk:=HT.out _ (List.getElem_mem hkl)
  obtain ⟨hg1,hg2⟩:=nfold_good x.r.name (nds.take k)
  have HP:=zh (fun a=>need4_part z1 z2 z3 z4 z5 z6 z12 z215 z216 z217 z218 nds[k] i k ⟨{ x.r with needs:=(nds.take k).foldl (nstep x.r.name) [] },x.pv,nv'⟩ ib io inn icc rb nb no nl nc a w HS.out HRB.out HND.out hg1 (by rw [List.length_take] at hg2;have h1:min k nds.length<=k:=Nat.min_le_left _ _;show ((nds.take k).foldl (nstep x.r.name) []).length<=1000;omega) hi hlt hc1 hc2 htk)
  clear hvs hc2 htk hg1 hg2
  go_upto_block 4 with fail
  rename_i K5 hK5
  refine wp_only (HP.out _ ⟨rfl,rfl,rfl,rfl,rfl,rfl,rfl,rfl,rfl,rfl,rfl,rfl,rfl,rfl,rfl,rfl,rfl,trivial⟩) ?_
  rintro a2 w2 ⟨nv2,hF,hrb2,hnd2,-,hm2⟩
  have HM2:=zh (HM.out.trans hm2)
  have HRB2:=zh hrb2
  have HND2:=zh hnd2
  clear hrb2 hnd2 hm2 HP HRB HND hc1
  refine hK5 _ _ ?_
  obtain ⟨ts,ds⟩:=a2
  obtain ⟨hsz,hds,hs0,hs7,hs13,hs14,hs1,hs2,hs3,hs4,hs5,hs6,hs12,hs215,hs216,hs217,hs218,-⟩:=hF
  dsimp only at hsz hds hs0 hs7 hs13 hs14 hs1 hs2 hs3 hs4 hs5 hs6 hs12 hs215 hs216 hs217 hs218
  subst hds
  obtain ⟨c,rfl,hc⟩:=lit219 ts hsz
  rw [hc] at hs0
  rw [hc] at hs7
  rw [hc] at hs13
  rw [hc] at hs14
  rw [hc] at hs1
  rw [hc] at hs2
  rw [hc] at hs3
  rw [hc] at hs4
  rw [hc] at hs5
  rw [hc] at hs6
  rw [hc] at hs12
  rw [hc] at hs215
  rw [hc] at hs216
  rw [hc] at hs217
  rw [hc] at hs218
  simp only [hs0,hs7,hs13,hs14,hs1,hs2,hs3,hs4,hs5,hs6,hs12,hs215,hs216,hs217,hs218]
  clear hc hsz hs0 hs7 hs13 hs14 hs1 hs2 hs3 hs4 hs5 hs6 hs12 hs215 hs216 hs217 hs218
  clear hK5 K5
  go_wp2_with fail
  exact Handed.intro (m - 1) (by omega) (HJ2.out _ _ _ ⟨k+1,nv2,by rw [<- HNN.out];omega,by rw [HTK.out];exact HRB2.out,by rw [HTK.out];exact HND2.out,HM2.out,⟨rfl,rfl,rfl,rfl,rfl,(by go_num),rfl,rfl,rfl,rfl,rfl,rfl,rfl,rfl,rfl,rfl,rfl,trivial⟩⟩)
 ·obtain rfl:k=nl:=by omega
  have hk1:¬ ((k:Int) < (k:Int)):=by omega
  have HF:=zh (show (nds.take k).foldl (nstep x.r.name) []=ndsK x.r.name nds by rw [HNN.out,List.take_length,ndsK_fold])
  go_wp2_with fail
  exact Met.intro (HJ.out _ _ ⟨nv',⟨rfl,rfl,rfl,rfl,rfl,rfl,rfl,rfl,rfl,rfl,rfl,rfl,rfl,rfl,rfl,rfl,trivial⟩,by rw [<- HF.out];exact HRB.out,by rw [<- HF.out];exact HND.out,HM.out⟩)
theorem rowcs_one (nm:ByteArray) (a b c:Int) (pa:Option Addr) (pn pc:Nat) (S:List UInt8) (n:Int):∀ u ∈ rowCs nm a b c (.slice pa pn pc) S n,u.oneCell'=true:=fun u hu=>by
 unfold rowCs bv at hu
 simp only [List.mem_cons,List.mem_append,List.mem_map,List.not_mem_nil,or_false] at hu
 rcases hu with rfl | (rfl | rfl | rfl | rfl) | ⟨_,_,rfl⟩ | rfl | rfl <;> rfl
set_option maxRecDepth 100000 in
theorem rw_new {w:World} {cs:List Value} {o:Oper} {ρ:Operand->Value} (hc:cs.length=39) (x:Operand) (ho:o.op=.buildSlice 25 1 #[(0,x)]) (hx:ρ x=.agg cs.toArray) :
  (execOp ρ o).run prog w=.ok (.value (.slice (some ⟨w.heap.size,0,none⟩) 1 1)) (w.alloc (.cells cs.toArray 46)):=by
 obtain ⟨i0,hi,hz0,hz1,hz2⟩:=info_parts info_row
 have h:=run_buildSlice (P:=prog) w 25 46 1 #[(0,.agg cs.toArray)] cs.toArray i0 _ underlying25 hi hz0 (by rw [hz1];omega) (by rw [hz1];omega) (by
  rw [hz1]
  have h2:=Great.fill_whole (s:=39) (by decide) [Value.agg cs.toArray] ((Array.range (1*39)).map ((Value.agg (rowCs ⟨#[]⟩ 0 0 0 (.slice none 0 0) (List.replicate 32 0) 0).toArray).cells[· % (Value.agg (rowCs ⟨#[]⟩ 0 0 0 (.slice none 0 0) (List.replicate 32 0) 0).toArray).cells.size]!)) (fun v hv=>by
   simp at hv
   subst hv
   show cs.toArray.size=39
   simp [hc]) (by simp)
  have h3:[Value.agg cs.toArray].flatMap (fun v=>v.cells.toList)=cs:=by
   show cs.toArray.toList++[]=cs
   simp
  rw [h3] at h2
  exact h2)
 unfold execOp
 simp only [ho,List.map_toArray,List.map_cons,List.map_nil,hx,Sem.run_bind]
 erw [h]
 rfl
theorem refver_u (l:List UInt8) (hl:l.length<=999999) (w:World) :
  Calls prog 24 #[strV l] w fun e w'=>(∃ (v:Ver) (pv:Value) (c:Int),e=.returned (.tuple #[verV v pv,.int .i64 c])/\Small v/\Sl w' No 9 pv v.pre.length (strs v.pre)/\((c=0/\verOf l=some v)\/(c=60/\verOf l=none)))/\Mod No w w' :=
 (versionof_any l (by omega) w).mono fun e w' ⟨h,hm⟩=>⟨by
  rcases h with ⟨h1,h2⟩ | ⟨v,pv,h1,h2,h3⟩
  ·exact ⟨_,_,60,h2,small_zero,.inl ⟨rfl,rfl,rfl⟩,.inr ⟨rfl,h1⟩⟩
  ·exact ⟨v,pv,0,h2,verOf_small hl h1,h3,.inl ⟨rfl,h1⟩⟩,hm⟩
theorem zero_row_ok (w:World):RwOk w ⟨zeroRw,.slice none 0 0,.slice none 0 0⟩:=⟨by simp [zeroRw],small_zero,.inl ⟨rfl,rfl,rfl⟩,_,_,_,rfl⟩
theorem findr_u {w:World} {xs:List RwX} {name:List UInt8} {v:Ver} {e:Ending} (hok:∀ x ∈ xs,RwOk w x) (th:Bool) (hth:th=(atL (xs.map RwX.r) name v).isSome) (h:FindR xs name v e):∃ ds:Array Value,e=.returned (.tuple #[.agg ds,.bool th])/\ds.size=39/\ds.all (·.oneCell')=true:=by
 subst hth
 unfold FindR at h
 cases ha:atL (xs.map RwX.r) name v with
 | none =>
  rw [ha] at h
  exact ⟨_,h,by rw [List.size_toArray];exact RwX.cells_length _ rfl,rows_one (zero_row_ok w)⟩
 | some k =>
  rw [ha] at h
  obtain ⟨x,h1,h2⟩:=h
  have hx:=hok x (List.mem_of_getElem? h1)
  exact ⟨_,h2,by rw [List.size_toArray];exact RwX.cells_length x hx.sum,rows_one hx⟩
end Go.Proofs.YtgiigemfbebcgaaGreatDoor
