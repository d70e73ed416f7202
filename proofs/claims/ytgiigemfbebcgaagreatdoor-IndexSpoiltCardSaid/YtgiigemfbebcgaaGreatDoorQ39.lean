/-
  Layers 0 to 14: helps of the laws of indexes. No statement is proved here; no condition.
-/
import Derived.Test.YtgiigemfbebcgaaGreatDoorQ38
import Derived.Test.YtgiigemfbebcgaaGreatDoorQ30
import Derived.Test.YtgiigemfbebcgaaGreatDoorQ36
import Derived.Test.YtgiigemfbebcgaaGreatDoorQ37
import Derived.Test.YtgiigemfbebcgaaGreatDoorQ14
import Derived.Test.YtgiigemfbebcgaaGreatDoorQ02
import Derived.Test.YtgiigemfbebcgaaGreatDoorQ18
import Derived.Test.YtgiigemfbebcgaaGreatDoorQ10
import Derived.Test.YtgiigemfbebcgaaGreatDoorQ19
import Derived.Test.YtgiigemfbebcgaaGreatDoorQ17
namespace Go.Proofs.YtgiigemfbebcgaaGreatDoor
open _root_.Go.Proofs.Tryz
open Go.RowKit
noncomputable def blkMd3:Code:=(blockAt 3 bodyMd).getD .skip
def SvX (w:World) (X:Nat->Prop) (v:Value) (n:Nat) (xs:List Value):Prop:=(∃ a c,v=.slice a n c)/\((n=0/\xs=[])\/∃ e,Sl w X e v n xs)
theorem SvX.of {w:World} {X:Nat->Prop} {e:TypeId} {v:Value} {n:Nat} {xs:List Value} (h:Sl w X e v n xs):SvX w X v n xs:=⟨h.len,.inr ⟨e,h⟩⟩
theorem SvX.len {w:World} {X:Nat->Prop} {v:Value} {n:Nat} {xs:List Value} (h:SvX w X v n xs):∃ a c,v=.slice a n c:=h.1
theorem SvX.get {w:World} {X:Nat->Prop} {v:Value} {n:Nat} {xs:List Value} (h:SvX w X v n xs) (hn:0 < n):∃ e,Sl w X e v n xs:=by
 rcases h.2 with ⟨h0,_⟩ | h
 ·omega
 ·exact h
theorem SvX.shape {w:World} {X:Nat->Prop} {v:Value} {n:Nat} {xs:List Value} (h:SvX w X v n xs) (hn:0 < n):∃ blk o c,v=.slice (some ⟨blk,o,none⟩) n c/\n<=c/\c<=maxLen/\¬ X blk:=by
 obtain ⟨e,h⟩:=h.get hn
 exact h.shape hn
theorem SvX.cellN {w:World} {X:Nat->Prop} {b o n c:Nat} {xs:List Value} (h:SvX w X (.slice (some ⟨b,o,none⟩) n c) n xs) {i:Nat} (hi:i < xs.length):w.cell? ⟨b,o+i,none⟩=some xs[i]:=by
 rcases h.2 with ⟨_,h0⟩ | ⟨e,h⟩
 ·subst h0;cases hi
 ·exact h.cellN hi
theorem SvX.keep {S X:Nat->Prop} {w w':World} {v:Value} {n:Nat} {xs:List Value} (h:SvX w X v n xs) (hm:Mod S w w') (hs:∀ (k:Nat) (_:Array Value) (_:Nat × Nat),S k->¬ X k->False):SvX w' X v n xs :=
 ⟨h.1,h.2.imp id fun ⟨e,h⟩=>⟨e,h.keep hm fun k cur fz a b=>(hs k cur fz a b).elim⟩⟩
theorem SvX.kn {X:Nat → Prop} {w w':World} {v:Value} {n:Nat} {xs:List Value} (h:SvX w X v n xs) (hm:Mod No w w'):SvX w' X v n xs:=h.keep hm (fun _ _ _ f=>f.elim)
theorem SvX.shrink {X Y:Nat->Prop} {w:World} {v:Value} {n:Nat} {xs:List Value} (h:SvX w X v n xs) (hy:∀ k,k < w.heap.size->Y k->X k):SvX w Y v n xs :=
 ⟨h.1,h.2.imp id fun ⟨e,h⟩=>⟨e,h.shrink hy⟩⟩
theorem SvX.avoid {X:Nat->Prop} {w:World} {v:Value} {n:Nat} {xs:List Value} (h:SvX w X v n xs):SvX w (fun q=>X q\/w.heap.size<=q) v n xs :=
 ⟨h.1,h.2.imp id fun ⟨e,h⟩=>⟨e,h.avoid⟩⟩
theorem SvX.lenle {w:World} {X:Nat->Prop} {v:Value} {n:Nat} {xs:List Value} (h:SvX w X v n xs):n<=9223372036854775807:=by
 rcases Nat.eq_zero_or_pos n with h0 | h0
 ·omega
 ·obtain ⟨_,_,c,_,h1,h2,_⟩:=h.shape h0
  unfold maxLen at h2
  omega
theorem SvX.at {α:Type} {f:α->List Value} {wd:Nat} {X:Nat->Prop} {w:World} {b o n c:Nat} {xs:List α} (hf:∀ x,(f x).length=wd) (h:SvX w X (.slice (some ⟨b,o,none⟩) n c) n (xs.flatMap f)) {i:Nat} (hi:i < xs.length) (hn:xs.length=n):w.rangeAt b (o+i*wd) (f xs[i]):=by
 subst hn
 obtain ⟨e,h⟩:=h.get (by omega)
 exact Sl.at hf h hi
def u16s (l:List Nat):List Value:=l.map fun t:Nat=>Value.int .u16 (t:Int)
theorem nfold_good (name:List UInt8) (l:List Nat):Rises Nd.name (l.foldl (nstep name) [])/\(l.foldl (nstep name) []).length<=l.length:=by
 obtain ⟨h1,-,h3⟩:=ndsK_good name l [] List.Pairwise.nil (fun _ h=>by cases h)
 exact ⟨h1,by rw [List.length_nil,Nat.zero_add] at h3;exact h3⟩
theorem nfold_take {name:List UInt8} {l:List Nat} {k:Nat} (h:k < l.length):(l.take (k+1)).foldl (nstep name) []=nstep name ((l.take k).foldl (nstep name) []) l[k]:=by
 rw [List.take_succ_eq_append_getElem h,List.foldl_append]
 rfl
def LpN (z1 z2 z3 z4 z5 z6 z12 z215 z216 z217 z218:Value) (x:RwX) (nds:List Nat) (i ib io inn icc rb:Nat) (wb:World) (m:Nat) (a:Act) (w:World):Prop :=
 ∃ (k:Nat) (nv':Value),k+m=nds.length/\w.heap[rb]? = some (.cells (RwX.cells ⟨{ x.r with needs:=(nds.take k).foldl (nstep x.r.name) [] },x.pv,nv'⟩).toArray 46 (0,0))/\NdsAt w nv' ((nds.take k).foldl (nstep x.r.name) [])/\Mod (fun q=>q=rb) wb w/\Fr 219 [(0,.slice (some ⟨ib,io,none⟩) inn icc),(7,.int .i64 (i:Int)),(13,.pointer (some ⟨rb,0,none⟩)),(14,.int .i64 (k:Int)),(1,z1),(2,z2),(3,z3),(4,z4),(5,z5),(6,z6),(12,z12),(215,z215),(216,z216),(217,z217),(218,z218)] a
set_option maxRecDepth 100000 in
set_option maxHeartbeats 16000000 in
theorem needs3_part (z1 z2 z3 z4 z5 z6 z12 z215 z216 z217 z218:Value) (x:RwX) (nds:List Nat) (i ib io inn icc rb:Nat) (nvv:Value) (f:Act) (w:World) (hS:x.r.sum.length=32) (hrb:w.heap[rb]? = some (.cells (RwX.cells x).toArray 46 (0,0))) (hnv:x.nv=.slice none 0 0) (hx0:x.r.needs=[])
  (hi:i < inn) (hc1:w.cell? ⟨ib,io+i*5+2,none⟩=some nvv) (hsl:SvX w (fun q=>q=rb) nvv nds.length (u16s nds)) (ht:∀ t ∈ nds,t < 65536) (hnl:nds.length<=1000) (hir:ib ≠ rb)
  (hF:Fr 219 [(0,.slice (some ⟨ib,io,none⟩) inn icc),(7,.int .i64 (i:Int)),(13,.pointer (some ⟨rb,0,none⟩)),(14,.int .i64 ((0:Nat):Int)),(1,z1),(2,z2),(3,z3),(4,z4),(5,z5),(6,z6),(12,z12),(215,z215),(216,z216),(217,z217),(218,z218)] f) :
  Code.wp prog blkMd3 (Exit.then (fun a' w'=>∃ nv',Fr 219 [(0,.slice (some ⟨ib,io,none⟩) inn icc),(7,.int .i64 (i:Int)),(13,.pointer (some ⟨rb,0,none⟩)),(1,z1),(2,z2),(3,z3),(4,z4),(5,z5),(6,z6),(12,z12),(215,z215),(216,z216),(217,z217),(218,z218)] a'/\w'.heap[rb]? = some (.cells (RwX.cells ⟨{ x.r with needs:=ndsK x.r.name nds },x.pv,nv'⟩).toArray 46 (0,0))/\NdsAt w' nv' (ndsK x.r.name nds)/\Mod (fun q=>q=rb) w w') Nope) f w:=by
 refine wp_part fun J K' hJ hK=>?_
 have H0:=zh (show LpN z1 z2 z3 z4 z5 z6 z12 z215 z216 z217 z218 x nds i ib io inn icc rb w nds.length f w from ⟨0,x.nv,by omega,by
  have he:(⟨{ x.r with needs:=[] },x.pv,x.nv⟩:RwX)=x:=by
   obtain ⟨⟨a,b,c,d,e⟩,pv,nv⟩:=x
   obtain rfl:e=[]:=hx0
   rfl
  rw [List.take_zero]
  show w.heap[rb]? = some (.cells (RwX.cells ⟨{ x.r with needs:=[] },x.pv,x.nv⟩).toArray 46 (0,0))
  rw [he];exact hrb,by rw [hnv];exact ⟨[],rfl,(fun z hz=>by cases hz),.inl ⟨rfl,rfl,rfl⟩⟩,Mod.refl _ w,hF⟩)
 have HJ:=zh hJ
 have HC1:=zh hc1
 have HSL:=zh hsl
 have HT:=zh ht
 obtain ⟨na,nc,hnvv⟩:=hsl.len
 subst hnvv
 have HS:=zh hS
 obtain ⟨wb,hwb⟩:∃ wb,wb=w:=⟨_,rfl⟩
 rw [<- hwb] at HJ H0 HC1 HSL
 clear hF hJ hc1 hsl ht hnv hx0 hrb hS
 conv=>arg 2;whnf
 go_step
 refine wp_loop_ghost_k (LpN z1 z2 z3 z4 z5 z6 z12 z215 z216 z217 z218 x nds i ib io inn icc rb wb) nds.length (by rw [hwb] at H0 ⊢;exact H0.out) ?_
 clear H0 hwb f w
 intro m f w hI J2 K2 hJ2 hK2
 have HJ2:=zh hJ2
 obtain ⟨k,nv',hkm,hrb,hnd,hmod,hF⟩:=hI
 have HRB:=zh hrb
 have HND:=zh hnd
 have HM:=zh hmod
 have hc1:=hmod.cell HC1.out hir
 clear hJ2 hrb hnd hmod
 obtain ⟨ts,ds⟩:=f
 obtain ⟨hsz,hds,hs0,hs7,hs13,hs14,hs1,hs2,hs3,hs4,hs5,hs6,hs12,hs215,hs216,hs217,hs218,-⟩:=hF
 dsimp only at hsz hds hs0 hs7 hs13 hs14 hs1 hs2 hs3 hs4 hs5 hs6 hs12 hs215 hs216 hs217 hs218
 subst hds
 obtain ⟨c,rfl,hc⟩:=lit219 ts hsz
 rw [hc] at hs0
 rw [hc] at hs7
 rw [hc] at hs13
 rw [hc] at hs14
 rw [hc] at hs1
 rw [hc] at hs2
 rw [hc] at hs3
 rw [hc] at hs4
 rw [hc] at hs5
 rw [hc] at hs6
 rw [hc] at hs12
 rw [hc] at hs215
 rw [hc] at hs216
 rw [hc] at hs217
 rw [hc] at hs218
 simp only [hs0,hs7,hs13,hs14,hs1,hs2,hs3,hs4,hs5,hs6,hs12,hs215,hs216,hs217,hs218]
 clear hc hsz hs0 hs7 hs13 hs14 hs1 hs2 hs3 hs4 hs5 hs6 hs12 hs215 hs216 hs217 hs218
 have hk0:(0:Int)<=(k:Int):=Int.natCast_nonneg _
 have hii:(i:Int) < (inn:Int):=by omega
 have hi0:(0:Int)<=(i:Int):=Int.natCast_nonneg _
 obtain ⟨nl,hnn⟩:∃ nl,nl=nds.length:=⟨_,rfl⟩
 have HNN:=zh hnn
 rw [<- hnn] at hc1 hkm hnl
 clear hnn
 by_cases hlt:k < nl
 ·have hk1:(k:Int) < (nl:Int):=by omega
  have hkl:k < nds.length:=by rw [<- HNN.out];exact hlt
  obtain ⟨nb,no,ncc,hvs,_,_,hnrb⟩:=HSL.out.shape (by rw [<- HNN.out];omega)
  have hna:na=some ⟨nb,no,none⟩:=by cases hvs;rfl
  subst hna
  have hc2:=HM.out.cell (HSL.out.cellN (i:=k) (by unfold u16s;rw [List.length_map];exact hkl)) hnrb
  rw [show (u16s nds)[k]'(by unfold u16s;rw [List.length_map];exact hkl)=.int .u16 ((nds[k]:Nat):Int) from List.getElem_map ..] at hc2
  have HTK:=zh (nfold_take (name:=x.r.name) hkl)
  have htk:=HT.out _ (List.getElem_mem hkl)
  obtain ⟨hg1,hg2⟩:=nfold_good x.r.name (nds.take k)
  have HP:=zh (fun a=>need4_part z1 z2 z3 z4 z5 z6 z12 z215 z216 z217 z218 nds[k] i k ⟨{ x.r with needs:=(nds.take k).foldl (nstep x.r.name) [] },x.pv,nv'⟩ ib io inn icc rb nb no nl nc a w HS.out HRB.out HND.out hg1 (by rw [List.length_take] at hg2;have h1:min k nds.length<=k:=Nat.min_le_left _ _;show ((nds.take k).foldl (nstep x.r.name) []).length<=1000;omega) hi hlt hc1 hc2 htk)
  clear hvs hc2 htk hg1 hg2
  go_upto_block 4 with fail
  rename_i K5 hK5
  refine wp_only (HP.out _ ⟨rfl,rfl,rfl,rfl,rfl,rfl,rfl,rfl,rfl,rfl,rfl,rfl,rfl,rfl,rfl,rfl,rfl,trivial⟩) ?_
  rintro a2 w2 ⟨nv2,hF,hrb2,hnd2,-,hm2⟩
  have HM2:=zh (HM.out.trans hm2)
  have HRB2:=zh hrb2
  have HND2:=zh hnd2
  clear hrb2 hnd2 hm2 HP HRB HND hc1
  refine hK5 _ _ ?_
  obtain ⟨ts,ds⟩:=a2
  obtain ⟨hsz,hds,hs0,hs7,hs13,hs14,hs1,hs2,hs3,hs4,hs5,hs6,hs12,hs215,hs216,hs217,hs218,-⟩:=hF
  dsimp only at hsz hds hs0 hs7 hs13 hs14 hs1 hs2 hs3 hs4 hs5 hs6 hs12 hs215 hs216 hs217 hs218
  subst hds
  obtain ⟨c,rfl,hc⟩:=lit219 ts hsz
  rw [hc] at hs0
  rw [hc] at hs7
  rw [hc] at hs13
  rw [hc] at hs14
  rw [hc] at hs1
  rw [hc] at hs2
  rw [hc] at hs3
  rw [hc] at hs4
  rw [hc] at hs5
  rw [hc] at hs6
  rw [hc] at hs12
  rw [hc] at hs215
  rw [hc] at hs216
  rw [hc] at hs217
  rw [hc] at hs218
  simp only [hs0,hs7,hs13,hs14,hs1,hs2,hs3,hs4,hs5,hs6,hs12,hs215,hs216,hs217,hs218]
  clear hc hsz hs0 hs7 hs13 hs14 hs1 hs2 hs3 hs4 hs5 hs6 hs12 hs215 hs216 hs217 hs218
  clear hK5 K5
  go_wp2_with fail
  exact Handed.intro (m - 1) (by omega) (HJ2.out _ _ _ ⟨k+1,nv2,by rw [<- HNN.out];omega,by rw [HTK.out];exact HRB2.out,by rw [HTK.out];exact HND2.out,HM2.out,⟨rfl,rfl,rfl,rfl,rfl,(by go_num),rfl,rfl,rfl,rfl,rfl,rfl,rfl,rfl,rfl,rfl,rfl,trivial⟩⟩)
 ·obtain rfl:k=nl:=by omega
  have hk1:¬ ((k:Int) < (k:Int)):=by omega
  have HF:=zh (show (nds.take k).foldl (nstep x.r.name) []=ndsK x.r.name nds by rw [HNN.out,List.take_length,ndsK_fold])
  go_wp2_with fail
  exact Met.intro (HJ.out _ _ ⟨nv',⟨rfl,rfl,rfl,rfl,rfl,rfl,rfl,rfl,rfl,rfl,rfl,rfl,rfl,rfl,rfl,rfl,trivial⟩,by rw [<- HF.out];exact HRB.out,by rw [<- HF.out];exact HND.out,HM.out⟩)
set_option maxRecDepth 100000 in
theorem lit183 (t:Array Value) (h:t.size=183):∃ c:Nat->Value,t=#[c 0,c 1,c 2,c 3,c 4,c 5,c 6,c 7,c 8,c 9,c 10,c 11,c 12,c 13,c 14,c 15,c 16,c 17,c 18,c 19,c 20,c 21,c 22,c 23,c 24,c 25,c 26,c 27,c 28,c 29,c 30,c 31,c 32,c 33,c 34,c 35,c 36,c 37,c 38,c 39,c 40,c 41,c 42,c 43,c 44,c 45,c 46,c 47,c 48,c 49,c 50,c 51,c 52,c 53,c 54,c 55,c 56,c 57,c 58,c 59,c 60,c 61,c 62,c 63,c 64,c 65,c 66,c 67,c 68,c 69,c 70,c 71,c 72,c 73,c 74,c 75,c 76,c 77,c 78,c 79,c 80,c 81,c 82,c 83,c 84,c 85,c 86,c 87,c 88,c 89,c 90,c 91,c 92,c 93,c 94,c 95,c 96,c 97,c 98,c 99,c 100,c 101,c 102,c 103,c 104,c 105,c 106,c 107,c 108,c 109,c 110,c 111,c 112,c 113,c 114,c 115,c 116,c 117,c 118,c 119,c 120,c 121,c 122,c 123,c 124,c 125,c 126,c 127,c 128,c 129,c 130,c 131,c 132,c 133,c 134,c 135,c 136,c 137,c 138,c 139,c 140,c 141,c 142,c 143,c 144,c 145,c 146,c 147,c 148,c 149,c 150,c 151,c 152,c 153,c 154,c 155,c 156,c 157,c 158,c 159,c 160,c 161,c 162,c 163,c 164,c 165,c 166,c 167,c 168,c 169,c 170,c 171,c 172,c 173,c 174,c 175,c 176,c 177,c 178,c 179,c 180,c 181,c 182]/\∀ i,t.getD i undef=c i:=by
 refine ⟨fun i=>t.getD i undef,?_,fun _=>rfl⟩
 have h1:=arr_lits t
 rw [h] at h1
 exact h1.trans (by kernel_rfl)
noncomputable def bodyI:Code:=Tryz.f12.body.getD .skip
noncomputable def wayI18:Code:=(wayAt 18 bodyI).getD .skip
theorem rowcs_one (nm:ByteArray) (a b c:Int) (pa:Option Addr) (pn pc:Nat) (S:List UInt8) (n:Int):∀ u ∈ rowCs nm a b c (.slice pa pn pc) S n,u.oneCell'=true:=fun u hu=>by
 unfold rowCs bv at hu
 simp only [List.mem_cons,List.mem_append,List.mem_map,List.not_mem_nil,or_false] at hu
 rcases hu with rfl | (rfl | rfl | rfl | rfl) | ⟨_,_,rfl⟩ | rfl | rfl <;> rfl
set_option maxRecDepth 100000 in
theorem rw_new {w:World} {cs:List Value} {o:Oper} {ρ:Operand->Value} (hc:cs.length=39) (x:Operand) (ho:o.op=.buildSlice 25 1 #[(0,x)]) (hx:ρ x=.agg cs.toArray) :
  (execOp ρ o).run prog w=.ok (.value (.slice (some ⟨w.heap.size,0,none⟩) 1 1)) (w.alloc (.cells cs.toArray 46)):=by
 obtain ⟨i0,hi,hz0,hz1,hz2⟩:=info_parts info_row
 have h:=run_buildSlice (P:=prog) w 25 46 1 #[(0,.agg cs.toArray)] cs.toArray i0 _ underlying25 hi hz0 (by rw [hz1];omega) (by rw [hz1];omega) (by
  rw [hz1]
  have h2:=Great.fill_whole (s:=39) (by decide) [Value.agg cs.toArray] ((Array.range (1*39)).map ((Value.agg (rowCs ⟨#[]⟩ 0 0 0 (.slice none 0 0) (List.replicate 32 0) 0).toArray).cells[· % (Value.agg (rowCs ⟨#[]⟩ 0 0 0 (.slice none 0 0) (List.replicate 32 0) 0).toArray).cells.size]!)) (fun v hv=>by
   simp at hv
   subst hv
   show cs.toArray.size=39
   simp [hc]) (by simp)
  have h3:[Value.agg cs.toArray].flatMap (fun v=>v.cells.toList)=cs:=by
   show cs.toArray.toList++[]=cs
   simp
  rw [h3] at h2
  exact h2)
 unfold execOp
 simp only [ho,List.map_toArray,List.map_cons,List.map_nil,hx,Sem.run_bind]
 erw [h]
 rfl
set_option maxRecDepth 100000 in
set_option maxHeartbeats 8000000 in
theorem pack2_part (z0 z1 z21 z22 z23 z24 z25 z182:Value) (B:Nat) (xs:List RwX) (v lv:Value) (k:Nat) (nm:List UInt8) (va vi vp:Int) (pr:List (List UInt8)) (pa:Option Addr) (pn pc:Nat) (S:List UInt8) (n:Int) (sb so sc vb kb:Nat) (a:Act) (w:World) (hS:S.length=32) (hxs:xs.length < 200) (hB:B<=w.heap.size) (hr:RowsR B w v xs)
  (hsb:∃ cur fz,w.heap[sb]? = some (.cells cur 9 fz)/\cur[so]? = some (strV nm)) (hvb:w.heap[vb]? = some (.cells #[.int .i64 va,.int .i64 vi,.int .i64 vp,.slice pa pn pc] 40 (0,0))) (hkb:w.heap[kb]? = some (.cells (bv S).toArray 43 (0,0)))
  (hsm:Small ⟨va,vi,vp,pr⟩) (hpn:pn=pr.length) (hpv:Sl w No 9 (.slice pa pn pc) pn (strs pr))
  (hF:Fr 183 [(5,v),(6,lv),(7,.int .i64 (k:Int)),(9,.slice (some ⟨sb,so,none⟩) 4 sc),(10,.pointer (some ⟨vb,0,none⟩)),(12,.pointer (some ⟨kb,0,none⟩)),(14,.int .i64 n),(0,z0),(1,z1),(21,z21),(22,z22),(23,z23),(24,z24),(25,z25),(182,z182)] a) :
  Code.wp prog wayI18 (Exit.then (fun a' w'=>∃ v',Fr 183 [(5,v'),(6,lv),(7,.int .i64 (k:Int)),(8,.bool true),(0,z0),(1,z1),(21,z21),(22,z22),(23,z23),(24,z24),(25,z25),(182,z182)] a'/\RowsR B w' v' (xs++[⟨⟨nm,⟨va,vi,vp,pr⟩,S,n,[]⟩,.slice pa pn pc,.slice none 0 0⟩])/\Mod (fun q=>B<=q) w w') Nope) a w:=by
 refine wp_part fun J K' hJ hK=>?_
 obtain ⟨i0,hi0,hz0,hz1,hz2⟩:=info_parts info_row
 have HJ:=zh hJ
 clear hJ
 obtain ⟨ts,ds⟩:=a
 obtain ⟨hsz,hds,hs5,hs6,hs7,hs9,hs10,hs12,hs14,hs0,hs1,hs21,hs22,hs23,hs24,hs25,hs182,-⟩:=hF
 dsimp only at hsz hds hs5 hs6 hs7 hs9 hs10 hs12 hs14 hs0 hs1 hs21 hs22 hs23 hs24 hs25 hs182
 subst hds
 obtain ⟨c,rfl,hc⟩:=lit183 ts hsz
 rw [hc] at hs5
 rw [hc] at hs6
 rw [hc] at hs7
 rw [hc] at hs9
 rw [hc] at hs10
 rw [hc] at hs12
 rw [hc] at hs14
 rw [hc] at hs0
 rw [hc] at hs1
 rw [hc] at hs21
 rw [hc] at hs22
 rw [hc] at hs23
 rw [hc] at hs24
 rw [hc] at hs25
 rw [hc] at hs182
 simp only [hs5,hs6,hs7,hs9,hs10,hs12,hs14,hs0,hs1,hs21,hs22,hs23,hs24,hs25,hs182]
 clear hc hsz hs5 hs6 hs7 hs9 hs10 hs12 hs14 hs0 hs1 hs21 hs22 hs23 hs24 hs25 hs182
 have HR:=zh hr
 have HPN:=zh hpn
 have HPV:=zh hpv
 have HSMALL:=zh hsm
 obtain ⟨cur,fz,hsh,hsc⟩:=hsb
 have HSH:=zh hsh
 have HSC:=zh hsc
 have HVB:=zh hvb
 have HKB:=zh hkb
 have HB:=zh hB
 have HCE:=zh (show rowCs ⟨nm.toArray⟩ va vi vp (.slice pa pn pc) S n=RwX.cells ⟨⟨nm,⟨va,vi,vp,pr⟩,S,n,[]⟩,.slice pa pn pc,.slice none 0 0⟩ from rfl)
 have HC:=zh (show (rowCs ⟨nm.toArray⟩ va vi vp (.slice pa pn pc) S n).length=39 by have:=rowCs_length hS ⟨nm.toArray⟩ va vi vp (.slice pa pn pc) n;simpa using this)
 unfold strV at HSC
 generalize hA:(⟨nm.toArray⟩:ByteArray)=A at *
 clear hr hpn hpv hsm hsh hsc hvb hkb hB hA
 conv=>arg 2;whnf
 go_upto_region 18 with fail
 obtain ⟨wD,hwD⟩:∃ y,y=w.drew:=⟨_,rfl⟩
 have hmD:Mod No w wD:=by rw [hwD];exact (Mod.refl No w).drew
 have HMD:=zh hmD
 have HRD:=zh (HR.out.no hmD)
 have HBD:=zh (Nat.le_trans HB.out hmD.size)
 have HSM:=zh (show ∀ w',Mod (fun q=>v.ownBlock=some q) wD w'->w'.cell? ⟨sb,so,none⟩=some (.string A)/\w'.heap[vb]? = some (.cells #[.int .i64 va,.int .i64 vi,.int .i64 vp,.slice pa pn pc] 40 (0,0))/\w'.heap[kb]? = some (.cells (bv S).toArray 43 (0,0)) from fun w' h=>by
  have hap:=own_apart HRD.out.own (ts:=[9,40,43]) (by decide)
  have h1:=hmD.keep HSH.out (fun f=>f)
  have h2:=hmD.keep HVB.out (fun f=>f)
  have h3:=hmD.keep HKB.out (fun f=>f)
  exact ⟨cell_ofA (h.keep h1 (fun e=>hap _ _ _ _ e h1 (by simp))) HSC.out,h.keep h2 (fun e=>hap _ _ _ _ e h2 (by simp)),h.keep h3 (fun e=>hap _ _ _ _ e h3 (by simp))⟩)
 have HWD:=zh hwD
 have hS0:=Mod.refl (fun q=>v.ownBlock=some q) wD
 have hn2:xs.length<=200:=by omega
 clear hwD hmD HSH HSC HVB HKB
 refine wp_region_T (fun w'=>Mod (fun q=>v.ownBlock=some q) wD w') 99 (by kernel_rfl) ?_
 rw [<- HWD.out]
 refine yT 0 (some 113) ?_ hS0 ?_ ?_
 rotate_left
 ·(intro w' hSw;go_simp;try with_reducible rfl)
 simp only [Act.put,yB,yC,yD]
 refine yT 1 (some 114) ?_ hS0 ?_ ?_
 rotate_left
 ·(intro w' hSw;go_simp;try with_reducible rfl)
 simp only [Act.put,yB,yC,yD]
 refine yT 2 (some 115) ?_ hS0 ?_ ?_
 rotate_left
 ·(intro w' hSw;go_simp;try with_reducible rfl)
 simp only [Act.put,yB,yC,yD]
 refine yT 3 (some 116) (.string A) hS0 ?_ ?_
 ·(intro w' hSw;have q0:=(HSM.out w' hSw).1;go_simp;try with_reducible rfl)
 simp only [Act.put,yB,yC,yD]
 refine yT 4 (some 117) (.agg #[.int .i64 va,.int .i64 vi,.int .i64 vp,.slice pa pn pc]) hS0 ?_ ?_
 ·(intro w' hSw;apply yloadv (load_ver (HSM.out w' hSw).2.1) (.tmp 10) <;> rfl)
 simp only [Act.put,yB,yC,yD]
 refine yT 5 (some 118) (keyV S) hS0 ?_ ?_
 ·(intro w' hSw;apply yloadv (load_key hS (HSM.out w' hSw).2.2) (.tmp 12) <;> rfl)
 simp only [Act.put,yB,yC,yD]
 refine yT 6 (some 119) ?_ hS0 ?_ ?_
 rotate_left
 ·(intro w' hSw;go_simp;try with_reducible rfl)
 simp only [Act.put,yB,yC,yD]
 refine wpAnyT_takeV 7 (some 120) (.agg (rowCs A va vi vp (.slice pa pn pc) S n).toArray) rfl rfl (by kernel_rfl) (fun _ _ _ h=>h) hS0 (Or.inl ⟨by rfl,?_⟩) ?_
 ·(intro w' hSw;exact ybuild _ (by simp only [Array.toList_map,List.map_cons,List.map_nil];exact row_built A va vi vp pa pn pc hS n) rfl)
 simp only [Act.put,yB,yC,yD]
 refine wpAnyT_one 8 rfl (by kernel_rfl) rfl ?_
 intro K hK
 obtain ⟨ga,hga⟩:∃ ga,ga=wD.heap.size:=⟨_,rfl⟩
 obtain ⟨wE,hwE⟩:∃ y,y=wD.alloc (.cells (rowCs A va vi vp (.slice pa pn pc) S n).toArray 46):=⟨_,rfl⟩
 have HGA:=zh (show wE.heap[ga]? = some (.cells (rowCs A va vi vp (.slice pa pn pc) S n).toArray 46 (0,0)) by rw [hwE,hga];exact heap_alloc_new _ _)
 have hmE:Mod No wD wE:=by rw [hwE];exact (Mod.refl No _).alloc _
 have HME:=zh hmE
 refine wp_value (v:=.slice (some ⟨ga,0,none⟩) 1 1) (w':=wE) (by rw [hga,hwE];apply rw_new HC.out (.tmp 120) <;> rfl) ?_
 clear hwE hga
 show K (Act.put _ (some 121) _) _
 have hS1:=(show Mod (fun q=>v.ownBlock=some q) wD wE from hmE.weaken (fun _ _ f=>f.elim))
 refine hK.out _ _ (fun _=>hS1) ?_
 clear hK K
 refine wpAnyT_one 9 rfl (by kernel_rfl) rfl ?_
 intro K hK
 simp only [Act.put,yB,yC,yD]
 refine wp_app_sl wE (.tmp 113) (.tmp 121) 25 (by rfl) B 46 i0 _ 39 128 underlying25 hi0 hz0 hz1 hz2 rfl (by decide) v xs.length (xs.flatMap RwX.cells) (by rfl) (own_keepM HRD.out.own HME.out (fun _ _ f=>f)) No 46 (.slice (some ⟨ga,0,none⟩) 1 1) 1 (rowCs A va vi vp (.slice pa pn pc) S n) (by rfl) (.inr ⟨ga,0,1,_,(0,0),rfl,Nat.le_refl _,by unfold maxLen;omega,fun f=>f,HGA.out,by simp,fun i hi=>by simp⟩) (by rw [HC.out]) (rowcs_one _ _ _ _ _ _ _ _ _) (by unfold maxLen;omega) (by omega) (Nat.le_trans HBD.out HME.out.size) ?_
 intro v7 w7 hown7 hg7 _
 have HO7:=zh hown7
 have HG7:=zh hg7
 have HM7:=zh (hS1.trans (Mod.of_grown (S:=fun q=>v.ownBlock=some q) hg7 (fun q e _=>e)))
 clear hown7 hg7
 show K (Act.put _ (some 122) _) _
 have hS2:=HM7.out
 refine hK.out _ _ (fun _=>hS2) ?_
 clear hK K
 refine yT 10 (some 5) ?_ hS2 ?_ ?_
 rotate_left
 ·(intro w' hSw;go_simp;try with_reducible rfl)
 simp only [Act.put]
 refine wpAnyT_done (by kernel_rfl) ?_ _
 clear hS0 hS1 hS2
 go_wp2_with fail
 have HX7:=zh (RowsR.push (x:=⟨⟨nm,⟨va,vi,vp,pr⟩,S,n,[]⟩,.slice pa pn pc,.slice none 0 0⟩) (HRD.out.no HME.out) HG7.out (by have h9:=HO7.out;rw [HCE.out] at h9;exact h9) ⟨hS,HSMALL.out,by rw [<- HPN.out];exact HPV.out.kn (HMD.out.trans HME.out),_,_,_,rfl⟩ rfl rfl)
 exact Met.intro (HJ.out _ _ ⟨v7,⟨rfl,rfl,rfl,rfl,rfl,rfl,rfl,rfl,rfl,rfl,rfl,rfl,rfl,rfl,trivial⟩,HX7.out,(HMD.out.weaken (fun _ _ f=>f.elim)).trans (HM7.out.weaken (fun q _ e=>own_base HRD.out.own e))⟩)
noncomputable def wayI11:Code:=(wayAt 11 bodyI).getD .skip
theorem packL_len {st:List Rw} {s:List UInt8} (h:(splitC 32 s).length ≠ 4):packL st s=none:=by
 unfold packL
 match hs:splitC 32 s,h with
 | [],_=>rfl
 | [_],_=>rfl
 | [_,_],_=>rfl
 | [_,_,_],_=>rfl
 | [_,_,_,_],h=>exact absurd rfl h
 | _ :: _ :: _ :: _ :: _ :: _,_=>rfl
theorem packL_four {st:List Rw} {s a b c d:List UInt8} (h:splitC 32 s=[a,b,c,d]):packL st s=(rowL a b c d).bind fun r=>if (atL st r.name r.v).isSome\/200<=st.length then none else some (st++[r]):=by
 unfold packL
 rw [h]
theorem refver_u (l:List UInt8) (hl:l.length<=999999) (w:World) :
  Calls prog 24 #[strV l] w fun e w'=>(∃ (v:Ver) (pv:Value) (c:Int),e=.returned (.tuple #[verV v pv,.int .i64 c])/\Small v/\Sl w' No 9 pv v.pre.length (strs v.pre)/\((c=0/\verOf l=some v)\/(c=60/\verOf l=none)))/\Mod No w w' :=
 (versionof_any l (by omega) w).mono fun e w' ⟨h,hm⟩=>⟨by
  rcases h with ⟨h1,h2⟩ | ⟨v,pv,h1,h2,h3⟩
  ·exact ⟨_,_,60,h2,small_zero,.inl ⟨rfl,rfl,rfl⟩,.inr ⟨rfl,h1⟩⟩
  ·exact ⟨v,pv,0,h2,verOf_small hl h1,h3,.inl ⟨rfl,h1⟩⟩,hm⟩
theorem refparse_u (l:List UInt8) (w:World) :
  Calls prog 46 #[strV l] w fun e w'=>(∃ (S:List UInt8) (ok:Bool),e=.returned (.tuple #[keyV S,.bool ok])/\S.length=32/\(if ok then sumL l=some S else sumL l=none))/\Mod No w w':=by
 cases hs:sumL l with
 | none=>exact (refparse_bad l hs w).mono fun e w' ⟨h,hm⟩=>⟨⟨_,false,h,by simp,rfl⟩,hm⟩
 | some S =>
  obtain ⟨h1,h2⟩:=sum_of hs
  subst h2
  exact (refparse_any S h1 w).mono fun e w' ⟨h,hm⟩=>⟨⟨S,true,h,h1,rfl⟩,hm⟩
theorem zero_row_ok (w:World):RwOk w ⟨zeroRw,.slice none 0 0,.slice none 0 0⟩:=⟨by simp [zeroRw],small_zero,.inl ⟨rfl,rfl,rfl⟩,_,_,_,rfl⟩
theorem findr_u {w:World} {xs:List RwX} {name:List UInt8} {v:Ver} {e:Ending} (hok:∀ x ∈ xs,RwOk w x) (th:Bool) (hth:th=(atL (xs.map RwX.r) name v).isSome) (h:FindR xs name v e):∃ ds:Array Value,e=.returned (.tuple #[.agg ds,.bool th])/\ds.size=39/\ds.all (·.oneCell')=true:=by
 subst hth
 unfold FindR at h
 cases ha:atL (xs.map RwX.r) name v with
 | none =>
  rw [ha] at h
  exact ⟨_,h,by rw [List.size_toArray];exact RwX.cells_length _ rfl,rows_one (zero_row_ok w)⟩
 | some k =>
  rw [ha] at h
  obtain ⟨x,h1,h2⟩:=h
  have hx:=hok x (List.mem_of_getElem? h1)
  exact ⟨_,h2,by rw [List.size_toArray];exact RwX.cells_length x hx.sum,rows_one hx⟩
def PackR (B:Nat) (st:List Rw) (s:List UInt8) (w':World) (v':Value) (ok:Bool):Prop:=if ok then ∃ xs',packL st s=some (xs'.map RwX.r)/\RowsR B w' v' xs'/\xs'.length<=200 else packL st s=none
set_option maxRecDepth 100000 in
set_option maxHeartbeats 16000000 in
theorem pack1_part (z0 z1 z21 z22 z23 z24 z25 z182:Value) (B:Nat) (xs:List RwX) (v:Value) (k lb lo ln lc:Nat) (L:List UInt8) (a:Act) (w:World) (hxs:xs.length<=200) (hB:B<=w.heap.size) (hr:RowsR B w v xs)
  (hL:L.length<=100000) (h5:5<=L.length) (hk:k < ln) (hcell:w.cell? ⟨lb,lo+k,none⟩=some (strV L))
  (hF:Fr 183 [(5,v),(6,.slice (some ⟨lb,lo,none⟩) ln lc),(7,.int .i64 (k:Int)),(8,.bool false),(0,z0),(1,z1),(21,z21),(22,z22),(23,z23),(24,z24),(25,z25),(182,z182)] a) :
  Code.wp prog wayI11 (Exit.then (fun a' w'=>∃ (v':Value) (ok:Bool),Fr 183 [(5,v'),(6,.slice (some ⟨lb,lo,none⟩) ln lc),(7,.int .i64 (k:Int)),(8,.bool ok),(0,z0),(1,z1),(21,z21),(22,z22),(23,z23),(24,z24),(25,z25),(182,z182)] a'/\PackR B (xs.map RwX.r) (L.drop 5) w' v' ok/\Mod (fun q=>B<=q) w w') Nope) a w:=by
 refine wp_part fun J K' hJ hK=>?_
 have HJ:=zh hJ
 clear hJ
 obtain ⟨ts,ds⟩:=a
 obtain ⟨hsz,hds,hs5,hs6,hs7,hs8,hs0,hs1,hs21,hs22,hs23,hs24,hs25,hs182,-⟩:=hF
 dsimp only at hsz hds hs5 hs6 hs7 hs8 hs0 hs1 hs21 hs22 hs23 hs24 hs25 hs182
 subst hds
 obtain ⟨c,rfl,hc⟩:=lit183 ts hsz
 rw [hc] at hs5
 rw [hc] at hs6
 rw [hc] at hs7
 rw [hc] at hs8
 rw [hc] at hs0
 rw [hc] at hs1
 rw [hc] at hs21
 rw [hc] at hs22
 rw [hc] at hs23
 rw [hc] at hs24
 rw [hc] at hs25
 rw [hc] at hs182
 simp only [hs5,hs6,hs7,hs8,hs0,hs1,hs21,hs22,hs23,hs24,hs25,hs182]
 clear hc hsz hs5 hs6 hs7 hs8 hs0 hs1 hs21 hs22 hs23 hs24 hs25 hs182
 have HR:=zh hr
 have HB:=zh hB
 have HSP:=zh (show ∀ w:World,Calls prog 44 #[strV (L.drop 5),.int .u8 32] w fun e w'=>∃ v,e=.returned v/\w'.ownsRow w.heap.size 9 1 v (splitC 32 (L.drop 5)).length (strs (splitC 32 (L.drop 5)))/\Mod No w w' from fun w=>refsplit_any 32 (L.drop 5) (by rw [List.length_drop];omega) w)
 have hext:=str_from L 5
 have HPL:=zh (show ∀ x ∈ splitC 32 (L.drop 5),x.length<=100000 from fun x hx=>Nat.le_trans (splitC_mem_le 32 _ x hx) (by rw [List.length_drop];omega))
 have HNO:=zh (fun h=>packL_len (st:=xs.map RwX.r) (s:=L.drop 5) h)
 have HFO:=zh (fun a b c d=>packL_four (st:=xs.map RwX.r) (s:=L.drop 5) (a:=a) (b:=b) (c:=c) (d:=d))
 have hZs:((⟨L.toArray⟩:ByteArray).size:Int)=(L.length:Int):=by rw [str_len3]
 have h5i:(5:Int)<=(L.length:Int):=by omega
 have hk1:(k:Int) < (ln:Int):=by omega
 have hk0:(0:Int)<=(k:Int):=Int.natCast_nonneg _
 have HOKX:=zh (show ∀ x ∈ xs,RwOk w x from fun x hx=>(hr.each x hx).at_.ok)
 obtain ⟨xl,hxl⟩:∃ m,m=xs.length:=⟨_,rfl⟩
 obtain ⟨ra,rc,hrv⟩:=hr.sl.len
 subst hrv
 unfold strV at *
 generalize (⟨L.toArray⟩:ByteArray)=ZL at *
 generalize (⟨(L.drop 5).toArray⟩:ByteArray)=ZD at *
 generalize splitC 32 (L.drop 5)=ps at *
 clear hr hB
 conv=>arg 2;whnf
 go_wp2_with fail
 with_reducible refine (HSP.out _).mono ?_
 rintro e w2 ⟨sv,rfl,hown,hm2⟩
 have HM2:=zh hm2
 clear HSP hcell hext hm2
 by_cases h4:ps.length=4
 ·obtain ⟨pA,pB,pC,pD,rfl⟩:∃ a b c d,ps=[a,b,c,d]:=by
   match ps,h4 with
   | [a,b,c,d],_=>exact ⟨a,b,c,d,rfl⟩
  have HL:=zh (HFO.out pA pB pC pD rfl)
  obtain ⟨sb,sc,rfl,-⟩:=own_shape hown (by simp)
  have hsl:=Sl.of_own (X:=No) hown (fun _ _ f=>f)
  have HSB:=zh (show ∃ cur fz,w2.heap[sb]? = some (.cells cur 9 fz)/\cur[0]? = some (strV pA) from by
   rcases hsl with ⟨h,_⟩ | ⟨blk,o,c',cur,fz,hv,h1,h2,h3,hh,hl,hrd⟩
   ·cases h
   ·cases hv
    exact ⟨cur,fz,hh,by have:=hrd 0 (by simp);simpa [strs] using this⟩)
  have HC0:=zh (show w2.cell? ⟨sb,0,none⟩=some (strV pA) from hsl.cellN (i:=0) (by simp))
  have HC1:=zh (show w2.cell? ⟨sb,1,none⟩=some (strV pB) from by have:=hsl.cellN (i:=1) (by simp);rw [Nat.zero_add] at this;exact this)
  have HC2:=zh (show w2.cell? ⟨sb,2,none⟩=some (strV pC) from by have:=hsl.cellN (i:=2) (by simp);rw [Nat.zero_add] at this;exact this)
  have HC3:=zh (show w2.cell? ⟨sb,3,none⟩=some (strV pD) from by have:=hsl.cellN (i:=3) (by simp);rw [Nat.zero_add] at this;exact this)
  have hlA:=HPL.out pA (by simp)
  have hlB:=HPL.out pB (by simp)
  have hlD:=HPL.out pD (by simp)
  have HNM:=zh (refname_any pA (by omega))
  have HVP:=zh (refver_u pB (by omega))
  have HKP:=zh (refparse_u pC)
  have HSZ:=zh (refsize_any pD (by omega))
  have HFN0:=zh (fun (W:World) (v:Ver) (pv:Value) (hv:Small v) (hm:Mod No w W)=>reffind_any xs (by omega) pA v pv (.slice ra xs.length rc) W (fun x hx=>(HOKX.out x hx).keep hm (Apart.no _ _)) hv)
  have HRS:=zh (fun W (hm:Mod No w W)=>Sl.keep (S:=No) HR.out.sl hm (fun _ _ _ f=>f.elim))
  clear HFO HNO HPL hsl hown
  obtain ⟨A,hA⟩:∃ A:ByteArray,A=⟨pA.toArray⟩:=⟨_,rfl⟩
  have HA:=zh hA
  unfold strV at *
  rw [<- hA] at HC0 HNM HFN0
  clear hA
  generalize (⟨pB.toArray⟩:ByteArray)=A2 at *
  generalize (⟨pC.toArray⟩:ByteArray)=A3 at *
  generalize (⟨pD.toArray⟩:ByteArray)=A4 at *
  have c0:=HC0.out
  go_wp2_with fail
  with_reducible refine (HNM.out _).mono ?_
  rintro e w9 ⟨rfl,h9⟩
  rw [h9]
  clear h9 w9 HNM
  cases hnb:nameB pA with
  | false =>
   have HN:=zh (show packL (xs.map RwX.r) (L.drop 5)=none by rw [HL.out];unfold rowL;rw [hnb];rfl)
   have HMF:=HM2
   clear hnb
   go_wp2_with fail
   exact Met.intro (HJ.out _ _ ⟨_,false,⟨rfl,rfl,rfl,rfl,rfl,rfl,rfl,rfl,rfl,rfl,rfl,rfl,rfl,rfl,trivial⟩,HN.out,HMF.out.weaken (fun _ _ f=>f.elim)⟩)
  | true =>
   by_cases hlt:xs.length < 200
   ·have hlti:(xs.length:Int) < 200:=by omega
    have HL2:=zh (show packL (xs.map RwX.r) (L.drop 5)=((verOf pB).bind fun v=>(sumL pC).bind fun k=>(sizeL pD).map fun n=>(⟨pA,v,k,n,[]⟩:Rw)).bind fun r=>if (atL (xs.map RwX.r) r.name r.v).isSome\/200<=(xs.map RwX.r).length then none else some (xs.map RwX.r++[r]) by rw [HL.out];unfold rowL;rw [if_pos hnb])
    clear hnb HL
    have hc1:=HC1.out
    go_wp2_with fail
    with_reducible refine (HVP.out _).mono ?_
    rintro e w3 ⟨⟨⟨va,vi,vp,pr⟩,pv,vc,rfl,hsmall,hpv,hver⟩,hm3⟩
    have HSMALL:=zh hsmall
    have HVE:=zh hver
    obtain ⟨pa,pc,rfl⟩:=hpv.len
    obtain ⟨pn,hpn⟩:∃ n,n=pr.length:=⟨_,rfl⟩
    have HPN:=zh hpn
    have HP3:=zh (show Sl w3 No 9 (.slice pa pn pc) pn (strs pr) by rw [hpn];exact hpv)
    have HM3:=zh hm3
    unfold verV
    dsimp only at *
    rw [<- hpn]
    clear hpn hsmall hver hpv hm3 hc1 c0 HVP
    go_upto_region 14 with fail
    obtain ⟨vb,hvb⟩:∃ g,g=w3.heap.size:=⟨_,rfl⟩
    rw [<- hvb]
    generalize hw3a:World.alloc w3 _=w3a
    have HV3:=zh (show w3a.heap[vb]? = some (.cells #[.int .i64 va,.int .i64 vi,.int .i64 vp,.slice pa pn pc] 40 (0,0)) by rw [<- hw3a,hvb];exact heap_alloc_new w3 _)
    have hm3a:Mod No w3 w3a:=by rw [<- hw3a];exact (Mod.refl No w3).alloc _
    have HM3a:=zh (HM3.out.trans hm3a)
    have HP3a:=zh (HP3.out.kn hm3a)
    have hc2:=HM3a.out.cell HC2.out (fun f=>f)
    clear hw3a hm3a hvb HM3 HP3
    go_wp2_with fail
    with_reducible refine (HKP.out _).mono ?_
    rintro e w4a ⟨⟨S,sok,rfl,hS32,hsum⟩,hm4a⟩
    have HS32:=zh hS32
    have HSUM:=zh hsum
    have HM4a:=zh (HM3a.out.trans hm4a)
    have HP4a:=zh (HP3a.out.kn hm4a)
    have HV4a:=zh (hm4a.keep HV3.out (fun f=>f))
    clear hm4a hS32 hsum HM3a HP3a HV3 hc2 HKP
    go_upto_region 15 with (refine wpList_store_row rfl 43 _ _ rfl w4a.heap.size (bv S).toArray rfl rfl 43 _ (heap_alloc_new w4a _) (key_size HS32.out) (by simp [HS32.out]) (by simp [bv,Value.oneCell']) ?_)
    obtain ⟨kb,hkb⟩:∃ g,g=w4a.heap.size:=⟨_,rfl⟩
    rw [<- hkb]
    generalize hw4:World.setRow _ kb _=w4
    have HK4:=zh (show w4.heap[kb]? = some (.cells (bv S).toArray 43 (0,0)) by rw [<- hw4,hkb];exact setRow_heap _ _ _ _ _ _ (heap_alloc_new w4a _))
    have hm4b:Mod No w4a w4:=by rw [<- hw4,hkb];exact ((Mod.refl No w4a).alloc _).setRow (fun h=>absurd h (by omega)) _
    have HMS:=zh (HM4a.out.trans hm4b)
    have HM4:=zh (HM2.out.trans HMS.out)
    have HP4:=zh (HP4a.out.kn hm4b)
    have HV4:=zh (hm4b.keep HV4a.out (fun f=>f))
    have hc3:=HMS.out.cell HC3.out (fun f=>f)
    clear hw4 hm4b hkb HM4a HP4a HV4a
    go_wp2_with fail
    with_reducible refine (HSZ.out _).mono ?_
    rintro e w9 ⟨⟨n,rfl,hsz⟩,h9⟩
    rw [h9]
    obtain ⟨nok,hnok⟩:∃ nok,nok=(sizeL pD).isSome:=⟨_,rfl⟩
    rw [<- hnok]
    have HSSZ:=zh (show nok=true->sizeL pD=some n from fun h=>by
     rw [hnok] at h
     obtain ⟨m,hm⟩:=Option.isSome_iff_exists.1 h
     rw [hm,hsz m hm])
    have HNSZ:=zh (show nok=false->sizeL pD=none from fun h=>by
     rw [hnok] at h
     simpa using h)
    obtain ⟨th,hth⟩:∃ th,th=(atL (xs.map RwX.r) pA ⟨va,vi,vp,pr⟩).isSome:=⟨_,rfl⟩
    have HTH:=zh hth
    obtain ⟨zs,hzs⟩:∃ zs,zs=rowCs ⟨#[]⟩ 0 0 0 (.slice none 0 0) (List.replicate 32 0) 0:=⟨_,rfl⟩
    have HZS:=zh hzs
    have HZL:=zh (show zs.toArray.size=39 by rw [hzs];exact rowCs_length (by simp) _ _ _ _ _ _)
    clear h9 w9 hsz hnok hth hzs hc3 HSZ
    go_upto_region 16 with fail
    obtain ⟨wD,hwD⟩:∃ y,y=w4.drew:=⟨_,rfl⟩
    have hmD:Mod No w4 wD:=by rw [hwD];exact (Mod.refl No w4).drew
    have HMD:=zh hmD
    have HSM:=zh (show ∀ w',Mod No wD w'->w'.cell? ⟨sb,0,none⟩=some (.string A)/\w'.heap[vb]? = some (.cells #[.int .i64 va,.int .i64 vi,.int .i64 vp,.slice pa pn pc] 40 (0,0)) from fun w' h =>
     ⟨((HMS.out.trans hmD).trans h).cell HC0.out (fun f=>f),(hmD.trans h).keep HV4.out (fun f=>f)⟩)
    have HFN:=zh (show ∀ W,Mod No wD W->Calls prog 16 #[.slice ra xs.length rc,.string A,.agg #[.int .i64 va,.int .i64 vi,.int .i64 vp,.slice pa pn pc]] W fun e w'=>FindR xs pA ⟨va,vi,vp,pr⟩ e/\Mod No W w' from fun W hm =>
     HFN0.out W ⟨va,vi,vp,pr⟩ (.slice pa pn pc) HSMALL.out ((HM4.out.trans hmD).trans hm) (by
      have h9:=HP4.out.kn (hmD.trans hm)
      have h8:=HPN.out
      subst h8
      exact h9) (HRS.out W ((HM4.out.trans hmD).trans hm)))
    have HWD:=zh hwD
    have hS0:=Mod.refl No wD
    clear hwD hmD
    refine wp_region_T (fun w'=>Mod No wD w') 99 (by kernel_rfl) ?_
    rw [<- HWD.out]
    refine yT 0 (some 93) ?_ hS0 ?_ ?_
    rotate_left
    ·(intro w' hSw;go_simp;try with_reducible rfl)
    simp only [Act.put,yB,yC,yD]
    refine yT 1 (some 94) ?_ hS0 ?_ ?_
    rotate_left
    ·(intro w' hSw;go_simp;try with_reducible rfl)
    simp only [Act.put,yB,yC,yD]
    refine yT 2 (some 95) ?_ hS0 ?_ ?_
    rotate_left
    ·(intro w' hSw;go_simp;try with_reducible rfl)
    simp only [Act.put,yB,yC,yD]
    refine yT 3 (some 96) (.string A) hS0 ?_ ?_
    ·(intro w' hSw;have q0:=(HSM.out w' hSw).1;go_simp;try with_reducible rfl)
    simp only [Act.put,yB,yC,yD]
    refine yT 4 (some 97) (.agg #[.int .i64 va,.int .i64 vi,.int .i64 vp,.slice pa pn pc]) hS0 ?_ ?_
    ·(intro w' hSw;apply yloadv (load_ver (HSM.out w' hSw).2) (.tmp 10) <;> rfl)
    simp only [Act.put,yB,yC,yD]
    refine wpAnyT_two 5 9 rfl rfl (by kernel_rfl) rfl rfl ?_ ?_
    ·intro K hK
     go_simp
     go_at_call 16
     with_reducible refine (HFN.out wD hS0).mono ?_
     rintro e wD_5 ⟨hfr,hmwD_5⟩
     obtain ⟨ds,rfl,hd1,hd2⟩:=findr_u HOKX.out th HTH.out hfr
     have HD39:=zh hd1
     have HDO:=zh hd2
     have HMwD_5:=zh (hS0.trans hmwD_5)
     clear hmwD_5 hfr hd1 hd2
     show K _ _
     have hS1:=HMwD_5.out
     refine hK.out _ _ (fun _=>hS1) ?_
     clear hK K
     refine yT 6 (some 92) ?_ hS1 ?_ ?_
     rotate_left
     ·(intro w' hSw;go_simp;try with_reducible rfl)
     simp only [Act.put,yB,yC,yD]
     refine yT 7 (some 99) ?_ hS1 ?_ ?_
     rotate_left
     ·(intro w' hSw;go_simp;try with_reducible rfl)
     simp only [Act.put,yB,yC,yD]
     refine yT 8 (some 100) ?_ hS1 ?_ ?_
     rotate_left
     ·(intro w' hSw;go_simp;try with_reducible rfl)
     simp only [Act.put,yB,yC,yD]
     refine wpAnyT_one 9 rfl (by kernel_rfl) rfl ?_
     intro K hK
     obtain ⟨fb,hfb⟩:∃ g,g=wD_5.heap.size:=⟨_,rfl⟩
     go_simp
     rw [<- hfb]
     generalize hwwD_5_9:World.alloc wD_5 _=wD_5_9
     have HFB:=zh (show wD_5_9.heap[fb]? = some (.cells zs.toArray 46 (0,0)) by rw [<- hwwD_5_9,hfb,HZS.out];exact heap_alloc_new _ _)
     have hmwD_5_9:Mod No wD_5 wD_5_9:=by rw [<- hwwD_5_9];exact (Mod.refl No _).alloc _
     have HMwD_5_9:=zh (hS1.trans hmwD_5_9)
     have HFL:=zh (show wD.heap.size<=fb by rw [hfb];exact hS1.size)
     clear hwwD_5_9 hfb hmwD_5_9
     show K _ _
     have hS2:=HMwD_5_9.out
     refine hK.out _ _ (fun _=>hS2) ?_
     clear hK K
     refine wpAnyT_one 10 rfl (by kernel_rfl) rfl ?_
     intro K hK
     refine wp_store_row 46 (.tmp 16) (.tmp 99) rfl fb ds rfl rfl 46 zs.toArray HFB.out (by rw [HD39.out];exact row_info) (by rw [HD39.out];exact HZL.out) HDO.out ?_
     obtain ⟨wD_5_9_10,hwD_5_9_10⟩:∃ y,y=wD_5_9.setRow fb ds:=⟨_,rfl⟩
     rw [<- hwD_5_9_10]
     have HMwD_5_9_10:=zh (show Mod No wD wD_5_9_10 by rw [hwD_5_9_10];exact hS2.setRow (fun h=>absurd h (by have h1:=HFL.out;omega)) ds)
     clear hwD_5_9_10
     show K _ _
     have hS3:=HMwD_5_9_10.out
     refine hK.out _ _ (fun _=>hS3) ?_
     clear hK K
     refine yT 11 (some 17) ?_ hS3 ?_ ?_
     rotate_left
     ·(intro w' hSw;go_simp;try with_reducible rfl)
     simp only [Act.put]
     refine wpAnyT_done (by kernel_rfl) ?_ _
     clear hS0 hS1 hS2 hS3
     have HMDF:=zh HMwD_5_9_10.out
     have HMF:=zh ((HM4.out.trans HMD.out).trans HMDF.out)
     clear HFN HSM HFB HFL HD39 HDO
     rcases HVE.out with ⟨rfl,hv⟩ | ⟨rfl,hv⟩
     ·cases sok with
      | false =>
       have HN:=zh (show packL (xs.map RwX.r) (L.drop 5)=none by rw [HL2.out,hv,show sumL pC=none from HSUM.out];rfl)
       go_wp2_with fail
       exact Met.intro (HJ.out _ _ ⟨_,false,⟨rfl,rfl,rfl,rfl,rfl,rfl,rfl,rfl,rfl,rfl,rfl,rfl,rfl,rfl,trivial⟩,HN.out,HMF.out.weaken (fun _ _ f=>f.elim)⟩)
      | true =>
       have hsum:sumL pC=some S:=HSUM.out
       cases nok with
       | false =>
        have HN:=zh (show packL (xs.map RwX.r) (L.drop 5)=none by rw [HL2.out,hv,hsum,HNSZ.out rfl];rfl)
        go_wp2_with fail
        exact Met.intro (HJ.out _ _ ⟨_,false,⟨rfl,rfl,rfl,rfl,rfl,rfl,rfl,rfl,rfl,rfl,rfl,rfl,rfl,rfl,trivial⟩,HN.out,HMF.out.weaken (fun _ _ f=>f.elim)⟩)
       | true =>
        have hsz:sizeL pD=some n:=HSSZ.out rfl
        have HRW:=zh (show packL (xs.map RwX.r) (L.drop 5)=if (atL (xs.map RwX.r) pA ⟨va,vi,vp,pr⟩).isSome=true\/200<=(xs.map RwX.r).length then none else some (xs.map RwX.r++[⟨pA,⟨va,vi,vp,pr⟩,S,n,[]⟩]) by rw [HL2.out,hv,hsum,hsz];rfl)
        cases th with
        | true =>
         have HN:=zh (show packL (xs.map RwX.r) (L.drop 5)=none by rw [HRW.out,<- HTH.out];exact if_pos (.inl rfl))
         go_wp2_with fail
         exact Met.intro (HJ.out _ _ ⟨_,false,⟨rfl,rfl,rfl,rfl,rfl,rfl,rfl,rfl,rfl,rfl,rfl,rfl,rfl,rfl,trivial⟩,HN.out,HMF.out.weaken (fun _ _ f=>f.elim)⟩)
        | false =>
         have HPK:=zh (show packL (xs.map RwX.r) (L.drop 5)=some (xs.map RwX.r++[⟨pA,⟨va,vi,vp,pr⟩,S,n,[]⟩]) by rw [HRW.out,<- HTH.out];exact if_neg (fun h=>h.elim (fun h=>by cases h) (fun h=>by rw [List.length_map] at h;omega)))
         go_upto_if 112 with fail
         refine wp_cond_true rfl ?_
         refine wp_way (pack2_part _ _ _ _ _ _ _ _ B xs (.slice ra xs.length rc) (.slice (some ⟨lb,lo,none⟩) ln lc) k pA va vi vp pr pa pn pc S n sb 0 sc vb kb _ _ HS32.out hlt (Nat.le_trans HB.out HMF.out.size) (HR.out.no HMF.out) (by obtain ⟨cur,fz,h1,h2⟩:=HSB.out;exact ⟨cur,fz,(HMS.out.trans (HMD.out.trans HMDF.out)).keep h1 (fun f=>f),h2⟩) ((HMD.out.trans HMDF.out).keep HV4.out (fun f=>f)) ((HMD.out.trans HMDF.out).keep HK4.out (fun f=>f)) HSMALL.out HPN.out (HP4.out.kn (HMD.out.trans HMDF.out)) ⟨rfl,rfl,rfl,rfl,rfl,rfl,rfl,rfl,rfl,rfl,rfl,rfl,rfl,rfl,rfl,rfl,rfl,trivial⟩) ?_
         rintro a9 w9 ⟨v9,hF9,hr9,hm9⟩
         exact hK _ _ (Met.intro (HJ.out _ _ ⟨v9,true,hF9,⟨_,by rw [HPK.out];simp,hr9,by simp;omega⟩,(HMF.out.weaken (fun _ _ f=>f.elim)).trans hm9⟩))
     ·skip
      have HN:=zh (show packL (xs.map RwX.r) (L.drop 5)=none by rw [HL2.out,hv];rfl)
      go_wp2_with fail
      exact Met.intro (HJ.out _ _ ⟨_,false,⟨rfl,rfl,rfl,rfl,rfl,rfl,rfl,rfl,rfl,rfl,rfl,rfl,rfl,rfl,trivial⟩,HN.out,HMF.out.weaken (fun _ _ f=>f.elim)⟩)
    ·intro K hK
     obtain ⟨fb,hfb⟩:∃ g,g=wD.heap.size:=⟨_,rfl⟩
     go_simp
     rw [<- hfb]
     generalize hwwD_9:World.alloc wD _=wD_9
     have HFB:=zh (show wD_9.heap[fb]? = some (.cells zs.toArray 46 (0,0)) by rw [<- hwwD_9,hfb,HZS.out];exact heap_alloc_new _ _)
     have hmwD_9:Mod No wD wD_9:=by rw [<- hwwD_9];exact (Mod.refl No _).alloc _
     have HMwD_9:=zh (hS0.trans hmwD_9)
     have HFL:=zh (show wD.heap.size<=fb by rw [hfb];exact hS0.size)
     clear hwwD_9 hfb hmwD_9
     show K _ _
     have hS1:=HMwD_9.out
     refine hK.out _ _ (fun _=>hS1) ?_
     clear hK K
     refine wpAnyT_one 5 rfl (by kernel_rfl) rfl ?_
     intro K hK
     go_simp
     go_at_call 16
     with_reducible refine (HFN.out wD_9 hS1).mono ?_
     rintro e wD_9_5 ⟨hfr,hmwD_9_5⟩
     obtain ⟨ds,rfl,hd1,hd2⟩:=findr_u HOKX.out th HTH.out hfr
     have HD39:=zh hd1
     have HDO:=zh hd2
     have HMwD_9_5:=zh (hS1.trans hmwD_9_5)
     have HFB:=zh (hmwD_9_5.keep HFB.out (fun f=>f))
     clear hmwD_9_5 hfr hd1 hd2
     show K _ _
     have hS2:=HMwD_9_5.out
     refine hK.out _ _ (fun _=>hS2) ?_
     clear hK K
     refine yT 6 (some 92) ?_ hS2 ?_ ?_
     rotate_left
     ·(intro w' hSw;go_simp;try with_reducible rfl)
     simp only [Act.put,yB,yC,yD]
     refine yT 7 (some 99) ?_ hS2 ?_ ?_
     rotate_left
     ·(intro w' hSw;go_simp;try with_reducible rfl)
     simp only [Act.put,yB,yC,yD]
     refine yT 8 (some 100) ?_ hS2 ?_ ?_
     rotate_left
     ·(intro w' hSw;go_simp;try with_reducible rfl)
     simp only [Act.put,yB,yC,yD]
     refine wpAnyT_one 10 rfl (by kernel_rfl) rfl ?_
     intro K hK
     refine wp_store_row 46 (.tmp 16) (.tmp 99) rfl fb ds rfl rfl 46 zs.toArray HFB.out (by rw [HD39.out];exact row_info) (by rw [HD39.out];exact HZL.out) HDO.out ?_
     obtain ⟨wD_9_5_10,hwD_9_5_10⟩:∃ y,y=wD_9_5.setRow fb ds:=⟨_,rfl⟩
     rw [<- hwD_9_5_10]
     have HMwD_9_5_10:=zh (show Mod No wD wD_9_5_10 by rw [hwD_9_5_10];exact hS2.setRow (fun h=>absurd h (by have h1:=HFL.out;omega)) ds)
     clear hwD_9_5_10
     show K _ _
     have hS3:=HMwD_9_5_10.out
     refine hK.out _ _ (fun _=>hS3) ?_
     clear hK K
     refine yT 11 (some 17) ?_ hS3 ?_ ?_
     rotate_left
     ·(intro w' hSw;go_simp;try with_reducible rfl)
     simp only [Act.put]
     refine wpAnyT_done (by kernel_rfl) ?_ _
     clear hS0 hS1 hS2 hS3
     have HMDF:=zh HMwD_9_5_10.out
     have HMF:=zh ((HM4.out.trans HMD.out).trans HMDF.out)
     clear HFN HSM HFB HFL HD39 HDO
     rcases HVE.out with ⟨rfl,hv⟩ | ⟨rfl,hv⟩
     ·cases sok with
      | false =>
       have HN:=zh (show packL (xs.map RwX.r) (L.drop 5)=none by rw [HL2.out,hv,show sumL pC=none from HSUM.out];rfl)
       go_wp2_with fail
       exact Met.intro (HJ.out _ _ ⟨_,false,⟨rfl,rfl,rfl,rfl,rfl,rfl,rfl,rfl,rfl,rfl,rfl,rfl,rfl,rfl,trivial⟩,HN.out,HMF.out.weaken (fun _ _ f=>f.elim)⟩)
      | true =>
       have hsum:sumL pC=some S:=HSUM.out
       cases nok with
       | false =>
        have HN:=zh (show packL (xs.map RwX.r) (L.drop 5)=none by rw [HL2.out,hv,hsum,HNSZ.out rfl];rfl)
        go_wp2_with fail
        exact Met.intro (HJ.out _ _ ⟨_,false,⟨rfl,rfl,rfl,rfl,rfl,rfl,rfl,rfl,rfl,rfl,rfl,rfl,rfl,rfl,trivial⟩,HN.out,HMF.out.weaken (fun _ _ f=>f.elim)⟩)
       | true =>
        have hsz:sizeL pD=some n:=HSSZ.out rfl
        have HRW:=zh (show packL (xs.map RwX.r) (L.drop 5)=if (atL (xs.map RwX.r) pA ⟨va,vi,vp,pr⟩).isSome=true\/200<=(xs.map RwX.r).length then none else some (xs.map RwX.r++[⟨pA,⟨va,vi,vp,pr⟩,S,n,[]⟩]) by rw [HL2.out,hv,hsum,hsz];rfl)
        cases th with
        | true =>
         have HN:=zh (show packL (xs.map RwX.r) (L.drop 5)=none by rw [HRW.out,<- HTH.out];exact if_pos (.inl rfl))
         go_wp2_with fail
         exact Met.intro (HJ.out _ _ ⟨_,false,⟨rfl,rfl,rfl,rfl,rfl,rfl,rfl,rfl,rfl,rfl,rfl,rfl,rfl,rfl,trivial⟩,HN.out,HMF.out.weaken (fun _ _ f=>f.elim)⟩)
        | false =>
         have HPK:=zh (show packL (xs.map RwX.r) (L.drop 5)=some (xs.map RwX.r++[⟨pA,⟨va,vi,vp,pr⟩,S,n,[]⟩]) by rw [HRW.out,<- HTH.out];exact if_neg (fun h=>h.elim (fun h=>by cases h) (fun h=>by rw [List.length_map] at h;omega)))
         go_upto_if 112 with fail
         refine wp_cond_true rfl ?_
         refine wp_way (pack2_part _ _ _ _ _ _ _ _ B xs (.slice ra xs.length rc) (.slice (some ⟨lb,lo,none⟩) ln lc) k pA va vi vp pr pa pn pc S n sb 0 sc vb kb _ _ HS32.out hlt (Nat.le_trans HB.out HMF.out.size) (HR.out.no HMF.out) (by obtain ⟨cur,fz,h1,h2⟩:=HSB.out;exact ⟨cur,fz,(HMS.out.trans (HMD.out.trans HMDF.out)).keep h1 (fun f=>f),h2⟩) ((HMD.out.trans HMDF.out).keep HV4.out (fun f=>f)) ((HMD.out.trans HMDF.out).keep HK4.out (fun f=>f)) HSMALL.out HPN.out (HP4.out.kn (HMD.out.trans HMDF.out)) ⟨rfl,rfl,rfl,rfl,rfl,rfl,rfl,rfl,rfl,rfl,rfl,rfl,rfl,rfl,rfl,rfl,rfl,trivial⟩) ?_
         rintro a9 w9 ⟨v9,hF9,hr9,hm9⟩
         exact hK _ _ (Met.intro (HJ.out _ _ ⟨v9,true,hF9,⟨_,by rw [HPK.out];simp,hr9,by simp;omega⟩,(HMF.out.weaken (fun _ _ f=>f.elim)).trans hm9⟩))
     ·skip
      have HN:=zh (show packL (xs.map RwX.r) (L.drop 5)=none by rw [HL2.out,hv];rfl)
      go_wp2_with fail
      exact Met.intro (HJ.out _ _ ⟨_,false,⟨rfl,rfl,rfl,rfl,rfl,rfl,rfl,rfl,rfl,rfl,rfl,rfl,rfl,rfl,trivial⟩,HN.out,HMF.out.weaken (fun _ _ f=>f.elim)⟩)
   ·have hlti:¬ (xs.length:Int) < 200:=by omega
    have HN:=zh (show packL (xs.map RwX.r) (L.drop 5)=none by
     rw [HL.out]
     cases rowL pA pB pC pD with
     | none=>rfl
     | some r=>exact if_pos (.inr (by rw [List.length_map];omega)))
    have HMF:=HM2
    clear hnb
    go_wp2_with fail
    exact Met.intro (HJ.out _ _ ⟨_,false,⟨rfl,rfl,rfl,rfl,rfl,rfl,rfl,rfl,rfl,rfl,rfl,rfl,rfl,rfl,trivial⟩,HN.out,HMF.out.weaken (fun _ _ f=>f.elim)⟩)
 ·obtain ⟨sa,sc,hsv⟩:=own_len hown
  subst hsv
  have HN:=zh (HNO.out h4)
  have h4i:((ps.length:Int) == 4)=false:=by simpa using (by omega:¬ (ps.length:Int)=4)
  have HMF:=HM2
  clear hown
  go_wp2_with fail
  exact Met.intro (HJ.out _ _ ⟨_,false,⟨rfl,rfl,rfl,rfl,rfl,rfl,rfl,rfl,rfl,rfl,rfl,rfl,rfl,rfl,trivial⟩,HN.out,HMF.out.weaken (fun _ _ f=>f.elim)⟩)
end Go.Proofs.YtgiigemfbebcgaaGreatDoor
