/-
  Layers 0 to 14: helps of the laws of indexes. No statement is proved here; no condition.
-/
import Derived.Test.YtmppeipgjcjdkaaGreatDoorV07
import Derived.Test.YtmppeipgjcjdkaaGreatDoorV08
import Derived.Test.YtmppeipgjcjdkaaGreatDoorV25
import Derived.Test.YtmppeipgjcjdkaaGreatDoorV27
import Derived.ChangeKeysEq
import Derived.Lib.ConvBytes
import Derived.Great.Walk
namespace Go.Proofs.YtmppeipgjcjdkaaGreatDoor
open _root_.Go.Proofs.Tryz
open Go.RowKit Go.Maps
theorem part_u8 {S:List UInt8} {i:Nat} (hi:i < S.length) (W:World):Sem.run prog (part 5 (bv S).toArray i) W=.ok (.int .u8 (bf S i)) W:=by
 have h4:(isAgg 5).run prog W=.ok false W:=by kernel_rfl
 have h3:(bv S).toArray[i]? = some (.int .u8 (bf S i)):=by rw [List.getElem?_toArray];exact bv_bf hi
 unfold part
 simp only [Sem.run_bind,h4,Result.andThen_ok,h3,Bool.false_eq_true,if_false,Sem.run_pure]
theorem eqItems_key {S T:List UInt8} (hS:S.length=32) (hT:T.length=32) (W:World):∀ is:List Nat,(∀ i ∈ is,i < 32) →
  (Op.eqItems 9999 5 1 (bv S).toArray (bv T).toArray is).run prog W=.ok (is.all fun i=>bf S i == bf T i) W
 | [],_=>by simp [Op.eqItems]
 | i :: is,h=>by
  have hi:=h i (by simp)
  simp only [Op.eqItems,Sem.run_bind,Nat.mul_one,part_u8 (show i < S.length by omega),part_u8 (show i < T.length by omega),Result.andThen_ok,run_equalIn_int W 9998 5 .u8 .u8 _ _ underlying5,List.all_cons]
  cases hb:(bf S i == bf T i)
  ·simp
  ·simp [eqItems_key hS hT W is fun j hj=>h j (by simp [hj])]
theorem bf_ext {S T:List UInt8} (hS:S.length=32) (hT:T.length=32) (h:∀ i,i < 32->bf S i=bf T i):S=T:=by
 apply List.ext_getElem (by omega)
 intro i h1 h2
 have h3:=h i (by omega)
 unfold bf at h3
 rw [List.getD_eq_getElem?_getD,List.getD_eq_getElem?_getD,List.getElem?_eq_getElem h1,List.getElem?_eq_getElem h2] at h3
 exact UInt8.toNat_inj.1 (Int.ofNat_inj.1 (by simpa using h3))
theorem eqAll_key {S T:List UInt8} (hS:S.length=32) (hT:T.length=32):((List.range 32).all fun i=>bf S i == bf T i)=decide (S=T):=by
 by_cases h:S=T
 ·subst h;simp
 ·rw [decide_eq_false h,List.all_eq_false]
  refine Classical.byContradiction fun hn=>h (bf_ext hS hT fun i hi=>?_)
  refine Classical.byContradiction fun hne=>hn ⟨i,List.mem_range.2 hi,by simpa using hne⟩
theorem run_ne_key {S T:List UInt8} (hS:S.length=32) (hT:T.length=32) (W:World):(binOp .neq 47 (keyV S) (keyV T)).run prog W=.ok (.bool (!decide (S=T))) W:=by
 obtain ⟨i0,hi,-⟩:=info_parts info_byte
 have hc:prog.cellsOf 5=1:=by kernel_rfl
 rw [run_neq_struct,run_equalIn_array W 9999 _ _ underlying47 hi,hc,eqItems_key hS hT W _ (fun i hi=>List.mem_range.1 hi),eqAll_key hS hT]
 rfl
theorem yload {w:World} {g:Nat} {t:TypeId} {S:List UInt8} {fr:Nat × Nat} {o:Oper} {ρ:Operand->Value} (hS:S.length=32) (hg:w.heap[g]? = some (.cells (bv S).toArray t fr)) (x:Operand) (ho:o.op=.load 47 x) (hx:ρ x=.pointer (some ⟨g,0,none⟩)) :
  (execOp ρ o).run prog w=.ok (.value (keyV S)) w:=by
 unfold execOp
 simp only [ho,hx,Instr.loadAt,Instr.sureAddr,Sem.run_bind,Sem.run_pure,Result.andThen_ok,run_loadVar_row w g t 47 (bv S).toArray fr _ hg underlying47 rfl (key_size hS)]
theorem key_guard:prog.eqGuardType prog.depth 47=false:=by kernel_rfl
theorem yne {w:World} {S T:List UInt8} {o:Oper} {ρ:Operand->Value} (hS:S.length=32) (hT:T.length=32) (x y:Operand) (rt:TypeId) (ho:o.op=.binOp .neq 47 x y rt) (hx:ρ x=keyV S) (hy:ρ y=keyV T) :
  (execOp ρ o).run prog w=.ok (.value (.bool (!decide (S=T)))) w:=by
 unfold execOp
 simp only [ho,hx,hy,Sem.run_bind,Sem.run_pure,run_eqGuard_agg w .neq 47 x y _ _ key_guard,Result.andThen_ok,run_ne_key hS hT]
theorem run_row_new {P:Program} {w:World} {t:TypeId} {c:Array Value} {vs:List Value} (ho:c.size=vs.length) (h1:∀ v ∈ vs,v.oneCell'=true) :
  Sem.run P (storeCells ⟨w.heap.size,0,none⟩ vs 0) (w.alloc (.cells c t))=.ok () ((w.alloc (.cells c t)).setRow w.heap.size vs.toArray):=run_row (heap_alloc_new w _) ho h1
def CaObj (w:World) (cb s:Nat):Prop:=w.heap[cb]? = some (.cells #[.pointer (some ⟨s,0,none⟩)] 120 (0,0))
set_option maxRecDepth 100000 in
theorem cnew_any (s:Nat) (w:World) :
  Calls prog 18 #[.pointer (some ⟨s,0,none⟩)] w fun e w'=>e=.returned (.pointer (some ⟨w.heap.size,0,none⟩))/\CaObj w' w.heap.size s/\Mod No w w'/\w.heap.size < w'.heap.size:=by
 refine calls_hide fun R hR=>?_
 go_enter func18,ntmps18
 go_wp2_with fail
 exact fin hR ⟨rfl,heap_alloc_new w _,(Mod.refl No w).alloc _,by simp⟩
def nC (S:List UInt8):List UInt8:=99 :: 47 :: hexL S
theorem cat_c (H:List UInt8):(⟨#[99,47]⟩:ByteArray) ++ ⟨H.toArray⟩=⟨(99 :: 47 :: H).toArray⟩:=by
 apply ByteArray.ext
 rw [ByteArray.data_append]
 simp
theorem nC_length {S:List UInt8} (h:S.length=32):(nC S).length=66:=by simp [nC,hexL_length,h]
set_option maxRecDepth 100000 in
set_option maxHeartbeats 4000000 in
theorem cget_some {w0 w:World} {N sz b s n cnt cb:Nat} {O:Nat->Prop} {M:Mt} (h:Sto w0 w N sz b s O n M cnt) (hc:CaObj w cb s) (S l:List UInt8) (hS:S.length=32) (hl:l.length<=100000) (hsum:sumF l=S) (hM:M (nC S)=some l) :
  Calls prog 54 #[.pointer (some ⟨cb,0,none⟩),keyV S] w fun e w'=>(∃ v,e=.returned (.tuple #[v,.bool true])/\Sl w' No 5 v l.length (bv l))/\Mod No w w':=by
 refine calls_hide fun R hR=>?_
 have H:=zh h
 have HC0:=zh hc
 have HH:=zh (hex_any S hS)
 obtain ⟨NC,hNC⟩:∃ z:ByteArray,z=⟨(nC S).toArray⟩:=⟨_,rfl⟩
 obtain ⟨LL,hLL⟩:∃ z:ByteArray,z=⟨l.toArray⟩:=⟨_,rfl⟩
 have HG0:=zh (show ∀ w',Mod No w w'->Calls prog 21 #[.pointer (some ⟨s,0,none⟩),.string NC] w' fun e w''=>e=.returned (.tuple #[.string LL,.bool true])/\w''=w' from fun w' hm=>by
  have h1:=(h.stay hm).get (nC S) (by rw [nC_length hS];decide)
  unfold getV at h1
  rw [hM] at h1
  rw [hNC,hLL]
  exact h1)
 have ECAT:=zh (show (⟨#[99,47]⟩:ByteArray) ++ ⟨(hexL S).toArray⟩=NC by rw [hNC];exact cat_c _)
 have HCV:=zh (show ∀ W,∃ c W',(convert 9 41 (.string LL)).run prog W=.ok (.slice (some ⟨W.heap.size,0,none⟩) l.length c) W'/\Sl W' No 5 (.slice (some ⟨W.heap.size,0,none⟩) l.length c) l.length (bv l)/\Mod No W W' from fun W=>by rw [hLL];exact bytes_of_str W l (by omega))
 have HSU:=zh (show ∀ (pb pc:Nat) (V:Value) (W:World),W.cell? ⟨pb,0,none⟩=some V->Sl W No 5 V l.length (bv l)->Calls prog 52 #[.slice (some ⟨pb,0,none⟩) 1 pc] W fun e w'=>e=.returned (keyV S)/\Mod No W w' from fun pb pc V W h1 h2=>by
  have h3:=sum_any l pb 0 pc V W (by omega) h1 h2
  rw [hsum] at h3
  exact h3)
 have hHX:(⟨(hexL S).toArray⟩:ByteArray).size=64:=by rw [str_size_list,hexL_length,hS]
 generalize (⟨(hexL S).toArray⟩:ByteArray)=HX at *
 obtain ⟨m,hm⟩:∃ m,m=l.length:=⟨_,rfl⟩
 rw [<- hm] at HCV HSU hR
 have HLM:=zh hm
 clear h hc hNC hM hLL hm hl hsum
 go_enter func54,ntmps54
 go_upto_region 1 with fail
 obtain ⟨g,hg⟩:∃ g,g=w.heap.size:=⟨_,rfl⟩
 rw [<- hg]
 obtain ⟨wA,hwA⟩:∃ y,y=(w.alloc (.cells (bv S).toArray 47)).drew:=⟨_,rfl⟩
 have HMA:=zh (show Mod No w wA by rw [hwA];exact ((Mod.refl No w).alloc _).drew)
 have HKB:=zh (show wA.heap[g]? = some (.cells (bv S).toArray 47 (0,0)) by rw [hwA,hg];exact heap_alloc_new w _)
 have HC:=zh (HMA.out.keep HC0.out (fun f=>f))
 have HG:=zh (fun w' (hm:Mod No wA w')=>HG0.out w' (HMA.out.trans hm))
 have HWA:=zh hwA
 have hS0:=Mod.refl No wA
 clear hwA hg HG0
 refine wp_region_T (fun w'=>Mod No wA w') 99 (by kernel_rfl) ?_
 rw [<- HWA.out]
 refine yT 0 (some 9) ?_ hS0 ?_ ?_
 rotate_left
 ·(intro w' hSw;go_simp;try with_reducible rfl)
 simp only [Act.put,yB,yC,yD]
 refine yT 1 (some 10) ?_ hS0 ?_ ?_
 rotate_left
 ·(intro w' hSw;go_simp;try with_reducible rfl)
 simp only [Act.put,yB,yC,yD]
 refine yT 2 (some 11) ?_ hS0 ?_ ?_
 rotate_left
 ·(intro w' hSw;go_simp;try with_reducible rfl)
 simp only [Act.put,yB,yC,yD]
 refine yT 3 (some 12) ?_ hS0 ?_ ?_
 rotate_left
 ·(intro w' hSw;have cc:=cell_of (i:=0) (hSw.keep HC.out (fun f=>f)) rfl;go_simp;try with_reducible rfl)
 simp only [Act.put,yB,yC,yD]
 refine yT 4 (some 13) (keyV S) hS0 ?_ ?_
 ·(intro w' hSw;apply yload hS (hSw.keep HKB.out (fun f=>f)) (.tmp 3) <;> rfl)
 simp only [Act.put,yB,yC,yD]
 refine wpAnyT_one 5 rfl (by kernel_rfl) rfl ?_
 intro K hK
 go_simp
 go_at_call 53
 with_reducible refine (HH.out _).mono ?_
 rintro e wA_5 ⟨rfl,hmwA_5⟩
 show K _ _
 have hS1:=Mod.trans hS0 hmwA_5
 refine hK.out _ _ (fun _=>hS1) ?_
 clear hK K
 refine yT 6 (some 15) (.string NC) hS1 ?_ ?_
 ·(intro w' hSw;go_simp;exact ECAT.out)
 simp only [Act.put,yB,yC,yD]
 refine wpAnyT_one 7 rfl (by kernel_rfl) rfl ?_
 intro K hK
 go_simp
 go_at_call 21
 with_reducible refine (HG.out _ hS1).mono ?_
 rintro e wA_5_7 ⟨rfl,hwA_5_7⟩
 subst hwA_5_7
 show K _ _
 have hS2:=hS1
 refine hK.out _ _ (fun _=>hS2) ?_
 clear hK K
 refine yT 8 (some 8) ?_ hS2 ?_ ?_
 rotate_left
 ·(intro w' hSw;go_simp;try with_reducible rfl)
 simp only [Act.put,yB,yC,yD]
 refine yT 9 (some 17) ?_ hS2 ?_ ?_
 rotate_left
 ·(intro w' hSw;go_simp;try with_reducible rfl)
 simp only [Act.put,yB,yC,yD]
 refine yT 10 (some 18) ?_ hS2 ?_ ?_
 rotate_left
 ·(intro w' hSw;go_simp;try with_reducible rfl)
 simp only [Act.put,yB,yC,yD]
 refine yT 11 (some 6) ?_ hS2 ?_ ?_
 rotate_left
 ·(intro w' hSw;go_simp;try with_reducible rfl)
 simp only [Act.put,yB,yC,yD]
 refine yT 12 (some 7) ?_ hS2 ?_ ?_
 rotate_left
 ·(intro w' hSw;go_simp;try with_reducible rfl)
 simp only [Act.put]
 refine wpAnyT_done (by kernel_rfl) ?_ _
 have HM1:=zh (HMA.out.trans hS2)
 clear hS0 hS1 hS2
 go_upto_region 2 with fail
 obtain ⟨wC,hwC⟩:∃ y,y=wA_5_7.drew:=⟨_,rfl⟩
 have HWC:=zh hwC
 have HM2:=zh (show Mod No w wC by rw [hwC];exact HM1.out.drew)
 have HKC:=zh (show wC.heap[g]? = some (.cells (bv S).toArray 47 (0,0)) by rw [hwC];exact (hmwA_5.drew).keep HKB.out (fun f=>f))
 have hS0:=Mod.refl No wC
 clear hwC
 refine wp_region_T (fun w'=>Mod No wC w') 99 (by kernel_rfl) ?_
 rw [<- HWC.out]
 refine yT 0 (some 19) ?_ hS0 ?_ ?_
 rotate_left
 ·(intro w' hSw;go_simp;try with_reducible rfl)
 simp only [Act.put,yB,yC,yD]
 refine yT 1 (some 20) ?_ hS0 ?_ ?_
 rotate_left
 ·(intro w' hSw;go_simp;try with_reducible rfl)
 simp only [Act.put,yB,yC,yD]
 refine yT 2 (some 21) ?_ hS0 ?_ ?_
 rotate_left
 ·(intro w' hSw;go_simp;try with_reducible rfl)
 simp only [Act.put,yB,yC,yD]
 refine yT 3 (some 22) ?_ hS0 ?_ ?_
 rotate_left
 ·(intro w' hSw;go_simp;try with_reducible rfl)
 simp only [Act.put,yB,yC,yD]
 refine yT 7 (some 26) (keyV S) hS0 ?_ ?_
 ·(intro w' hSw;apply yload hS (hSw.keep HKC.out (fun f=>f)) (.tmp 3) <;> rfl)
 simp only [Act.put,yB,yC,yD]
 refine wpAnyT_oneW 4 rfl (by kernel_rfl) (by rfl) ?_
 intro K hK
 obtain ⟨cc,wC_4,hcv,hsl,hmwC_4⟩:=HCV.out wC
 obtain ⟨gb,hgb⟩:∃ gb,gb=wC.heap.size:=⟨_,rfl⟩
 rw [<- hgb] at hcv hsl
 have HSL:=zh hsl
 clear hsl hgb
 go_simp
 show K _ _
 have hS1:=Mod.trans hS0 hmwC_4
 refine hK.out _ _ (fun _=>hS1) ?_
 clear hK K
 refine wpAnyT_oneW 5 rfl (by kernel_rfl) (by rfl) ?_
 intro K hK
 obtain ⟨ga,hga⟩:∃ ga,ga=wC_4.heap.size:=⟨_,rfl⟩
 obtain ⟨wC_4_5,hwC_4_5⟩:∃ y,y=wC_4.alloc (.cells #[.slice (some ⟨gb,0,none⟩) m cc] 41):=⟨_,rfl⟩
 have HGA:=zh (show wC_4_5.heap[ga]? = some (.cells #[.slice (some ⟨gb,0,none⟩) m cc] 41 (0,0)) by rw [hwC_4_5,hga];exact heap_alloc_new _ _)
 have hmwC_4_5:Mod No wC_4 wC_4_5:=by rw [hwC_4_5];exact (Mod.refl No _).alloc _
 have HSL2:=zh (HSL.out.kn hmwC_4_5)
 have HN5:=zh hwC_4_5
 have HGE:=zh hga
 clear hwC_4_5 hga hcv
 go_simp
 rw [<- HGE.out,<- HN5.out]
 show K _ _
 have hS2:=Mod.trans hS1 hmwC_4_5
 refine hK.out _ _ (fun _=>hS2) ?_
 clear hK K
 refine wpAnyT_oneW 6 rfl (by kernel_rfl) (by rfl) ?_
 intro K hK
 go_simp
 go_at_call 52
 with_reducible refine (HSU.out ga 1 _ wC_4_5 (cell_of (i:=0) HGA.out rfl) HSL2.out).mono ?_
 rintro e wC_4_5_6 ⟨rfl,hmwC_4_5_6⟩
 show K _ _
 have hS3:=Mod.trans hS2 hmwC_4_5_6
 refine hK.out _ _ (fun _=>hS3) ?_
 clear hK K
 refine wpAnyT_takeV 8 (some 27) (.bool (!decide (S=S))) rfl rfl (by kernel_rfl) (fun _ _ _ h=>h) hS3 (Or.inl ⟨by rfl,?_⟩) ?_
 ·(intro w' hSw;apply yne hS hS (.tmp 25) (.tmp 26) <;> rfl)
 simp only [Act.put,yB,yC,yD]
 refine yT 9 (some 28) ?_ hS3 ?_ ?_
 rotate_left
 ·(intro w' hSw;go_simp;try with_reducible rfl)
 simp only [Act.put]
 refine wpAnyT_done (by kernel_rfl) ?_ _
 have HM3:=zh (HM2.out.trans hS3)
 simp only [decide_true,Bool.not_true]
 clear hS0 hS1 hS2 hS3
 obtain ⟨c2,wE,hcv,hsl,hmE⟩:=HCV.out wC_4_5_6
 have HSE:=zh hsl
 have HME:=zh hmE
 clear hsl hmE
 go_wp2_with fail
 exact fin hR ⟨⟨_,rfl,HSE.out⟩,HM3.out.trans HME.out⟩
end Go.Proofs.YtmppeipgjcjdkaaGreatDoor
