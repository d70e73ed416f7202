/-
  Layers 0 to 14: helps of the laws of indexes. No statement is proved here; no condition.
-/
import Derived.Test.YtmppeipgjcjdkaaGreatDoorW07
import Derived.Test.YtmppeipgjcjdkaaGreatDoorW08
import Derived.Test.YtmppeipgjcjdkaaGreatDoorW25
import Derived.Test.YtmppeipgjcjdkaaGreatDoorW26
import Derived.Test.YtmppeipgjcjdkaaGreatDoorW05
import Derived.ChangeKeysEq
import Derived.Lib.ConvBytes
import Derived.Great.Walk
namespace Go.Proofs.YtmppeipgjcjdkaaGreatDoor
open _root_.Go.Proofs.Tryz
open Go.RowKit Go.Maps
theorem part_u8 {S:List UInt8} {i:Nat} (hi:i < S.length) (W:World):Sem.run prog (part 5 (bv S).toArray i) W=.ok (.int .u8 (bf S i)) W:=by
 have h4:(isAgg 5).run prog W=.ok false W:=by kernel_rfl
 have h3:(bv S).toArray[i]? = some (.int .u8 (bf S i)):=by rw [List.getElem?_toArray];exact bv_bf hi
 unfold part
 simp only [Sem.run_bind,h4,Result.andThen_ok,h3,Bool.false_eq_true,if_false,Sem.run_pure]
theorem eqItems_key {S T:List UInt8} (hS:S.length=32) (hT:T.length=32) (W:World):∀ is:List Nat,(∀ i ∈ is,i < 32) →
  (Op.eqItems 9999 5 1 (bv S).toArray (bv T).toArray is).run prog W=.ok (is.all fun i=>bf S i == bf T i) W
 | [],_=>by simp [Op.eqItems]
 | i :: is,h=>by
  have hi:=h i (by simp)
  simp only [Op.eqItems,Sem.run_bind,Nat.mul_one,part_u8 (show i < S.length by omega),part_u8 (show i < T.length by omega),Result.andThen_ok,run_equalIn_int W 9998 5 .u8 .u8 _ _ underlying5,List.all_cons]
  cases hb:(bf S i == bf T i)
  ·simp
  ·simp [eqItems_key hS hT W is fun j hj=>h j (by simp [hj])]
theorem bf_ext {S T:List UInt8} (hS:S.length=32) (hT:T.length=32) (h:∀ i,i < 32->bf S i=bf T i):S=T:=by
 apply List.ext_getElem (by omega)
 intro i h1 h2
 have h3:=h i (by omega)
 unfold bf at h3
 rw [List.getD_eq_getElem?_getD,List.getD_eq_getElem?_getD,List.getElem?_eq_getElem h1,List.getElem?_eq_getElem h2] at h3
 exact UInt8.toNat_inj.1 (Int.ofNat_inj.1 (by simpa using h3))
theorem eqAll_key {S T:List UInt8} (hS:S.length=32) (hT:T.length=32):((List.range 32).all fun i=>bf S i == bf T i)=decide (S=T):=by
 by_cases h:S=T
 ·subst h;simp
 ·rw [decide_eq_false h,List.all_eq_false]
  refine Classical.byContradiction fun hn=>h (bf_ext hS hT fun i hi=>?_)
  refine Classical.byContradiction fun hne=>hn ⟨i,List.mem_range.2 hi,by simpa using hne⟩
theorem run_ne_key {S T:List UInt8} (hS:S.length=32) (hT:T.length=32) (W:World):(binOp .neq 47 (keyV S) (keyV T)).run prog W=.ok (.bool (!decide (S=T))) W:=by
 obtain ⟨i0,hi,-⟩:=info_parts info_byte
 have hc:prog.cellsOf 5=1:=by kernel_rfl
 rw [run_neq_struct,run_equalIn_array W 9999 _ _ underlying47 hi,hc,eqItems_key hS hT W _ (fun i hi=>List.mem_range.1 hi),eqAll_key hS hT]
 rfl
theorem yload {w:World} {g:Nat} {t:TypeId} {S:List UInt8} {fr:Nat × Nat} {o:Oper} {ρ:Operand->Value} (hS:S.length=32) (hg:w.heap[g]? = some (.cells (bv S).toArray t fr)) (x:Operand) (ho:o.op=.load 47 x) (hx:ρ x=.pointer (some ⟨g,0,none⟩)) :
  (execOp ρ o).run prog w=.ok (.value (keyV S)) w:=by
 unfold execOp
 simp only [ho,hx,Instr.loadAt,Instr.sureAddr,Sem.run_bind,Sem.run_pure,Result.andThen_ok,run_loadVar_row w g t 47 (bv S).toArray fr _ hg underlying47 rfl (key_size hS)]
theorem key_guard:prog.eqGuardType prog.depth 47=false:=by kernel_rfl
theorem yne {w:World} {S T:List UInt8} {o:Oper} {ρ:Operand->Value} (hS:S.length=32) (hT:T.length=32) (x y:Operand) (rt:TypeId) (ho:o.op=.binOp .neq 47 x y rt) (hx:ρ x=keyV S) (hy:ρ y=keyV T) :
  (execOp ρ o).run prog w=.ok (.value (.bool (!decide (S=T)))) w:=by
 unfold execOp
 simp only [ho,hx,hy,Sem.run_bind,Sem.run_pure,run_eqGuard_agg w .neq 47 x y _ _ key_guard,Result.andThen_ok,run_ne_key hS hT]
theorem run_row_new {P:Program} {w:World} {t:TypeId} {c:Array Value} {vs:List Value} (ho:c.size=vs.length) (h1:∀ v ∈ vs,v.oneCell'=true) :
  Sem.run P (storeCells ⟨w.heap.size,0,none⟩ vs 0) (w.alloc (.cells c t))=.ok () ((w.alloc (.cells c t)).setRow w.heap.size vs.toArray):=run_row (heap_alloc_new w _) ho h1
def CaObj (w:World) (cb s:Nat):Prop:=w.heap[cb]? = some (.cells #[.pointer (some ⟨s,0,none⟩)] 120 (0,0))
set_option maxRecDepth 100000 in
theorem cnew_any (s:Nat) (w:World) :
  Calls prog 18 #[.pointer (some ⟨s,0,none⟩)] w fun e w'=>e=.returned (.pointer (some ⟨w.heap.size,0,none⟩))/\CaObj w' w.heap.size s/\Mod No w w'/\w.heap.size < w'.heap.size:=by
 refine calls_hide fun R hR=>?_
 go_enter func18,ntmps18
 go_wp2_with fail
 exact fin hR ⟨rfl,heap_alloc_new w _,(Mod.refl No w).alloc _,by simp⟩
def nC (S:List UInt8):List UInt8:=99 :: 47 :: hexL S
def nP (S:List UInt8):List UInt8:=112 :: 47 :: hexL S
theorem cat_c (H:List UInt8):(⟨#[99,47]⟩:ByteArray) ++ ⟨H.toArray⟩=⟨(99 :: 47 :: H).toArray⟩:=by
 apply ByteArray.ext
 rw [ByteArray.data_append]
 simp
theorem cat_p (H:List UInt8):(⟨#[112,47]⟩:ByteArray) ++ ⟨H.toArray⟩=⟨(112 :: 47 :: H).toArray⟩:=by
 apply ByteArray.ext
 rw [ByteArray.data_append]
 simp
theorem nC_length {S:List UInt8} (h:S.length=32):(nC S).length=66:=by simp [nC,hexL_length,h]
theorem nP_length {S:List UInt8} (h:S.length=32):(nP S).length=66:=by simp [nP,hexL_length,h]
set_option maxRecDepth 100000 in
set_option maxHeartbeats 4000000 in
theorem cget_none {w0 w:World} {N sz b s n cnt cb:Nat} {O:Nat->Prop} {M:Mt} (h:Sto w0 w N sz b s O n M cnt) (hc:CaObj w cb s) (S:List UInt8) (hS:S.length=32) (hM:M (nC S)=none) :
  Calls prog 54 #[.pointer (some ⟨cb,0,none⟩),keyV S] w fun e w'=>e=.returned (.tuple #[.slice none 0 0,.bool false])/\Mod No w w':=by
 refine calls_hide fun R hR=>?_
 have H:=zh h
 have HC0:=zh hc
 have HH:=zh (hex_any S hS)
 obtain ⟨NC,hNC⟩:∃ z:ByteArray,z=⟨(nC S).toArray⟩:=⟨_,rfl⟩
 have HG0:=zh (show ∀ w',Mod No w w'->Calls prog 21 #[.pointer (some ⟨s,0,none⟩),.string NC] w' fun e w''=>e=.returned (.tuple #[.string ⟨#[]⟩,.bool false])/\w''=w' from fun w' hm=>by
  have h1:=(h.stay hm).get (nC S) (by rw [nC_length hS];decide)
  unfold getV at h1
  rw [hM] at h1
  rw [hNC]
  exact h1)
 have ECAT:=zh (show (⟨#[99,47]⟩:ByteArray) ++ ⟨(hexL S).toArray⟩=NC by rw [hNC];exact cat_c _)
 have hHX:(⟨(hexL S).toArray⟩:ByteArray).size=64:=by rw [str_size_list,hexL_length,hS]
 generalize (⟨(hexL S).toArray⟩:ByteArray)=HX at *
 clear h hc hNC hM
 go_enter func54,ntmps54
 go_upto_region 1 with fail
 obtain ⟨g,hg⟩:∃ g,g=w.heap.size:=⟨_,rfl⟩
 rw [<- hg]
 obtain ⟨wA,hwA⟩:∃ y,y=(w.alloc (.cells (bv S).toArray 47)).drew:=⟨_,rfl⟩
 have HMA:=zh (show Mod No w wA by rw [hwA];exact ((Mod.refl No w).alloc _).drew)
 have HKB:=zh (show wA.heap[g]? = some (.cells (bv S).toArray 47 (0,0)) by rw [hwA,hg];exact heap_alloc_new w _)
 have HC:=zh (HMA.out.keep HC0.out (fun f=>f))
 have HG:=zh (fun w' (hm:Mod No wA w')=>HG0.out w' (HMA.out.trans hm))
 have HWA:=zh hwA
 have hS0:=Mod.refl No wA
 clear hwA hg HG0
 refine wp_region_T (fun w'=>Mod No wA w') 99 (by kernel_rfl) ?_
 rw [<- HWA.out]
 refine yT 0 (some 9) ?_ hS0 ?_ ?_
 rotate_left
 ·(intro w' hSw;go_simp;try with_reducible rfl)
 simp only [Act.put,yB,yC,yD]
 refine yT 1 (some 10) ?_ hS0 ?_ ?_
 rotate_left
 ·(intro w' hSw;go_simp;try with_reducible rfl)
 simp only [Act.put,yB,yC,yD]
 refine yT 2 (some 11) ?_ hS0 ?_ ?_
 rotate_left
 ·(intro w' hSw;go_simp;try with_reducible rfl)
 simp only [Act.put,yB,yC,yD]
 refine yT 3 (some 12) ?_ hS0 ?_ ?_
 rotate_left
 ·(intro w' hSw;have cc:=cell_of (i:=0) (hSw.keep HC.out (fun f=>f)) rfl;go_simp;try with_reducible rfl)
 simp only [Act.put,yB,yC,yD]
 refine yT 4 (some 13) (keyV S) hS0 ?_ ?_
 ·(intro w' hSw;apply yload hS (hSw.keep HKB.out (fun f=>f)) (.tmp 3) <;> rfl)
 simp only [Act.put,yB,yC,yD]
 refine wpAnyT_one 5 rfl (by kernel_rfl) rfl ?_
 intro K hK
 go_simp
 go_at_call 53
 with_reducible refine (HH.out _).mono ?_
 rintro e wA_5 ⟨rfl,hmwA_5⟩
 show K _ _
 have hS1:=Mod.trans hS0 hmwA_5
 refine hK.out _ _ (fun _=>hS1) ?_
 clear hK K
 refine yT 6 (some 15) (.string NC) hS1 ?_ ?_
 ·(intro w' hSw;go_simp;exact ECAT.out)
 simp only [Act.put,yB,yC,yD]
 refine wpAnyT_one 7 rfl (by kernel_rfl) rfl ?_
 intro K hK
 go_simp
 go_at_call 21
 with_reducible refine (HG.out _ hS1).mono ?_
 rintro e wA_5_7 ⟨rfl,hwA_5_7⟩
 subst hwA_5_7
 show K _ _
 have hS2:=hS1
 refine hK.out _ _ (fun _=>hS2) ?_
 clear hK K
 refine yT 8 (some 8) ?_ hS2 ?_ ?_
 rotate_left
 ·(intro w' hSw;go_simp;try with_reducible rfl)
 simp only [Act.put,yB,yC,yD]
 refine yT 9 (some 17) ?_ hS2 ?_ ?_
 rotate_left
 ·(intro w' hSw;go_simp;try with_reducible rfl)
 simp only [Act.put,yB,yC,yD]
 refine yT 10 (some 18) ?_ hS2 ?_ ?_
 rotate_left
 ·(intro w' hSw;go_simp;try with_reducible rfl)
 simp only [Act.put,yB,yC,yD]
 refine yT 11 (some 6) ?_ hS2 ?_ ?_
 rotate_left
 ·(intro w' hSw;go_simp;try with_reducible rfl)
 simp only [Act.put,yB,yC,yD]
 refine yT 12 (some 7) ?_ hS2 ?_ ?_
 rotate_left
 ·(intro w' hSw;go_simp;try with_reducible rfl)
 simp only [Act.put]
 refine wpAnyT_done (by kernel_rfl) ?_ _
 have HM1:=zh (HMA.out.trans hS2)
 clear hS0 hS1 hS2
 go_upto_region 2 with fail
 obtain ⟨wC,hwC⟩:∃ y,y=wA_5_7.drew:=⟨_,rfl⟩
 have HWC:=zh hwC
 have HM2:=zh (show Mod No w wC by rw [hwC];exact HM1.out.drew)
 have hS0:True:=trivial
 clear hwC
 refine wp_region_T (fun _=>True) 99 (by kernel_rfl) ?_
 rw [<- HWC.out]
 refine yT 0 (some 19) ?_ hS0 ?_ ?_
 rotate_left
 ·(intro w' hSw;go_simp;try with_reducible rfl)
 simp only [Act.put,yB,yC,yD]
 refine yT 1 (some 20) ?_ hS0 ?_ ?_
 rotate_left
 ·(intro w' hSw;go_simp;try with_reducible rfl)
 simp only [Act.put,yB,yC,yD]
 refine yT 2 (some 21) ?_ hS0 ?_ ?_
 rotate_left
 ·(intro w' hSw;go_simp;try with_reducible rfl)
 simp only [Act.put,yB,yC,yD]
 refine wpAnyT_takeV 3 (some 22) undef rfl rfl (by kernel_rfl) (fun _ _ _ h=>h) hS0 (Or.inr ⟨by rfl,rfl⟩) ?_
 simp only [Act.put,yB,yC,yD]
 refine wpAnyT_takeV 4 (some 23) undef rfl rfl (by kernel_rfl) (fun _ _ _ h=>h) hS0 (Or.inr ⟨by rfl,rfl⟩) ?_
 simp only [Act.put,yB,yC,yD]
 refine wpAnyT_takeV 5 (some 24) undef rfl rfl (by kernel_rfl) (fun _ _ _ h=>h) hS0 (Or.inr ⟨by rfl,rfl⟩) ?_
 simp only [Act.put,yB,yC,yD]
 refine wpAnyT_takeV 6 (some 25) undef rfl rfl (by kernel_rfl) (fun _ _ _ h=>h) hS0 (Or.inr ⟨by rfl,rfl⟩) ?_
 simp only [Act.put,yB,yC,yD]
 refine wpAnyT_takeV 7 (some 26) undef rfl rfl (by kernel_rfl) (fun _ _ _ h=>h) hS0 (Or.inr ⟨by rfl,rfl⟩) ?_
 simp only [Act.put,yB,yC,yD]
 refine wpAnyT_takeV 8 (some 27) undef rfl rfl (by kernel_rfl) (fun _ _ _ h=>h) hS0 (Or.inr ⟨by rfl,rfl⟩) ?_
 simp only [Act.put,yB,yC,yD]
 refine yT 9 (some 28) ?_ hS0 ?_ ?_
 rotate_left
 ·(intro w' hSw;go_simp;try with_reducible rfl)
 simp only [Act.put]
 refine wpAnyT_done (by kernel_rfl) ?_ _
 go_wp2_with fail
 exact fin hR ⟨rfl,HM2.out⟩
set_option maxRecDepth 100000 in
set_option maxHeartbeats 4000000 in
theorem cget_some {w0 w:World} {N sz b s n cnt cb:Nat} {O:Nat->Prop} {M:Mt} (h:Sto w0 w N sz b s O n M cnt) (hc:CaObj w cb s) (S l:List UInt8) (hS:S.length=32) (hl:l.length<=100000) (hsum:sumF l=S) (hM:M (nC S)=some l) :
  Calls prog 54 #[.pointer (some ⟨cb,0,none⟩),keyV S] w fun e w'=>(∃ v,e=.returned (.tuple #[v,.bool true])/\Sl w' No 5 v l.length (bv l))/\Mod No w w':=by
 refine calls_hide fun R hR=>?_
 have H:=zh h
 have HC0:=zh hc
 have HH:=zh (hex_any S hS)
 obtain ⟨NC,hNC⟩:∃ z:ByteArray,z=⟨(nC S).toArray⟩:=⟨_,rfl⟩
 obtain ⟨LL,hLL⟩:∃ z:ByteArray,z=⟨l.toArray⟩:=⟨_,rfl⟩
 have HG0:=zh (show ∀ w',Mod No w w'->Calls prog 21 #[.pointer (some ⟨s,0,none⟩),.string NC] w' fun e w''=>e=.returned (.tuple #[.string LL,.bool true])/\w''=w' from fun w' hm=>by
  have h1:=(h.stay hm).get (nC S) (by rw [nC_length hS];decide)
  unfold getV at h1
  rw [hM] at h1
  rw [hNC,hLL]
  exact h1)
 have ECAT:=zh (show (⟨#[99,47]⟩:ByteArray) ++ ⟨(hexL S).toArray⟩=NC by rw [hNC];exact cat_c _)
 have HCV:=zh (show ∀ W,∃ c W',(convert 9 41 (.string LL)).run prog W=.ok (.slice (some ⟨W.heap.size,0,none⟩) l.length c) W'/\Sl W' No 5 (.slice (some ⟨W.heap.size,0,none⟩) l.length c) l.length (bv l)/\Mod No W W' from fun W=>by rw [hLL];exact bytes_of_str W l (by omega))
 have HSU:=zh (show ∀ (pb pc:Nat) (V:Value) (W:World),W.cell? ⟨pb,0,none⟩=some V->Sl W No 5 V l.length (bv l)->Calls prog 52 #[.slice (some ⟨pb,0,none⟩) 1 pc] W fun e w'=>e=.returned (keyV S)/\Mod No W w' from fun pb pc V W h1 h2=>by
  have h3:=sum_any l pb 0 pc V W (by omega) h1 (SvX.of h2)
  rw [hsum] at h3
  exact h3)
 have hHX:(⟨(hexL S).toArray⟩:ByteArray).size=64:=by rw [str_size_list,hexL_length,hS]
 generalize (⟨(hexL S).toArray⟩:ByteArray)=HX at *
 obtain ⟨m,hm⟩:∃ m,m=l.length:=⟨_,rfl⟩
 rw [<- hm] at HCV HSU hR
 have HLM:=zh hm
 clear h hc hNC hM hLL hm hl hsum
 go_enter func54,ntmps54
 go_upto_region 1 with fail
 obtain ⟨g,hg⟩:∃ g,g=w.heap.size:=⟨_,rfl⟩
 rw [<- hg]
 obtain ⟨wA,hwA⟩:∃ y,y=(w.alloc (.cells (bv S).toArray 47)).drew:=⟨_,rfl⟩
 have HMA:=zh (show Mod No w wA by rw [hwA];exact ((Mod.refl No w).alloc _).drew)
 have HKB:=zh (show wA.heap[g]? = some (.cells (bv S).toArray 47 (0,0)) by rw [hwA,hg];exact heap_alloc_new w _)
 have HC:=zh (HMA.out.keep HC0.out (fun f=>f))
 have HG:=zh (fun w' (hm:Mod No wA w')=>HG0.out w' (HMA.out.trans hm))
 have HWA:=zh hwA
 have hS0:=Mod.refl No wA
 clear hwA hg HG0
 refine wp_region_T (fun w'=>Mod No wA w') 99 (by kernel_rfl) ?_
 rw [<- HWA.out]
 refine yT 0 (some 9) ?_ hS0 ?_ ?_
 rotate_left
 ·(intro w' hSw;go_simp;try with_reducible rfl)
 simp only [Act.put,yB,yC,yD]
 refine yT 1 (some 10) ?_ hS0 ?_ ?_
 rotate_left
 ·(intro w' hSw;go_simp;try with_reducible rfl)
 simp only [Act.put,yB,yC,yD]
 refine yT 2 (some 11) ?_ hS0 ?_ ?_
 rotate_left
 ·(intro w' hSw;go_simp;try with_reducible rfl)
 simp only [Act.put,yB,yC,yD]
 refine yT 3 (some 12) ?_ hS0 ?_ ?_
 rotate_left
 ·(intro w' hSw;have cc:=cell_of (i:=0) (hSw.keep HC.out (fun f=>f)) rfl;go_simp;try with_reducible rfl)
 simp only [Act.put,yB,yC,yD]
 refine yT 4 (some 13) (keyV S) hS0 ?_ ?_
 ·(intro w' hSw;apply yload hS (hSw.keep HKB.out (fun f=>f)) (.tmp 3) <;> rfl)
 simp only [Act.put,yB,yC,yD]
 refine wpAnyT_one 5 rfl (by kernel_rfl) rfl ?_
 intro K hK
 go_simp
 go_at_call 53
 with_reducible refine (HH.out _).mono ?_
 rintro e wA_5 ⟨rfl,hmwA_5⟩
 show K _ _
 have hS1:=Mod.trans hS0 hmwA_5
 refine hK.out _ _ (fun _=>hS1) ?_
 clear hK K
 refine yT 6 (some 15) (.string NC) hS1 ?_ ?_
 ·(intro w' hSw;go_simp;exact ECAT.out)
 simp only [Act.put,yB,yC,yD]
 refine wpAnyT_one 7 rfl (by kernel_rfl) rfl ?_
 intro K hK
 go_simp
 go_at_call 21
 with_reducible refine (HG.out _ hS1).mono ?_
 rintro e wA_5_7 ⟨rfl,hwA_5_7⟩
 subst hwA_5_7
 show K _ _
 have hS2:=hS1
 refine hK.out _ _ (fun _=>hS2) ?_
 clear hK K
 refine yT 8 (some 8) ?_ hS2 ?_ ?_
 rotate_left
 ·(intro w' hSw;go_simp;try with_reducible rfl)
 simp only [Act.put,yB,yC,yD]
 refine yT 9 (some 17) ?_ hS2 ?_ ?_
 rotate_left
 ·(intro w' hSw;go_simp;try with_reducible rfl)
 simp only [Act.put,yB,yC,yD]
 refine yT 10 (some 18) ?_ hS2 ?_ ?_
 rotate_left
 ·(intro w' hSw;go_simp;try with_reducible rfl)
 simp only [Act.put,yB,yC,yD]
 refine yT 11 (some 6) ?_ hS2 ?_ ?_
 rotate_left
 ·(intro w' hSw;go_simp;try with_reducible rfl)
 simp only [Act.put,yB,yC,yD]
 refine yT 12 (some 7) ?_ hS2 ?_ ?_
 rotate_left
 ·(intro w' hSw;go_simp;try with_reducible rfl)
 simp only [Act.put]
 refine wpAnyT_done (by kernel_rfl) ?_ _
 have HM1:=zh (HMA.out.trans hS2)
 clear hS0 hS1 hS2
 go_upto_region 2 with fail
 obtain ⟨wC,hwC⟩:∃ y,y=wA_5_7.drew:=⟨_,rfl⟩
 have HWC:=zh hwC
 have HM2:=zh (show Mod No w wC by rw [hwC];exact HM1.out.drew)
 have HKC:=zh (show wC.heap[g]? = some (.cells (bv S).toArray 47 (0,0)) by rw [hwC];exact (hmwA_5.drew).keep HKB.out (fun f=>f))
 have hS0:=Mod.refl No wC
 clear hwC
 refine wp_region_T (fun w'=>Mod No wC w') 99 (by kernel_rfl) ?_
 rw [<- HWC.out]
 refine yT 0 (some 19) ?_ hS0 ?_ ?_
 rotate_left
 ·(intro w' hSw;go_simp;try with_reducible rfl)
 simp only [Act.put,yB,yC,yD]
 refine yT 1 (some 20) ?_ hS0 ?_ ?_
 rotate_left
 ·(intro w' hSw;go_simp;try with_reducible rfl)
 simp only [Act.put,yB,yC,yD]
 refine yT 2 (some 21) ?_ hS0 ?_ ?_
 rotate_left
 ·(intro w' hSw;go_simp;try with_reducible rfl)
 simp only [Act.put,yB,yC,yD]
 refine yT 3 (some 22) ?_ hS0 ?_ ?_
 rotate_left
 ·(intro w' hSw;go_simp;try with_reducible rfl)
 simp only [Act.put,yB,yC,yD]
 refine yT 7 (some 26) (keyV S) hS0 ?_ ?_
 ·(intro w' hSw;apply yload hS (hSw.keep HKC.out (fun f=>f)) (.tmp 3) <;> rfl)
 simp only [Act.put,yB,yC,yD]
 refine wpAnyT_oneW 4 rfl (by kernel_rfl) (by rfl) ?_
 intro K hK
 obtain ⟨cc,wC_4,hcv,hsl,hmwC_4⟩:=HCV.out wC
 obtain ⟨gb,hgb⟩:∃ gb,gb=wC.heap.size:=⟨_,rfl⟩
 rw [<- hgb] at hcv hsl
 have HSL:=zh hsl
 clear hsl hgb
 go_simp
 show K _ _
 have hS1:=Mod.trans hS0 hmwC_4
 refine hK.out _ _ (fun _=>hS1) ?_
 clear hK K
 refine wpAnyT_oneW 5 rfl (by kernel_rfl) (by rfl) ?_
 intro K hK
 obtain ⟨ga,hga⟩:∃ ga,ga=wC_4.heap.size:=⟨_,rfl⟩
 obtain ⟨wC_4_5,hwC_4_5⟩:∃ y,y=wC_4.alloc (.cells #[.slice (some ⟨gb,0,none⟩) m cc] 41):=⟨_,rfl⟩
 have HGA:=zh (show wC_4_5.heap[ga]? = some (.cells #[.slice (some ⟨gb,0,none⟩) m cc] 41 (0,0)) by rw [hwC_4_5,hga];exact heap_alloc_new _ _)
 have hmwC_4_5:Mod No wC_4 wC_4_5:=by rw [hwC_4_5];exact (Mod.refl No _).alloc _
 have HSL2:=zh (HSL.out.kn hmwC_4_5)
 have HN5:=zh hwC_4_5
 have HGE:=zh hga
 clear hwC_4_5 hga hcv
 go_simp
 rw [<- HGE.out,<- HN5.out]
 show K _ _
 have hS2:=Mod.trans hS1 hmwC_4_5
 refine hK.out _ _ (fun _=>hS2) ?_
 clear hK K
 refine wpAnyT_oneW 6 rfl (by kernel_rfl) (by rfl) ?_
 intro K hK
 go_simp
 go_at_call 52
 with_reducible refine (HSU.out ga 1 _ wC_4_5 (cell_of (i:=0) HGA.out rfl) HSL2.out).mono ?_
 rintro e wC_4_5_6 ⟨rfl,hmwC_4_5_6⟩
 show K _ _
 have hS3:=Mod.trans hS2 hmwC_4_5_6
 refine hK.out _ _ (fun _=>hS3) ?_
 clear hK K
 refine wpAnyT_takeV 8 (some 27) (.bool (!decide (S=S))) rfl rfl (by kernel_rfl) (fun _ _ _ h=>h) hS3 (Or.inl ⟨by rfl,?_⟩) ?_
 ·(intro w' hSw;apply yne hS hS (.tmp 25) (.tmp 26) <;> rfl)
 simp only [Act.put,yB,yC,yD]
 refine yT 9 (some 28) ?_ hS3 ?_ ?_
 rotate_left
 ·(intro w' hSw;go_simp;try with_reducible rfl)
 simp only [Act.put]
 refine wpAnyT_done (by kernel_rfl) ?_ _
 have HM3:=zh (HM2.out.trans hS3)
 simp only [decide_true,Bool.not_true]
 clear hS0 hS1 hS2 hS3
 obtain ⟨c2,wE,hcv,hsl,hmE⟩:=HCV.out wC_4_5_6
 have HSE:=zh hsl
 have HME:=zh hmE
 clear hsl hmE
 go_wp2_with fail
 exact fin hR ⟨⟨_,rfl,HSE.out⟩,HM3.out.trans HME.out⟩
theorem prs_pair {w:World} {g:Nat} {p q:Pr} (hg:w.heap[g]? = some (.cells #[.string ⟨p.key.toArray⟩,.string ⟨p.value.toArray⟩,.bool p.gone,.string ⟨q.key.toArray⟩,.string ⟨q.value.toArray⟩,.bool q.gone] 33 (0,0))):Prs w No (some ⟨g,0,none⟩) [p,q] :=
 ⟨fun i hi=>by
  have hi2:i < 2:=hi
  match i,hi2 with
  | 0,_=>exact ⟨g,0,rfl,fun f=>f,cell_of (i:=0) hg rfl,cell_of (i:=1) hg rfl,cell_of (i:=2) hg rfl⟩
  | 1,_=>exact ⟨g,0,rfl,fun f=>f,cell_of (i:=3) hg rfl,cell_of (i:=4) hg rfl,cell_of (i:=5) hg rfl⟩⟩
set_option maxRecDepth 100000 in
set_option maxHeartbeats 4000000 in
theorem cput_new {w0 w:World} {N sz b s n cnt cb:Nat} {O:Nat->Prop} {M:Mt} (h:Sto w0 w N sz b s O n M cnt) (hc:CaObj w cb s) (hco:¬ O cb) (l:List UInt8) (V:Value) (hV:SvX w O V l.length (bv l)) (hl:l.length<=100000) (hM0:M (nC (sumF l))=none)
  (hM:MidM (M.changes [⟨nC (sumF l),l,false⟩,⟨nP (sumF l),[],true⟩])) (hfit:Fits N sz (M.changes [⟨nC (sumF l),l,false⟩,⟨nP (sumF l),[],true⟩])) (hnn:n+2<=100000) (hcnt:cnt<=1000000000) :
  Calls prog 19 #[.pointer (some ⟨cb,0,none⟩),V] w fun e w'=>e=.returned (.tuple #[keyV (sumF l),.int .i64 0])/\(∃ O',Sto w0 w' N sz b s O' (n+2) (M.changes [⟨nC (sumF l),l,false⟩,⟨nP (sumF l),[],true⟩]) (cnt+1)/\∀ q,q < w.heap.size->O' q->O q)/\CaObj w' cb s/\Mod O w w':=by
 obtain ⟨O1,h1,hO1,hbytes⟩:=h.tight
 obtain ⟨va,vc,rfl⟩:=hV.len
 refine calls_hide fun R hR=>?_
 have hS:=sumF_length l
 obtain ⟨S,hSe⟩:∃ S,S=sumF l:=⟨_,rfl⟩
 rw [<- hSe] at hS hM hfit hR hM0
 have HV:=zh (hV.shrink (Y:=O1) (fun k _ h=>hO1 k h))
 have HC0:=zh hc
 have HCO:=zh (show ¬ O1 cb from fun f=>hco (hO1 cb f))
 have HO1:=zh hO1
 have HHI:=zh h1.high
 have HW0:=zh h.mod.size
 have HH:=zh (hex_any S hS)
 have HSU:=zh (show ∀ W ga pc,W.heap[ga]? = some (.cells #[.slice va l.length vc] 41 (0,0))->SvX W O1 (.slice va l.length vc) l.length (bv l)->Calls prog 52 #[.slice (some ⟨ga,0,none⟩) 1 pc] W fun e w'=>e=.returned (keyV S)/\Mod No W w' from fun W ga pc hga hsl=>by
  rw [hSe]
  exact sum_any l ga 0 pc _ W (by omega) (cell_of (i:=0) hga rfl) (hsl.shrink (fun _ _ f=>f.elim)))
 have HGT:=zh (fun W (hm:Mod No w W)=>cget_none (h1.stay hm) (hm.keep hc (fun f=>f)) S hS hM0)
 obtain ⟨NC,hNC⟩:∃ z:ByteArray,z=⟨(nC S).toArray⟩:=⟨_,rfl⟩
 obtain ⟨NP,hNP⟩:∃ z:ByteArray,z=⟨(nP S).toArray⟩:=⟨_,rfl⟩
 obtain ⟨VV,hVV⟩:∃ z:ByteArray,z=⟨l.toArray⟩:=⟨_,rfl⟩
 have HAP0:=zh (show ∀ w' ga,Mod No w w'->w'.heap[ga]? = some (.cells #[.string NC,.string VV,.bool false,.string NP,.string ⟨#[]⟩,.bool true] 33 (0,0))->Calls prog 11 #[.pointer (some ⟨s,0,none⟩),.slice (some ⟨ga,0,none⟩) 2 2] w' fun e w''=>e=.returned (.int .i64 0)/\(∃ O',Sto w0 w'' N sz b s O' (n+2) (M.changes [⟨nC S,l,false⟩,⟨nP S,[],true⟩]) (cnt+1)/\∀ q,q < w'.heap.size->O' q->O1 q)/\Mod O1 w' w'' from fun w' ga hm hga=>by
  rw [hNC,hNP,hVV] at hga
  have hp:Prs w' No (some ⟨ga,0,none⟩) [⟨nC S,l,false⟩,⟨nP S,[],true⟩]:=prs_pair (p:=⟨nC S,l,false⟩) (q:=⟨nP S,[],true⟩) hga
  refine ((h1.stay hm).apply (c:=2) hp (fun p hp=>by
   simp at hp
   rcases hp with rfl | rfl
   ·exact ⟨by show (nC S).length<=_;rw [nC_length hS];decide,by show l.length<=_;omega⟩
   ·exact ⟨by show (nP S).length<=_;rw [nP_length hS];decide,by show 0<=500000;decide⟩) hM hfit (by show 2<=10000;decide) hnn hcnt).mono ?_
  rintro e w'' ⟨rfl,O',h1,h2,h3⟩
  exact ⟨rfl,⟨O',h1,h2⟩,h3⟩)
 have ECAT:=zh (show (⟨#[99,47]⟩:ByteArray) ++ ⟨(hexL S).toArray⟩=NC by rw [hNC];exact cat_c _)
 have ECAP:=zh (show (⟨#[112,47]⟩:ByteArray) ++ ⟨(hexL S).toArray⟩=NP by rw [hNP];exact cat_p _)
 have HCV:=zh (show ∀ (v:Value) (W:World),SvX W O1 v l.length (bv l)->(convert 41 9 v).run prog W=.ok (.string VV) W from fun v W hsl=>by rw [hVV];exact string_sv (hsl.shrink (fun _ _ f=>f.elim)) underlying41 underlying5 underlying9)
 have HKP0:=zh (show ∀ (v:Value) (w' w'':World),Mod No w w'->Mod O1 w' w''->SvX w' O1 v l.length (bv l)->SvX w'' O1 v l.length (bv l) from fun v w' w'' hm hm2 hsl=>hsl.keep hm2 (fun q _ _ hq hx=>hx hq))
 have hHX:(⟨(hexL S).toArray⟩:ByteArray).size=64:=by rw [str_size_list,hexL_length,hS]
 generalize (⟨(hexL S).toArray⟩:ByteArray)=HX at *
 have HSE:=zh hSe
 obtain ⟨m,hm⟩:∃ m,m=l.length:=⟨_,rfl⟩
 rw [<- hm] at HSU HV HCV HKP0
 rw [<- hm]
 clear h h1 hc hco hNC hNP hVV hM hfit hO1 hbytes hV hM0 hSe hm
 go_enter func19,ntmps19
 go_upto_region 1 with fail
 obtain ⟨rb,hrb⟩:∃ g,g=w.heap.size:=⟨_,rfl⟩
 rw [<- hrb]
 generalize hw1:World.alloc w _=w1
 have HM1:=zh (show Mod No w w1 by rw [<- hw1];exact (Mod.refl No w).alloc _)
 have HR1:=zh (show w1.heap[rb]? = some (.cells (bv (keyN S 0)).toArray 47 (0,0)) by rw [<- hw1,hrb];exact heap_alloc_new w _)
 have HRB:=zh hrb
 have HS1:=zh (show w.heap.size < w1.heap.size by rw [<- hw1];simp)
 clear hw1 hrb
 go_wp2_with fail
 refine (HSU.out (w1.alloc (.cells #[.slice va m vc] 41)) w1.heap.size 1 (heap_alloc_new w1 _) (HV.out.kn (HM1.out.alloc _))).mono ?_
 rintro e w2 ⟨rfl,hm2⟩
 have HM2:=zh ((HM1.out.alloc (.cells #[.slice va m vc] 41)).trans hm2)
 have HR2:=zh (hm2.keep (((Mod.refl No w1).alloc _).keep HR1.out (fun f=>f)) (fun f=>f))
 have HS2:=zh (show w.heap.size < w2.heap.size from Nat.lt_of_lt_of_le (Nat.lt_of_lt_of_le HS1.out (((Mod.refl No w1).alloc (.cells #[.slice va m vc] 41)).size)) hm2.size)
 clear hm2 HM1 HR1 HS1 HSU
 go_wp2_with fail
 rw [run_row_new (by simp [hS]) (bv_one _)]
 obtain ⟨kb,hkb⟩:∃ kb,kb=w2.heap.size:=⟨_,rfl⟩
 rw [<- hkb]
 generalize hw3:World.setRow _ kb (bv S).toArray=w3
 have HK3:=zh (show w3.heap[kb]? = some (.cells (bv S).toArray 47 (0,0)) by rw [<- hw3,hkb];exact setRow_heap _ _ _ _ _ _ (heap_alloc_new w2 _))
 have hm3:Mod No w2 w3:=by rw [<- hw3];exact ((Mod.refl No w2).alloc _).setRow (fun e=>by omega) _
 have HM3:=zh (HM2.out.trans hm3)
 have HR3:=zh (hm3.keep HR2.out (fun f=>f))
 have HKB:=zh (show w.heap.size < kb by rw [hkb];exact HS2.out)
 clear hw3 hm3 hkb HM2 HR2 HS2
 go_upto_region 2 with fail
 refine wp_region_lit ?_
 refine wpList_load_row rfl 47 _ rfl kb rfl 47 (bv S).toArray (0,0) _ HK3.out underlying47 rfl (key_size hS) ?_
 go_wp2_with fail
 refine (HH.out _).mono ?_
 rintro e w4 ⟨rfl,hm4⟩
 have HM4:=zh (HM3.out.trans hm4)
 have HR4:=zh (hm4.keep HR3.out (fun f=>f))
 have HK4:=zh (hm4.keep HK3.out (fun f=>f))
 clear hm4 HM3 HR3 HK3 HH
 go_upto_region 3 with fail
 refine wp_region_lit ?_
 refine Great.wpList_runTo rfl (some 17) rfl (.pointer (some ⟨cb,0,none⟩)) _ rfl ?_
 refine wpList_load_row rfl 47 _ rfl kb rfl 47 (bv S).toArray (0,0) _ HK4.out underlying47 rfl (key_size hS) ?_
 go_wp2_with fail
 refine (HGT.out _ HM4.out).mono ?_
 rintro e w5 ⟨rfl,hm5⟩
 have HM5:=zh (HM4.out.trans hm5)
 have HR5:=zh (hm5.keep HR4.out (fun f=>f))
 have HK5:=zh (hm5.keep HK4.out (fun f=>f))
 have HSV:=zh (by have h9:=HV.out.kn HM5.out;exact h9)
 obtain ⟨V,hVe⟩:∃ V,V=Value.slice va m vc:=⟨_,rfl⟩
 rw [<- hVe] at HSV
 clear hm5 HM4 HR4 HK4 HGT
 go_upto_region 6 with fail
 rw [<- hVe]
 clear hVe
 obtain ⟨wA,hwA⟩:∃ y,y=w5.drew:=⟨_,rfl⟩
 have hmA:Mod No w5 wA:=by rw [hwA];exact (Mod.refl No w5).drew
 have HMA:=zh (HM5.out.trans hmA)
 have HKA:=zh (hmA.keep HK5.out (fun f=>f))
 have HRA:=zh (hmA.keep HR5.out (fun f=>f))
 have HKO:=zh (show ¬ O1 kb/\¬ O1 rb from ⟨fun f=>by have:=HHI.out kb f;have:=HKB.out;omega,fun f=>by have:=HHI.out rb f;have:=HRB.out;omega⟩)
 have HC:=zh (HMA.out.keep HC0.out (fun f=>f))
 have HAP:=zh (fun w' ga (hm:Mod No wA w')=>HAP0.out w' ga (HMA.out.trans hm))
 have HKP:=zh (fun w' w'' (hm:Mod No wA w')=>HKP0.out V w' w'' (HMA.out.trans hm))
 have HCV:=zh (HCV.out V)
 have HWA:=zh hwA
 have hS0:=And.intro (Mod.refl O1 wA) (HSV.out.kn hmA)
 clear hwA hmA HAP0 HKP0 HM5 HK5 HR5 HSV HV
 refine wp_region_T (fun w'=>Mod O1 wA w'/\SvX w' O1 V m (bv l)) 99 (by kernel_rfl) ?_
 rw [<- HWA.out]
 refine yT 0 (some 24) ?_ hS0 ?_ ?_
 rotate_left
 ·(intro w' hSw;go_simp;try with_reducible rfl)
 simp only [Act.put,yB,yC,yD]
 refine yT 1 (some 25) ?_ hS0 ?_ ?_
 rotate_left
 ·(intro w' hSw;go_simp;try with_reducible rfl)
 simp only [Act.put,yB,yC,yD]
 refine yT 2 (some 26) ?_ hS0 ?_ ?_
 rotate_left
 ·(intro w' hSw;go_simp;try with_reducible rfl)
 simp only [Act.put,yB,yC,yD]
 refine yT 3 (some 27) ?_ hS0 ?_ ?_
 rotate_left
 ·(intro w' hSw;have cc:=cell_of (i:=0) (hSw.1.keep HC.out HCO.out) rfl;go_simp;try with_reducible rfl)
 simp only [Act.put,yB,yC,yD]
 refine yT 4 (some 28) ?_ hS0 ?_ ?_
 rotate_left
 ·(intro w' hSw;go_simp;try with_reducible rfl)
 simp only [Act.put,yB,yC,yD]
 refine yT 5 (some 29) (.string NC) hS0 ?_ ?_
 ·(intro w' hSw;go_simp;exact ECAT.out)
 simp only [Act.put,yB,yC,yD]
 refine yT 6 (some 30) ?_ hS0 ?_ ?_
 rotate_left
 ·(intro w' hSw;go_simp;try with_reducible rfl)
 simp only [Act.put,yB,yC,yD]
 refine yT 7 (some 31) (.string VV) hS0 ?_ ?_
 ·(intro w' hSw;have cv:=HCV.out w' hSw.2;go_simp;try with_reducible rfl)
 simp only [Act.put,yB,yC,yD]
 refine yT 8 (some 32) ?_ hS0 ?_ ?_
 rotate_left
 ·(intro w' hSw;go_simp;try with_reducible rfl)
 simp only [Act.put,yB,yC,yD]
 refine yT 9 (some 33) ?_ hS0 ?_ ?_
 rotate_left
 ·(intro w' hSw;go_simp;try with_reducible rfl)
 simp only [Act.put,yB,yC,yD]
 refine yT 10 (some 34) (.string NP) hS0 ?_ ?_
 ·(intro w' hSw;go_simp;exact ECAP.out)
 simp only [Act.put,yB,yC,yD]
 refine yT 11 (some 35) ?_ hS0 ?_ ?_
 rotate_left
 ·(intro w' hSw;go_simp;try with_reducible rfl)
 simp only [Act.put,yB,yC,yD]
 refine wpAnyT_one 12 rfl (by kernel_rfl) rfl ?_
 intro K hK
 obtain ⟨ga,hga⟩:∃ ga,ga=wA.heap.size:=⟨_,rfl⟩
 obtain ⟨wA_12,hwA_12⟩:∃ y,y=wA.alloc (.cells #[.string NC,.string VV,.bool false,.string NP,.string ⟨#[]⟩,.bool true] 33):=⟨_,rfl⟩
 have HGA:=zh (show wA_12.heap[ga]? = some (.cells #[.string NC,.string VV,.bool false,.string NP,.string ⟨#[]⟩,.bool true] 33 (0,0)) by rw [hwA_12,hga];exact heap_alloc_new _ _)
 have hmwA_12:Mod No wA wA_12:=by rw [hwA_12];exact (Mod.refl No _).alloc _
 have HN5:=zh hwA_12
 have HGE:=zh hga
 clear hwA_12 hga
 go_simp
 rw [<- HGE.out,<- HN5.out]
 show K _ _
 have hS1:=And.intro (hS0.1.trans (hmwA_12.weaken fun _ _ f=>f.elim:Mod O1 wA wA_12)) (hS0.2.kn hmwA_12)
 refine hK.out _ _ (fun _=>hS1) ?_
 clear hK K
 refine wpAnyT_one 13 rfl (by kernel_rfl) rfl ?_
 intro K hK
 go_simp
 go_at_call 11
 with_reducible refine (HAP.out wA_12 ga hmwA_12 HGA.out).mono ?_
 rintro e wA_12_13 ⟨rfl,hst,hmwA_12_13⟩
 have HST:=zh hst
 clear hst
 show K _ _
 have hS2:=And.intro (hS1.1.trans hmwA_12_13) (HKP.out wA_12 wA_12_13 hmwA_12 hmwA_12_13 hS1.2)
 refine hK.out _ _ (fun _=>hS2) ?_
 clear hK K
 refine yT 14 (some 10) ?_ hS2 ?_ ?_
 rotate_left
 ·(intro w' hSw;go_simp;try with_reducible rfl)
 simp only [Act.put]
 refine wpAnyT_done (by kernel_rfl) ?_ _
 have HM7:=zh ((HMA.out.weaken fun _ _ f=>f.elim:Mod O1 w wA).trans hS2.1)
 have HC7:=zh (hS2.1.keep HC.out HCO.out)
 have HK7:=zh (hS2.1.keep HKA.out HKO.out.1)
 have HR7:=zh (hS2.1.keep HRA.out HKO.out.2)
 have HSZ:=zh (Nat.le_trans HMA.out.size hmwA_12.size)
 clear hS0 hS1 hS2
 go_upto_region 9 with fail
 refine wp_region_lit ?_
 refine wpList_load_row rfl 47 _ rfl kb rfl 47 (bv S).toArray (0,0) _ HK7.out underlying47 rfl (key_size hS) ?_
 refine wpList_store_row rfl 47 _ _ rfl rb (bv S).toArray rfl rfl 47 _ HR7.out (key_size hS) (by simp [keyN_length,hS]) (by simp [bv,Value.oneCell']) ?_
 go_wp2_with fail
 obtain ⟨O',k1,k2⟩:=HST.out
 have hr8:(wA_12_13.setRow rb (bv S).toArray).heap[rb]? = some (.cells (bv S).toArray 47 (0,0)):=setRow_heap _ _ _ _ _ _ HR7.out
 have hmr:Mod (fun p=>p=rb) wA_12_13 (wA_12_13.setRow rb (bv S).toArray):=(Mod.refl (fun p=>p=rb) wA_12_13).setRow (g:=rb) (fun _=>rfl) _
 have hne:∀ q,O' q->¬ q=rb:=fun q hq e=>by
  subst e
  exact HKO.out.2 (k2 q (Nat.lt_of_lt_of_le (lt_of_heap HRA.out) hmwA_12.size) hq)
 have hsto:=k1.keepM hmr hne (fun q cur fz e=>by
  subst e
  rw [HR7.out]
  intro f
  injection f with f
  injection f with f1 f2
  exact absurd f2 (by decide)) (fun q hq e=>by have:=HRB.out;have:=HW0.out;omega)
 have hca:CaObj (wA_12_13.setRow rb (bv S).toArray) cb s:=hmr.keep HC7.out (fun e=>by have:=lt_of_heap HC0.out;have:=HRB.out;omega)
 have hmm:Mod O w (wA_12_13.setRow rb (bv S).toArray):=(HM7.out.weaken fun q _ f=>HO1.out q f:Mod O w wA_12_13).setRow (fun e=>by have:=HRB.out;omega) _
 generalize wA_12_13.setRow rb (bv S).toArray=w9 at *
 have hl9:=run_loadVar_row (P:=prog) w9 rb 47 47 (bv S).toArray (0,0) _ hr8 underlying47 rfl (key_size hS)
 exact bodyPost_ret (v:=.tuple #[keyV S,.int .i64 0]) (by simp [results,results19,asAddr,hl9]) rfl (fin hR ⟨rfl,⟨O',by rw [<- HSE.out] at *;exact hsto,fun q hq f=>HO1.out q (k2 q (Nat.lt_of_lt_of_le hq HSZ.out) f)⟩,hca,hmm⟩)
end Go.Proofs.YtmppeipgjcjdkaaGreatDoor
