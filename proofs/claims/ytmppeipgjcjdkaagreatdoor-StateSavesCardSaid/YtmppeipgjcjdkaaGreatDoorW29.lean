/-
  Layers 0 to 14: helps of the laws of indexes. No statement is proved here; no condition.
-/
import Derived.Test.YtmppeipgjcjdkaaGreatDoorW27
import Derived.Test.YtmppeipgjcjdkaaGreatDoorW00
import Derived.Test.YtmppeipgjcjdkaaGreatDoorW28
import Derived.Test.YtmppeipgjcjdkaaGreatDoorW05
import Derived.Great.Walk
namespace Go.Proofs.YtmppeipgjcjdkaaGreatDoor
open _root_.Go.Proofs.Tryz
open Go.RowKit Go.Maps Go.Sort
abbrev K32:={l:List UInt8 // l.length=32}
instance:Inhabited K32:=⟨⟨List.replicate 32 0,by simp⟩⟩
def encK (x:K32):List Value:=bv x.1
def cfK (x y:K32):Int:=cfL x.1 y.1
theorem ltOf_cfK (x y:K32):ltOf cfK x y=ltStr x.1 y.1:=by
 unfold ltOf cfK cfL ltStr
 by_cases h1:x.1 < y.1
 ·simp [h1]
 ·by_cases h2:y.1 < x.1 <;> simp [h1,h2]
theorem swo_cfK:SWO (ltOf cfK) where
 irrefl x:=by rw [ltOf_cfK];exact swo_ltStr.irrefl _
 trans x y z h1 h2:=by rw [ltOf_cfK] at *;exact swo_ltStr.trans _ _ _ h1 h2
 ntrans x y z h1 h2:=by rw [ltOf_cfK] at *;exact swo_ltStr.ntrans _ _ _ h1 h2
theorem tot_cfK (x y:K32) (h1:ltOf cfK x y=false) (h2:ltOf cfK y x=false):x=y:=by
 rw [ltOf_cfK] at h1 h2
 have h3:¬ x.1 < y.1:=by simpa [ltStr] using h1
 have h4:¬ y.1 < x.1:=by simpa [ltStr] using h2
 rcases Std.lt_trichotomy x.1 y.1 with h | h | h
 ·exact absurd h h3
 ·exact Subtype.ext h
 ·exact absurd h h4
theorem sl32 {w:World} {g:Nat} {t:TypeId} {x:List UInt8} (hx:x.length=32) (hg:w.heap[g]? = some (.cells (bv x).toArray t (0,0))):Sl w No t (.slice (some ⟨g,0,none⟩) 32 32) x.length (bv x) :=
 .inr ⟨g,0,32,_,_,by rw [hx],by omega,by unfold maxLen;omega,fun f=>f,hg,by simp,fun i hi=>by rw [Nat.zero_add,List.getElem?_toArray]⟩
set_option maxRecDepth 100000 in
set_option maxHeartbeats 4000000 in
theorem closureK (x y:K32) (w:World):Calls prog 93 #[.agg (encK x).toArray,.agg (encK y).toArray] w fun e w'=>e=.returned (.int .i64 (cfK x y))/\∃ q os',w'=grow (w.drewN q) os':=by
 obtain ⟨x,hx⟩:=x
 obtain ⟨y,hy⟩:=y
 refine calls_hide fun R hR=>?_
 have HC:=zh (compare_any x y)
 unfold encK cfK at *
 dsimp only at hR ⊢
 generalize cfL x y=r at *
 go_enter func93,ntmps93
 go_upto_region 1 with fail
 obtain ⟨gx,hgx⟩:∃ g,g=w.heap.size:=⟨_,rfl⟩
 obtain ⟨gy,hgy⟩:∃ g,g=gx+1:=⟨_,rfl⟩
 rw [<- hgx,<- hgy]
 obtain ⟨wA,hwA⟩:∃ z,z=((w.alloc (.cells (bv x).toArray 47)).alloc (.cells (bv y).toArray 47)).drew:=⟨_,rfl⟩
 have hx1:wA.heap[gx]? = some (.cells (bv x).toArray 47 (0,0)):=by rw [hwA,hgx];exact ((Mod.refl No _).alloc _).drew.keep (heap_alloc_new w _) (fun f=>f)
 have hy1:wA.heap[gy]? = some (.cells (bv y).toArray 47 (0,0)):=by
  rw [hwA,hgy,hgx]
  have h1:=heap_alloc_new (w.alloc (.cells (bv x).toArray 47)) (.cells (bv y).toArray 47)
  rw [show (w.alloc (.cells (bv x).toArray 47)).heap.size=w.heap.size+1 by simp] at h1
  exact h1
 obtain ⟨X,hX⟩:∃ z:ByteArray,z=⟨x.toArray⟩:=⟨_,rfl⟩
 obtain ⟨Y,hY⟩:∃ z:ByteArray,z=⟨y.toArray⟩:=⟨_,rfl⟩
 have CX:=zh (show (convert 41 9 (.slice (some ⟨gx,0,none⟩) 32 32)).run prog wA=.ok (.string X) wA by
  rw [hX];exact string_of (sl32 hx hx1) underlying41 underlying5 underlying9)
 have CY:=zh (show (convert 41 9 (.slice (some ⟨gy,0,none⟩) 32 32)).run prog wA=.ok (.string Y) wA by
  rw [hY];exact string_of (sl32 hy hy1) underlying41 underlying5 underlying9)
 have HEND:=zh (show ∃ q os',wA=grow (w.drewN q) os' from ⟨1,#[.cells (bv x).toArray 47,.cells (bv y).toArray 47],by rw [hwA,alloc_eq_grow,alloc_eq_grow,grow_grow];rfl⟩)
 have HWA:=zh hwA
 rw [<- hX,<- hY] at HC
 have hS0:wA=wA:=rfl
 clear hwA hgx hgy hx1 hy1 hX hY
 refine wp_region_T (fun w'=>w'=wA) 99 (by kernel_rfl) ?_
 rw [<- HWA.out]
 refine yT 0 (some 5) ?_ hS0 ?_ ?_
 rotate_left
 ·(intro w' hSw;subst hSw;go_simp;try with_reducible rfl)
 simp only [Act.put,yB,yC,yD]
 refine yT 1 (some 6) (.string X) hS0 ?_ ?_
 ·(intro w' hSw;subst hSw;have cv:=CX.out;go_simp;try with_reducible rfl)
 simp only [Act.put,yB,yC,yD]
 refine yT 2 (some 7) ?_ hS0 ?_ ?_
 rotate_left
 ·(intro w' hSw;subst hSw;go_simp;try with_reducible rfl)
 simp only [Act.put,yB,yC,yD]
 refine yT 3 (some 8) (.string Y) hS0 ?_ ?_
 ·(intro w' hSw;subst hSw;have cv:=CY.out;go_simp;try with_reducible rfl)
 simp only [Act.put,yB,yC,yD]
 refine wpAnyT_one 4 rfl (by kernel_rfl) rfl ?_
 intro K hK
 go_simp
 go_at_call 84
 with_reducible refine (HC.out _).mono ?_
 rintro e wB ⟨rfl,hB⟩
 subst hB
 show K _ _
 have hS1:=Eq.refl wB
 refine hK.out _ _ (fun _=>hS1) ?_
 clear hK K
 refine yT 5 (some 4) ?_ hS1 ?_ ?_
 rotate_left
 ·(intro w' hSw;subst hSw;go_simp;try with_reducible rfl)
 simp only [Act.put]
 refine wpAnyT_done (by kernel_rfl) ?_ _
 go_wp2_with fail
 exact fin hR ⟨rfl,HEND.out⟩
theorem isAggK (w:World):(isAgg 47).run prog w=.ok true w:=by kernel_rfl
theorem sizeOfK (w:World):(Go.sizeOf 47).run prog w=.ok 32 w:=by kernel_rfl
theorem sortK_any (blk off cap:Nat) (d:Array K32) (w:World) (hH:HoldsK encK 32 w blk off d) (hblk:blk < w.heap.size) (hsz:d.size < 4611686018427387904) :
  Calls prog 92 #[.slice (some ⟨blk,off,none⟩) d.size cap,.func (.func 93) #[] #[]] w fun e w'=>e=.returned (.tuple #[])/\∃ n os,w'=sortWorldK encK 32 w blk off n (d.toList.mergeSort fun x y=>!(ltOf cfK) y x).toArray os:=by
 have eg:∀ args w,(callFunc 93 args).run prog w=.ok (.enter 93 args) w:=enters_of func93 (by kernel_rfl) rfl
 exact AnyQ.slices_SortFunc_total Tryz.sortK 32 isAggK sizeOfK encK (fun x=>by unfold encK;rw [bv_length,x.2]) (fun x v hv=>bv_one _ v hv) cfK swo_cfK 93 #[] blk off cap d w eg (fun _ _ _ _ x y=>closureK x y _) hH hblk hsz tot_cfK
theorem sortK_none (cap:Nat) (w:World) :
  Calls prog 92 #[.slice none 0 cap,.func (.func 93) #[] #[]] w fun e w'=>e=.returned (.tuple #[])/\w'=w :=
 AnyF.slices_SortFunc_none Tryz.sortK none cap _ w
theorem digit_lt:∀ a b:Fin 16,(digit a.1 < digit b.1 ↔ a.1 < b.1)/\(digit a.1=digit b.1 ↔ a.1=b.1):=by decide +kernel
theorem hex_lt:∀ S T:List UInt8,hexL S < hexL T ↔ S < T
 | [],[]=>by simp [hexL]
 | [],d :: T=>by simp [hexL]
 | c :: S,[]=>by simp [hexL]
 | c :: S,d :: T=>by
  have e1:hexL (c :: S)=digit (c.toNat / 16) :: digit (c.toNat % 16) :: hexL S:=rfl
  have e2:hexL (d :: T)=digit (d.toNat / 16) :: digit (d.toNat % 16) :: hexL T:=rfl
  have hc:=UInt8.toNat_lt c
  have hd:=UInt8.toNat_lt d
  have h1:=digit_lt ⟨c.toNat / 16,by omega⟩ ⟨d.toNat / 16,by omega⟩
  have h2:=digit_lt ⟨c.toNat % 16,by omega⟩ ⟨d.toNat % 16,by omega⟩
  dsimp only at h1 h2
  rw [e1,e2]
  simp only [List.cons_lt_cons_iff,hex_lt S T,h1.1,h1.2,h2.1,h2.2,UInt8.lt_iff_toNat_lt]
  have e3:c=d ↔ c.toNat=d.toNat:=⟨fun h=>by rw [h],fun h=>UInt8.toNat_inj.1 h⟩
  rw [e3]
  generalize c.toNat=x at *
  generalize d.toNat=y at *
  by_cases h:S < T <;> simp only [h,and_true,and_false,or_false] <;> omega
theorem nC_lt (S T:List UInt8):nC S < nC T ↔ S < T:=by
 unfold nC
 simp only [List.cons_lt_cons_iff,hex_lt]
 simp
theorem hex_inj {S T:List UInt8} (h:hexL S=hexL T):S=T:=by
 rcases Std.lt_trichotomy S T with h1 | h1 | h1
 ·have:=(hex_lt S T).2 h1;rw [h] at this;exact absurd this (by simp)
 ·exact h1
 ·have:=(hex_lt T S).2 h1;rw [h] at this;exact absurd this (by simp)
theorem nC_inj {S T:List UInt8} (h:nC S=nC T):S=T:=by
 unfold nC at h
 exact hex_inj (by simpa using h)
theorem pref_nC (S:List UInt8):pref [99,47] (nC S)=true:=by simp [pref,nC]
theorem pref_nP (S:List UInt8):pref [99,47] (nP S)=false:=by simp [pref,nP]
structure CaK (M:Mt) (A:List UInt8->Option (List UInt8)):Prop where
 c:∀ S,S.length=32->M (nC S)=A S
 only:∀ k,(M k).isSome=true->pref [99,47] k=true->∃ S,S.length=32/\k=nC S
 sums:∀ S l,A S=some l->sumF l=S/\l.length<=1000
theorem CaK.names {M:Mt} {A:List UInt8->Option (List UInt8)} (h:CaK M A) {ks:List (List UInt8)} (hk:KeysOfM M ks) :
  ∃ L:List (List UInt8),ks.filter (pref [99,47])=L.map nC/\(∀ S ∈ L,S.length=32)/\L.Pairwise (· < ·)/\∀ S,S ∈ L ↔ (A S).isSome=true:=by
 have h1:∀ k ∈ ks.filter (pref [99,47]),∃ S,S.length=32/\k=nC S:=fun k hm=>by
  obtain ⟨h2,h3⟩:=List.mem_filter.1 hm
  exact h.only k ((hk.mem k).1 h2) h3
 have h5:∀ l:List (List UInt8),(∀ k ∈ l,∃ S,S.length=32/\k=nC S)->∃ L:List (List UInt8),l=L.map nC/\∀ S ∈ L,S.length=32:=by
  intro l
  induction l with
  | nil=>exact fun _=>⟨[],rfl,fun S h=>by cases h⟩
  | cons k l ih =>
   intro hl
   obtain ⟨S,hS,rfl⟩:=hl k (by simp)
   obtain ⟨L,rfl,hL⟩:=ih fun q hq=>hl q (by simp [hq])
   exact ⟨S :: L,rfl,fun T hT=>by
    rcases List.mem_cons.1 hT with rfl | hT
    ·exact hS
    ·exact hL T hT⟩
 obtain ⟨L,hL,hlen⟩:=h5 _ h1
 refine ⟨L,hL,hlen,?_,fun S=>⟨fun hS=>?_,fun hS=>?_⟩⟩
 ·have hp:(L.map nC).Pairwise fun a b=>leB a b=true:=by rw [<- hL];exact hk.sorted.filter _
  have hn:(L.map nC).Nodup:=by rw [<- hL];exact hk.nodup.filter _
  have hp2:=List.pairwise_map.1 hp
  have hn2:=List.pairwise_map.1 hn
  refine (hp2.and hn2).imp fun {a b} hab=>?_
  rcases Std.lt_trichotomy a b with h6 | h6 | h6
  ·exact h6
  ·exact absurd (by rw [h6]) hab.2
  ·have h7:=(nC_lt b a).2 h6
   have h8:nC a<=nC b:=by simpa [leB] using hab.1
   exact absurd h7 (List.not_lt.2 h8)
 ·have h6:nC S ∈ ks.filter (pref [99,47]):=by rw [hL];exact List.mem_map.2 ⟨S,hS,rfl⟩
  have h7:=(hk.mem _).1 (List.mem_filter.1 h6).1
  rw [h.c S (hlen S hS)] at h7
  exact h7
 ·obtain ⟨l,hl⟩:=Option.isSome_iff_exists.1 hS
  have h32:S.length=32:=by rw [<- (h.sums S l hl).1];exact sumF_length l
  have h6:nC S ∈ ks.filter (pref [99,47]):=List.mem_filter.2 ⟨(hk.mem _).2 (by rw [h.c S h32,hl];rfl),pref_nC S⟩
  rw [hL] at h6
  obtain ⟨T,hT,he⟩:=List.mem_map.1 h6
  rw [<- nC_inj he];exact hT
def keyCells (L:List (List UInt8)):List Value:=L.flatMap bv
theorem keyCells_length {L:List (List UInt8)} (h:∀ S ∈ L,S.length=32):(keyCells L).length=L.length*32:=by
 induction L with
 | nil=>rfl
 | cons S L ih =>
  have h1:=ih fun T hT=>h T (by simp [hT])
  have h2:=h S (by simp)
  unfold keyCells at *
  rw [List.flatMap_cons,List.length_append,h1,List.length_cons,bv_length,h2]
  omega
theorem keyCells_append (L L':List (List UInt8)):keyCells (L++L')=keyCells L++keyCells L':=by simp [keyCells]
theorem keyCells_one (L:List (List UInt8)):∀ u ∈ keyCells L,u.oneCell'=true:=fun u hu=>by
 obtain ⟨S,-,hu⟩:=List.mem_flatMap.1 hu
 exact bv_one S u hu
theorem info_key:(prog.info? 47).map (fun i=>(i.zero,i.size,i.bytes))=some (some (keyV (List.replicate 32 0)),32,32):=by kernel_rfl
set_option maxRecDepth 100000 in
theorem run_buildKeys (L:List (List UInt8)) (hL:∀ S ∈ L,S.length=32) (h0:0 < L.length) (h1:L.length<=1000) (parts:Array (Nat × Value)) (hp:parts.toList=((L.map keyV).zipIdx 0).map fun x=>(x.2,x.1)) (w:World) :
  (Instr.buildSlice 36 L.length parts).run prog w=.ok (.slice (some ⟨w.heap.size,0,none⟩) L.length L.length) (w.alloc (.cells (keyCells L).toArray 47)):=by
 obtain ⟨i0,hi,hz0,hz1,hz2⟩:=info_parts info_key
 refine run_buildSlice w 36 47 L.length parts _ i0 _ underlying36 hi hz0 (by rw [hz1];omega) (by rw [hz1];omega) ?_
 rw [hz1,hp,Great.fill_whole (s:=32) (by decide) (L.map keyV) _ (fun v hv=>by
  obtain ⟨S,hS,rfl⟩:=List.mem_map.1 hv
  show (bv S).toArray.size=32
  simp [hL S hS]) (by simp)]
 congr 2
 unfold keyCells
 rw [List.flatMap_map]
 rfl
theorem ybuild1 {w:World} {S:List UInt8} {o:Oper} {ρ:Operand->Value} (hS:S.length=32) (x:Operand) (ho:o.op=.buildSlice 36 1 #[(0,x)]) (hx:ρ x=keyV S) :
  (execOp ρ o).run prog w=.ok (.value (.slice (some ⟨w.heap.size,0,none⟩) 1 1)) (w.alloc (.cells (keyCells [S]).toArray 47)):=by
 have h:=run_buildKeys [S] (fun T hT=>by simp at hT;rw [hT];exact hS) (by simp) (by simp) #[(0,keyV S)] rfl w
 unfold execOp
 simp only [ho,List.map_toArray,List.map_cons,List.map_nil,hx,Sem.run_bind]
 erw [h]
 rfl
theorem run_loadKeyAt {w:World} {g off:Nat} {S:List UInt8} (hS:S.length=32) (hg:∀ j,j < 32->w.cell? ⟨g,off+j,none⟩=(bv S)[j]?) :
  (loadVar 47 ⟨g,off,none⟩).run prog w=.ok (keyV S) w:=by
 have hl:=run_loadCells_list (P:=prog) w ⟨g,off,none⟩ (bv S) (fun j v hv=>by
  have hj:j < (bv S).length:=(List.getElem?_eq_some_iff.1 hv).1
  rw [Addr.add_lit,hg j (by rw [bv_length,hS] at hj;exact hj)]
  exact hv)
 rw [bv_length,hS] at hl
 have ha:(isAgg 47).run prog w=.ok true w:=isAggK w
 have hs:(Go.sizeOf 47).run prog w=.ok 32 w:=sizeOfK w
 unfold loadVar
 simp only [Sem.run_bind,ha,Result.andThen_ok,hs,if_true,hl]
 rfl
theorem yloadAt {w:World} {g off:Nat} {S:List UInt8} {o:Oper} {ρ:Operand->Value} (hS:S.length=32) (hg:∀ j,j < 32->w.cell? ⟨g,off+j,none⟩=(bv S)[j]?) (x:Operand) (ho:o.op=.load 47 x) (hx:ρ x=.pointer (some ⟨g,off,none⟩)) :
  (execOp ρ o).run prog w=.ok (.value (keyV S)) w:=by
 unfold execOp
 simp only [ho,hx,Instr.loadAt,Instr.sureAddr,Sem.run_bind,Sem.run_pure,Result.andThen_ok,run_loadKeyAt hS hg]
theorem keyCells_get {L:List (List UInt8)} (h:∀ S ∈ L,S.length=32) {i j:Nat} (hi:i < L.length) (hj:j < 32):(keyCells L)[32*i+j]? = (bv L[i])[j]?:=by
 induction L generalizing i with
 | nil=>simp at hi
 | cons S L ih =>
  have hS:=h S (by simp)
  have e:keyCells (S :: L)=bv S++keyCells L:=rfl
  rw [e]
  cases i with
  | zero =>
   rw [List.getElem?_append_left (by rw [bv_length,hS];omega)]
   simp
  | succ i =>
   rw [List.getElem?_append_right (by rw [bv_length,hS];omega),bv_length,hS,show 32*(i+1)+j - 32=32*i+j by omega,ih (fun T hT=>h T (by simp [hT])) (by simpa using hi)]
   rfl
theorem sums_sorted {w:World} {base:Nat} {v:Value} {L:List (List UInt8)} (hL:∀ S ∈ L,S.length=32) (hs:L.Pairwise (· < ·)) (hn:L.length<=1000000) (hown:w.ownsRow base 47 32 v L.length (keyCells L)) :
  Calls prog 92 #[v,.func (.func 93) #[] #[]] w fun e w'=>e=.returned (.tuple #[])/\Mod No w w':=by
 obtain ⟨hlen,⟨rfl,h0⟩ | ⟨g,cap,cur,rfl,hb,hg,hc,hm,hsz,ht⟩⟩:=hown
 ·refine (sortK_none 0 w).mono ?_
  rintro e w' ⟨rfl,rfl⟩
  exact ⟨rfl,Mod.refl _ _⟩
 ·obtain ⟨d,hd⟩:∃ d:List K32,d.map (·.1)=L:=by
   clear hlen hg hc hm hsz ht hs hn
   induction L with
   | nil=>exact ⟨[],rfl⟩
   | cons S L ih =>
    obtain ⟨d,rfl⟩:=ih fun T hT=>hL T (by simp [hT])
    exact ⟨⟨S,hL S (by simp)⟩ :: d,rfl⟩
  have hdl:d.length=L.length:=by rw [<- hd];simp
  have hcells:∀ k,k < L.length*32->w.cell? ⟨g,0+k,none⟩=(keyCells L)[k]?:=fun k hk=>by
   rw [Nat.zero_add,cell_of_row w g k cur _ _ hg,<- ht,List.getElem?_take,if_pos hk]
   simp
  have hH:HoldsK encK 32 w g 0 d.toArray:=by
   intro j hj
   rw [size_flatK] at hj
   have hj2:j < d.length*32:=by simpa using hj
   have h1:j / 32 < d.length:=by omega
   have h2:j % 32 < 32:=Nat.mod_lt _ (by decide)
   refine ⟨?_,frozen_of (0+j) hg⟩
   rw [hcells j (by omega),show j=32*(j / 32)+j % 32 by omega,keyCells_get hL (by omega) h2,<- show j=32*(j / 32)+j % 32 by omega,get_flatK _ _ _ _ hj]
   have h3:(L[j / 32]'(by omega))=(d[j / 32]).1:=by simp [<- hd]
   have h4:d.toArray[j / 32]! = d[j / 32]:=by simp [h1]
   have h5:j % 32 < (encK d[j / 32]).length:=by unfold encK;rw [bv_length,(d[j / 32]).2];exact h2
   rw [h3,h4,getElem!_pos (encK d[j / 32]) (j % 32) h5]
   exact List.getElem?_eq_getElem h5
  have hlt:=lt_of_heap hg
  have h1:=sortK_any g 0 cap d.toArray w hH hlt (by simp;omega)
  have hsort:(d.toArray.toList.mergeSort fun x y=>!(ltOf cfK) y x)=d:=by
   rw [List.toList_toArray]
   refine List.mergeSort_of_pairwise ?_
   rw [<- hd] at hs
   refine (List.pairwise_map.1 hs).imp fun {x y} hxy=>?_
   rw [ltOf_cfK]
   cases h3:ltStr y.1 x.1 with
   | false=>rfl
   | true =>
    have h4:=swo_ltStr.trans x.1 y.1 x.1 (by simpa [ltStr] using hxy) h3
    rw [swo_ltStr.irrefl] at h4
    cases h4
  rw [hsort] at h1
  rw [show d.toArray.size=L.length by simp [hdl]] at h1
  refine h1.mono ?_
  rintro e w' ⟨rfl,n,os,rfl⟩
  refine ⟨rfl,?_⟩
  unfold sortWorldK
  have hH2:HoldsK encK 32 (Sort.ahead w n) g 0 d.toArray:=hH
  rw [putRowK_self encK 32 _ _ _ _ hH2]
  exact ⟨rfl,rfl,rfl,by simp [grow,Sort.ahead],fun k hk _=>by simp [grow,Sort.ahead,Array.getElem?_append_left hk]⟩
end Go.Proofs.YtmppeipgjcjdkaaGreatDoor
namespace Go.Proofs.YtmppeipgjcjdkaaGreatDoor
open _root_.Go.Proofs.Tryz
open Go.RowKit Go.Maps
theorem key_cell {w:World} {b o c:Nat} {K:List (List UInt8)} (hK:∀ S ∈ K,S.length=32) (h:SvX w No (.slice (some ⟨b,o,none⟩) K.length c) K.length (keyCells K)) {k:Nat} (hk:k < K.length):∀ j,j < 32->w.cell? ⟨b,o+k*32+j,none⟩=(bv K[k])[j]?:=fun j hj=>by
 have h1:=keyCells_get hK hk hj
 have h2:32*k+j < (keyCells K).length:=by rw [keyCells_length hK];omega
 have h3:=h.cellN h2
 rw [List.getElem?_eq_getElem h2] at h1
 rw [show o+k*32+j=o+(32*k+j) by omega,h3,h1]
set_option maxRecDepth 100000 in
set_option maxHeartbeats 4000000 in
theorem hkeys_any (K:List (List UInt8)) (hK:∀ S ∈ K,S.length=32) (v u:Value) (w:World) (hv:SvX w No v K.length (keyCells K)) (hu:SvX w No u K.length (keyCells K)) :
  Calls prog 35 #[v,u] w fun e w'=>e=.returned (.bool true)/\Mod No w w':=by
 refine calls_hide fun R hR=>?_
 have HV:=zh hv
 have HU:=zh hu
 have HK:=zh hK
 have hlen:=hv.lenle
 obtain ⟨va,vc,rfl⟩:=hv.1
 obtain ⟨ua,uc,rfl⟩:=hu.1
 clear hv hu hK
 go_enter func35,ntmps35
 go_wp2_with fail
 go_loopw [5] (fun q wr=>∃ k:Nat,k<=K.length/\q=.int .i64 (k:Int)/\Mod No w wr) (fun q _=>K.length - (intOf q).toNat)
 case atStart=>exact ⟨0,Nat.zero_le _,rfl,Mod.refl _ _⟩
 case round =>
  obtain ⟨k,hk,rfl,hm⟩:=hrel
  have hk0:(0:Int)<=(k:Int):=Int.natCast_nonneg _
  have HM:=zh hm
  clear hm
  by_cases hlt:k < K.length
  ·have hk1:(k:Int) < (K.length:Int):=by omega
   obtain ⟨b,o,c,hvs,_⟩:=HV.out.shape (by omega)
   cases hvs
   obtain ⟨b2,o2,c2',hus,_⟩:=HU.out.shape (by omega)
   cases hus
   have HS:=zh (HK.out _ (List.getElem_mem hlt))
   obtain ⟨wD,hwD⟩:∃ y,y=wr.drew:=⟨_,rfl⟩
   have hmD:Mod No wr wD:=by rw [hwD];exact (Mod.refl No wr).drew
   have HMD:=zh (HM.out.trans hmD)
   have HC1:=zh (key_cell HK.out (HV.out.kn HMD.out) hlt)
   have HC2:=zh (key_cell HK.out (HU.out.kn HMD.out) hlt)
   generalize K[k]=S at *
   have HWD:=zh hwD
   have hS0:wD=wD:=rfl
   clear hwD hmD
   go_upto_region 6 with fail
   refine wp_region_T (fun w'=>w'=wD) 99 (by kernel_rfl) ?_
   rw [<- HWD.out]
   refine yT 0 (some 17) ?_ hS0 ?_ ?_
   rotate_left
   ·(intro w' hSw;subst hSw;go_simp;try with_reducible rfl)
   simp only [Act.put,yB,yC,yD]
   refine yT 1 (some 18) ?_ hS0 ?_ ?_
   rotate_left
   ·(intro w' hSw;subst hSw;go_simp;try with_reducible rfl)
   simp only [Act.put,yB,yC,yD]
   refine yT 2 (some 19) ?_ hS0 ?_ ?_
   rotate_left
   ·(intro w' hSw;subst hSw;go_simp;try with_reducible rfl)
   simp only [Act.put,yB,yC,yD]
   refine yT 3 (some 20) (keyV S) hS0 ?_ ?_
   ·(intro w' hSw;subst hSw;apply yloadAt HS.out HC1.out (.tmp 19) <;> rfl)
   simp only [Act.put,yB,yC,yD]
   refine yT 4 (some 21) ?_ hS0 ?_ ?_
   rotate_left
   ·(intro w' hSw;subst hSw;go_simp;try with_reducible rfl)
   simp only [Act.put,yB,yC,yD]
   refine yT 5 (some 22) ?_ hS0 ?_ ?_
   rotate_left
   ·(intro w' hSw;subst hSw;go_simp;try with_reducible rfl)
   simp only [Act.put,yB,yC,yD]
   refine yT 6 (some 23) ?_ hS0 ?_ ?_
   rotate_left
   ·(intro w' hSw;subst hSw;go_simp;try with_reducible rfl)
   simp only [Act.put,yB,yC,yD]
   refine yT 7 (some 24) (keyV S) hS0 ?_ ?_
   ·(intro w' hSw;subst hSw;apply yloadAt HS.out HC2.out (.tmp 23) <;> rfl)
   simp only [Act.put,yB,yC,yD]
   refine wpAnyT_takeV 8 (some 25) (.bool (!decide (S=S))) rfl rfl (by kernel_rfl) (fun _ _ _ h=>h) hS0 (Or.inl ⟨by rfl,?_⟩) ?_
   ·(intro w' hSw;subst hSw;apply yne HS.out HS.out (.tmp 20) (.tmp 24) <;> rfl)
   simp only [Act.put]
   refine wpAnyT_done (by kernel_rfl) ?_ _
   rw [show (!decide True)=false by simp]
   go_wp2_with fail
   exact ⟨⟨k+1,by omega,by simp,HMD.out⟩,by show K.length - ((k:Int)+1).toNat < K.length - (k:Int).toNat;omega⟩
  ·have hk1:¬ (k:Int) < (K.length:Int):=by omega
   go_wp2_with fail
   exact fin hR ⟨rfl,HM.out⟩
set_option maxRecDepth 100000 in
set_option maxHeartbeats 4000000 in
theorem eqkeys_any (K:List (List UInt8)) (hK:∀ S ∈ K,S.length=32) (v u:Value) (w:World) (hv:SvX w No v K.length (keyCells K)) (hu:SvX w No u K.length (keyCells K)) :
  Calls prog 39 #[v,u] w fun e w'=>e=.returned (.bool true)/\Mod No w w':=by
 refine calls_hide fun R hR=>?_
 have HV:=zh hv
 have HU:=zh hu
 have HK:=zh hK
 have hlen:=hv.lenle
 obtain ⟨va,vc,rfl⟩:=hv.1
 obtain ⟨ua,uc,rfl⟩:=hu.1
 clear hv hu hK
 go_enter func39,ntmps39
 go_wp2_with fail
 go_loopw [13] (fun q wr=>∃ k:Nat,k<=K.length/\q=.int .i64 (k:Int)/\Mod No w wr) (fun q _=>K.length - (intOf q).toNat)
 case atStart=>exact ⟨0,Nat.zero_le _,rfl,Mod.refl _ _⟩
 case round =>
  obtain ⟨k,hk,rfl,hm⟩:=hrel
  have hk0:(0:Int)<=(k:Int):=Int.natCast_nonneg _
  have HM:=zh hm
  clear hm
  by_cases hlt:k < K.length
  ·have hk1:(k:Int) < (K.length:Int):=by omega
   obtain ⟨b,o,c,hvs,_⟩:=HV.out.shape (by omega)
   cases hvs
   obtain ⟨b2,o2,c2',hus,_⟩:=HU.out.shape (by omega)
   cases hus
   have HS:=zh (HK.out _ (List.getElem_mem hlt))
   obtain ⟨wD,hwD⟩:∃ y,y=wr.drew:=⟨_,rfl⟩
   have hmD:Mod No wr wD:=by rw [hwD];exact (Mod.refl No wr).drew
   have HMD:=zh (HM.out.trans hmD)
   have HC1:=zh (key_cell HK.out (HV.out.kn HMD.out) hlt)
   have HC2:=zh (key_cell HK.out (HU.out.kn HMD.out) hlt)
   generalize K[k]=S at *
   have HWD:=zh hwD
   have hS0:wD=wD:=rfl
   clear hwD hmD
   go_upto_region 6 with fail
   refine wp_region_T (fun w'=>w'=wD) 99 (by kernel_rfl) ?_
   rw [<- HWD.out]
   refine yT 0 (some 16) ?_ hS0 ?_ ?_
   rotate_left
   ·(intro w' hSw;subst hSw;go_simp;try with_reducible rfl)
   simp only [Act.put,yB,yC,yD]
   refine yT 1 (some 17) ?_ hS0 ?_ ?_
   rotate_left
   ·(intro w' hSw;subst hSw;go_simp;try with_reducible rfl)
   simp only [Act.put,yB,yC,yD]
   refine yT 2 (some 18) ?_ hS0 ?_ ?_
   rotate_left
   ·(intro w' hSw;subst hSw;go_simp;try with_reducible rfl)
   simp only [Act.put,yB,yC,yD]
   refine yT 3 (some 19) (keyV S) hS0 ?_ ?_
   ·(intro w' hSw;subst hSw;apply yloadAt HS.out HC1.out (.tmp 18) <;> rfl)
   simp only [Act.put,yB,yC,yD]
   refine yT 4 (some 20) ?_ hS0 ?_ ?_
   rotate_left
   ·(intro w' hSw;subst hSw;go_simp;try with_reducible rfl)
   simp only [Act.put,yB,yC,yD]
   refine yT 5 (some 21) ?_ hS0 ?_ ?_
   rotate_left
   ·(intro w' hSw;subst hSw;go_simp;try with_reducible rfl)
   simp only [Act.put,yB,yC,yD]
   refine yT 6 (some 22) ?_ hS0 ?_ ?_
   rotate_left
   ·(intro w' hSw;subst hSw;go_simp;try with_reducible rfl)
   simp only [Act.put,yB,yC,yD]
   refine yT 7 (some 23) (keyV S) hS0 ?_ ?_
   ·(intro w' hSw;subst hSw;apply yloadAt HS.out HC2.out (.tmp 22) <;> rfl)
   simp only [Act.put,yB,yC,yD]
   refine wpAnyT_takeV 8 (some 24) (.bool (!decide (S=S))) rfl rfl (by kernel_rfl) (fun _ _ _ h=>h) hS0 (Or.inl ⟨by rfl,?_⟩) ?_
   ·(intro w' hSw;subst hSw;apply yne HS.out HS.out (.tmp 19) (.tmp 23) <;> rfl)
   simp only [Act.put]
   refine wpAnyT_done (by kernel_rfl) ?_ _
   rw [show (!decide True)=false by simp]
   go_wp2_with fail
   exact ⟨⟨k+1,by omega,by simp,HMD.out⟩,by show K.length - ((k:Int)+1).toNat < K.length - (k:Int).toNat;omega⟩
  ·have hk1:¬ (k:Int) < (K.length:Int):=by omega
   go_wp2_with fail
   exact fin hR ⟨rfl,HM.out⟩
end Go.Proofs.YtmppeipgjcjdkaaGreatDoor
namespace Go.Proofs.YtmppeipgjcjdkaaGreatDoor
open _root_.Go.Proofs.Tryz
open Go.RowKit Go.Maps Go.Sort
set_option maxRecDepth 100000 in
theorem lit44 (t:Array Value) (h:t.size=44):∃ c:Nat->Value,t=#[c 0,c 1,c 2,c 3,c 4,c 5,c 6,c 7,c 8,c 9,c 10,c 11,c 12,c 13,c 14,c 15,c 16,c 17,c 18,c 19,c 20,c 21,c 22,c 23,c 24,c 25,c 26,c 27,c 28,c 29,c 30,c 31,c 32,c 33,c 34,c 35,c 36,c 37,c 38,c 39,c 40,c 41,c 42,c 43]/\∀ i,t.getD i undef=c i:=by
 refine ⟨fun i=>t.getD i undef,?_,fun _=>rfl⟩
 have h1:=arr_lits t
 rw [h] at h1
 exact h1.trans (by kernel_rfl)
noncomputable def bodyY:Code:=Tryz.f37.body.getD .skip
noncomputable def blkY1:Code:=(blockAt 1 bodyY).getD .skip
noncomputable def blkY0:Code:=(blockAt 0 bodyY).getD .skip
theorem name_tail (S:List UInt8) (hS:S.length=32) (W:World):(Instr.slice 9 (.string ⟨(nC S).toArray⟩) (some (.int .i64 2)) none none).run prog W=.ok (.string ⟨(hexL S).toArray⟩) W:=by
 rw [run_slice_string_l W 9 _ underlying9 .i64 2 (by omega) (by rw [str_size_list,nC_length hS];omega)]
 congr 2
 apply ByteArray.ext
 apply Array.toList_inj.1
 rw [Lib.extract_data,str_size_list]
 show ((nC S).take (nC S).length).drop 2=hexL S
 rw [List.take_length]
 rfl
set_option maxRecDepth 100000 in
set_option maxHeartbeats 4000000 in
theorem keystep_any (L:List (List UInt8)) (hL:∀ S ∈ L,S.length=32) (base cb nb no n nc i:Nat) (v:Value) (S:List UInt8) (a:Act) (w w0:World) (hi:i < n) (hn:n=L.length) (hn2:n<=100000) (hSi:L[i]? = some S) (hb:base<=w.heap.size)
  (hown:w.ownsRow base 47 32 v i (keyCells (L.take i))) (hc:w.cell? ⟨nb,no+i,none⟩=some (.string ⟨(nC S).toArray⟩)) (hw0:Mod No w0 w)
  (hget:∀ W,Mod No w0 W->Calls prog 54 #[.pointer (some ⟨cb,0,none⟩),keyV S] W fun e w'=>(∃ u,e=.returned (.tuple #[u,.bool true]))/\Mod No W w')
  (hF:Fr 44 [(0,.pointer (some ⟨cb,0,none⟩)),(3,v),(14,.slice (some ⟨nb,no,none⟩) n nc),(15,.int .i64 (n:Int)),(16,.int .i64 (i:Int))] a) :
  Code.wp prog blkY1 (Exit.then (fun a' w'=>(∃ v',Fr 44 [(0,.pointer (some ⟨cb,0,none⟩)),(3,v'),(14,.slice (some ⟨nb,no,none⟩) n nc),(15,.int .i64 (n:Int)),(16,.int .i64 (i:Int))] a'/\w'.ownsRow base 47 32 v' (i+1) (keyCells (L.take (i+1))))/\base<=w'.heap.size/\Mod (fun p=>base<=p) w w') Nope) a w:=by
 refine wp_part fun J K' hJ hK=>?_
 obtain ⟨i0,hi0,hz0,hz1,hz2⟩:=info_parts info_key
 have hS:S.length=32:=hL S (List.mem_of_getElem? hSi)
 have HJ:=zh hJ
 clear hJ
 obtain ⟨ts,ds⟩:=a
 obtain ⟨hsz,hds,hs0,hs3,hs14,hs15,hs16,-⟩:=hF
 dsimp only at hsz hds hs0 hs3 hs14 hs15 hs16
 subst hds
 obtain ⟨c,rfl,hc⟩:=lit44 ts hsz
 rw [hc] at hs0
 rw [hc] at hs3
 rw [hc] at hs14
 rw [hc] at hs15
 rw [hc] at hs16
 simp only [hs0,hs3,hs14,hs15,hs16]
 clear hc hsz hs0 hs3 hs14 hs15 hs16
 have hii:(0:Int)<=(i:Int):=Int.natCast_nonneg _
 have hin:(i:Int) < (n:Int):=by omega
 have HTK:=zh (show keyCells (L.take (i+1))=keyCells (L.take i)++keyCells [S] by
  have h1:=List.getElem?_eq_some_iff.1 hSi
  rw [<- keyCells_append,List.take_succ_eq_append_getElem (by omega),h1.2])
 have HO:=zh hown
 have HB:=zh hb
 have HGT:=zh hget
 have HW0:=zh hw0
 have HPS:=zh (parse_any S hS)
 have hsl:=name_tail S hS
 generalize (⟨(nC S).toArray⟩:ByteArray)=NC at *
 generalize (⟨(hexL S).toArray⟩:ByteArray)=HX at *
 have HNL:=zh hn
 clear hown hb hget hw0 hSi hn
 conv=>arg 2;whnf
 go_wp2_with fail
 refine (HPS.out _).mono ?_
 rintro e w2 ⟨rfl,hm2⟩
 have HM2:=zh hm2
 clear hm2 HPS hc hsl
 go_wp2_with fail
 rw [run_row_new (by simp [hS]) (bv_one _)]
 obtain ⟨kb,hkb⟩:∃ kb,kb=w2.heap.size:=⟨_,rfl⟩
 rw [<- hkb]
 generalize hw3:World.setRow _ kb (bv S).toArray=w3
 have HK3:=zh (show w3.heap[kb]? = some (.cells (bv S).toArray 47 (0,0)) by rw [<- hw3,hkb];exact setRow_heap _ _ _ _ _ _ (heap_alloc_new w2 _))
 have hm3:Mod No w2 w3:=by rw [<- hw3];exact ((Mod.refl No w2).alloc _).setRow (fun e=>by omega) _
 have HM3:=zh (HM2.out.trans hm3)
 clear hw3 hm3 hkb HM2
 go_upto_region 6 with fail
 refine wp_region_lit ?_
 refine Great.wpList_runTo rfl (some 27) rfl (.pointer (some ⟨cb,0,none⟩)) _ rfl ?_
 refine wpList_load_row rfl 47 _ rfl kb rfl 47 (bv S).toArray (0,0) _ HK3.out underlying47 rfl (key_size hS) ?_
 go_wp2_with fail
 refine (HGT.out _ (HW0.out.trans HM3.out)).mono ?_
 rintro e w4 ⟨⟨u,rfl⟩,hm4⟩
 have HM4:=zh (HM3.out.trans hm4)
 have HK4:=zh (hm4.keep HK3.out (fun f=>f))
 clear hm4 HM3 HK3 HGT
 go_upto_region 8 with fail
 refine wp_region_lit ?_
 refine Great.wpList_runTo rfl (some 36) rfl v _ rfl ?_
 refine wpList_load_row rfl 47 _ rfl kb rfl 47 (bv S).toArray (0,0) _ HK4.out underlying47 rfl (key_size hS) ?_
 refine Great.wpList_runTo rfl (some 38) rfl (.slice (some ⟨w4.heap.size,0,none⟩) 1 1) (w4.alloc (.cells (keyCells [S]).toArray 47)) (by apply ybuild1 hS (.tmp 37) <;> rfl) ?_
 obtain ⟨g,hg⟩:∃ g,g=w4.heap.size:=⟨_,rfl⟩
 obtain ⟨w5,hw5⟩:∃ z,z=w4.alloc (.cells (keyCells [S]).toArray 47):=⟨_,rfl⟩
 rw [<- hg,<- hw5]
 have HG5:=zh (show w5.heap[g]? = some (.cells (keyCells [S]).toArray 47 (0,0)) by rw [hw5,hg];exact heap_alloc_new _ _)
 have HM5:=zh (show Mod No w w5 by rw [hw5];exact HM4.out.alloc _)
 have HO5:=zh (own_keepM HO.out HM5.out (fun _ _ f=>f))
 have HB5:=zh (show base<=w5.heap.size from Nat.le_trans HB.out HM5.out.size)
 clear hw5 hg HM4 HK4 HO
 refine app_sl w5 rfl (.tmp 36) (.tmp 38) 36 rfl base 47 i0 (keyV (List.replicate 32 0)) 32 32 underlying36 hi0 hz0 hz1 hz2 rfl (by decide) v i _ rfl HO5.out No 47 (.slice (some ⟨g,0,none⟩) 1 1) 1 (keyCells [S]) rfl (.inr ⟨g,0,1,_,_,rfl,Nat.le_refl _,by unfold maxLen;omega,fun f=>f,HG5.out,by simp,fun j hj=>by rw [Nat.zero_add,List.getElem?_toArray]⟩) (by rw [keyCells_length (fun T hT=>by simp at hT;rw [hT];exact hS)];rfl) (keyCells_one _) (by unfold maxLen;omega) (by omega) HB5.out ?_
 intro v6 w6 hown hg6 _
 rw [<- HTK.out] at hown
 have HO6:=zh hown
 have HM6:=zh (show Mod (fun p=>base<=p) w w6 from (HM5.out.weaken fun _ _ f=>f.elim:Mod (fun p=>base<=p) w w5).trans (Mod.of_grown hg6 (fun k e _=>(HO5.out.lt _ e).1)))
 have HB6:=zh (show base<=w6.heap.size from Nat.le_trans HB5.out hg6.size)
 clear hown hg6 HM5 HO5 HB5
 go_wp2_with fail
 exact Met.intro (HJ.out _ _ ⟨⟨_,⟨rfl,rfl,rfl,rfl,rfl,rfl,rfl,trivial⟩,HO6.out⟩,HB6.out,HM6.out⟩)
def LpKs (wb:World) (L:List (List UInt8)) (base cb n:Nat) (V14:Value) (k:Nat) (a:Act) (w:World):Prop :=
 ∃ i v,i+k=n/\base<=w.heap.size/\w.ownsRow base 47 32 v i (keyCells (L.take i))/\Mod (fun p=>base<=p) wb w/\Fr 44 [(0,.pointer (some ⟨cb,0,none⟩)),(3,v),(14,V14),(15,.int .i64 (n:Int)),(16,.int .i64 (i:Int))] a
set_option maxRecDepth 100000 in
set_option maxHeartbeats 4000000 in
theorem keysloop_any (L:List (List UInt8)) (hL:∀ S ∈ L,S.length=32) (base cb n:Nat) (v V14:Value) (f:Act) (w w0:World) (hn:n=L.length) (hn2:n<=100000) (hb:base=w.heap.size)
  (hown:w.ownsRow base 47 32 v 0 []) (hsl:Sl w No 9 V14 n (L.map fun S=>encStr (nC S))) (hw0:Mod No w0 w)
  (hget:∀ S ∈ L,∀ W,Mod No w0 W->Calls prog 54 #[.pointer (some ⟨cb,0,none⟩),keyV S] W fun e w'=>(∃ u,e=.returned (.tuple #[u,.bool true]))/\Mod No W w')
  (hF:Fr 44 [(0,.pointer (some ⟨cb,0,none⟩)),(3,v),(14,V14),(15,.int .i64 (n:Int)),(16,.int .i64 0)] f) :
  Code.wp prog blkY0 (Exit.then (fun a' w'=>(∃ v',Fr 44 [(3,v')] a'/\w'.ownsRow base 47 32 v' n (keyCells L))/\Mod (fun p=>base<=p) w w') Nope) f w:=by
 refine wp_part fun J K' hJ hK=>?_
 have H0:=zh (show LpKs w L base cb n V14 n f w from ⟨0,v,by omega,by omega,hown,Mod.refl _ w,hF⟩)
 have HJ:=zh hJ
 have HSL:=zh hsl
 have HGT:=zh hget
 have HW0:=zh hw0
 have HNL:=zh hn
 obtain ⟨wb,hwb⟩:∃ wb,wb=w:=⟨_,rfl⟩
 rw [<- hwb] at HJ H0 HSL HW0 hb
 have HBB:=zh hb
 clear hF hJ hown hsl hget hw0 hn hb
 conv=>arg 2;whnf
 go_step
 refine wp_loop_ghost_k (LpKs wb L base cb n V14) n (by rw [hwb] at H0 ⊢;exact H0.out) ?_
 clear H0 hwb f w v
 intro k f w hI J2 K2 hJ2 hK2
 have HJ2:=zh hJ2
 obtain ⟨i,v,hik,hb,hown,hmod,hF⟩:=hI
 have HO:=zh hown
 have HM:=zh hmod
 have HB:=zh hb
 clear hJ2 hown hmod hb
 obtain ⟨ts,ds⟩:=f
 obtain ⟨hsz,hds,hs0,hs3,hs14,hs15,hs16,-⟩:=hF
 dsimp only at hsz hds hs0 hs3 hs14 hs15 hs16
 subst hds
 obtain ⟨c,rfl,hc⟩:=lit44 ts hsz
 rw [hc] at hs0
 rw [hc] at hs3
 rw [hc] at hs14
 rw [hc] at hs15
 rw [hc] at hs16
 simp only [hs0,hs3,hs14,hs15,hs16]
 clear hc hsz hs0 hs3 hs14 hs15 hs16
 have hi0:(0:Int)<=(i:Int):=Int.natCast_nonneg _
 by_cases hi:i < n
 ·have hin:(i:Int) < (n:Int):=by omega
  obtain ⟨nb,no,nc,rfl,-,-,-⟩:=HSL.out.shape (by omega)
  have hiL:i < L.length:=by have:=HNL.out;omega
  have HSI:=zh (List.getElem?_eq_getElem hiL)
  have HSM:=zh (List.getElem_mem hiL)
  generalize L[i]=S at *
  have hcell:wb.cell? ⟨nb,no+i,none⟩=some (.string ⟨(nC S).toArray⟩):=by
   have h1:=HSL.out.cell (i:=i) (by simpa using hiL)
   rw [h1,List.getElem?_map,HSI.out]
   rfl
  have hlt:=lt_of_cell hcell
  dsimp only at hlt
  have HCE:=zh (HM.out.cell hcell (fun e=>by have e:base<=nb:=e;have:=HBB.out;omega))
  have HWW:=zh (show Mod No w0 w from HW0.out.then HM.out (fun q hq e=>by have e:base<=q:=e;have:=HBB.out;have:=HW0.out.size;omega))
  clear hcell hlt hiL
  go_upto_block 1 with fail
  rename_i K5 hK5
  refine wp_only (keystep_any L hL base cb nb no n nc i v S _ w w0 hi HNL.out hn2 HSI.out HB.out HO.out HCE.out HWW.out (HGT.out S HSM.out) ⟨rfl,rfl,rfl,rfl,rfl,rfl,rfl,trivial⟩) ?_
  rintro a2 w2 ⟨⟨v2,hF,hown2⟩,hb2,hm2⟩
  have HM2:=zh (HM.out.trans hm2)
  have HO2:=zh hown2
  have HB2:=zh hb2
  clear hown2 hb2 hm2 HO HB HCE HWW
  refine hK5 _ _ ?_
  obtain ⟨ts,ds⟩:=a2
  obtain ⟨hsz,hds,hs0,hs3,hs14,hs15,hs16,-⟩:=hF
  dsimp only at hsz hds hs0 hs3 hs14 hs15 hs16
  subst hds
  obtain ⟨c,rfl,hc⟩:=lit44 ts hsz
  rw [hc] at hs0
  rw [hc] at hs3
  rw [hc] at hs14
  rw [hc] at hs15
  rw [hc] at hs16
  simp only [hs0,hs3,hs14,hs15,hs16]
  clear hc hsz hs0 hs3 hs14 hs15 hs16
  clear hK5 K5
  go_wp2_with fail
  exact Handed.intro (k - 1) (by omega) (HJ2.out _ _ _ ⟨i+1,v2,by omega,HB2.out,HO2.out,HM2.out,rfl,rfl,rfl,rfl,rfl,rfl,by go_num,trivial⟩)
 ·obtain rfl:i=n:=by omega
  have HF:=zh (show w.ownsRow base 47 32 v i (keyCells L) by
   have h1:=HO.out
   rw [List.take_of_length_le (by have:=HNL.out;omega)] at h1
   exact h1)
  go_wp2_with fail
  exact Met.intro (HJ.out _ _ ⟨⟨_,⟨rfl,rfl,rfl,trivial⟩,HF.out⟩,HM.out⟩)
set_option maxRecDepth 100000 in
set_option maxHeartbeats 4000000 in
theorem ckeys_any {w0 w:World} {N sz b s n cnt cb:Nat} {O:Nat->Prop} {M:Mt} {A:List UInt8->Option (List UInt8)} (h:Sto w0 w N sz b s O n M cnt) (hc:CaObj w cb s) (hM:CaK M A) (hn:n<=100000) (hkn:∀ ks,KeysOfM M ks->ks.length<=100000) :
  Calls prog 37 #[.pointer (some ⟨cb,0,none⟩)] w fun e w'=>(∃ v L,e=.returned v/\(∀ S ∈ L,S.length=32)/\L.Pairwise (· < ·)/\(∀ S,S ∈ L ↔ (A S).isSome=true)/\w'.ownsRow w.heap.size 47 32 v L.length (keyCells L))/\Mod No w w':=by
 refine calls_hide fun R hR=>?_
 have H:=zh h
 have HM:=zh hM
 have HCB:=zh hc
 have HKN:=zh hkn
 have cc:=cell_of (i:=0) hc rfl
 have HKY:=zh (show Calls prog 90 #[.pointer (some ⟨s,0,none⟩),.string ⟨#[99,47]⟩] w fun e w'=>∃ v ks,e=.returned v/\KeysOfM M ks/\w'.ownsRow w.heap.size 9 1 v (ks.filter (pref [99,47])).length ((ks.filter (pref [99,47])).map encStr)/\Mod No w w' from h.keys hn [99,47])
 clear h hc hM hkn
 go_enter func37,ntmps37
 go_wp2_with fail
 refine HKY.out.mono ?_
 rintro e w1 ⟨V14,ks,rfl,hks,hown,hm1⟩
 obtain ⟨L,hLe,hL,hLs,hLm⟩:=HM.out.names hks
 have hll:L.length<=100000:=by
  have h1:=HKN.out ks hks
  have h2:(ks.filter (pref [99,47])).length<=ks.length:=List.length_filter_le _ _
  rw [hLe,List.length_map] at h2
  omega
 rw [hLe,List.length_map,List.map_map] at hown
 obtain ⟨m,hm⟩:∃ m,m=L.length:=⟨_,rfl⟩
 rw [<- hm] at hown
 have hsl:Sl w1 No 9 V14 m (L.map fun S=>encStr (nC S)):=Sl.of_own hown (fun _ _ f=>f)
 obtain ⟨na,nc,rfl⟩:=hsl.len
 have HSL:=zh hsl
 have HM1:=zh hm1
 have HLL:=zh (And.intro hm (And.intro hL (And.intro hLs hLm)))
 have hmm:m<=100000:=by omega
 have HGT:=zh (show ∀ S ∈ L,∀ W,Mod No w W->Calls prog 54 #[.pointer (some ⟨cb,0,none⟩),keyV S] W fun e w'=>(∃ u,e=.returned (.tuple #[u,.bool true]))/\Mod No W w' from fun S hS W hW=>by
  obtain ⟨l,hl⟩:=Option.isSome_iff_exists.1 ((hLm S).1 hS)
  have h2:=HM.out.sums S l hl
  refine (cget_some (H.out.stay hW) (hW.keep HCB.out (fun f=>f)) S l (hL S hS) (by omega) h2.1 (by rw [HM.out.c S (hL S hS),hl])).mono ?_
  rintro e w' ⟨⟨v,rfl,-⟩,hm⟩
  exact ⟨⟨v,rfl⟩,hm⟩)
 clear hown hm1 hLe hL hLs hLm hll hm hsl hks HKY
 go_upto_block 0 with fail
 rename_i K5 hK5
 clear cc
 refine wp_only (keysloop_any L HLL.out.2.1 w1.heap.size cb m (.slice none 0 0) (.slice na m nc) _ w1 w HLL.out.1 hmm rfl (World.ownsRow_nil _ _ _ _) HSL.out HM1.out HGT.out ⟨rfl,rfl,rfl,rfl,rfl,rfl,rfl,trivial⟩) ?_
 rintro a2 w2 ⟨⟨v2,hF,hown2⟩,hm2⟩
 have HM2:=zh (HM1.out.then hm2 (S:=No) (fun q hq e=>by have e:w1.heap.size<=q:=e;have:=HM1.out.size;omega))
 have HO2:=zh (show w2.ownsRow w.heap.size 47 32 v2 L.length (keyCells L) by
  rw [HLL.out.1] at hown2
  obtain ⟨q1,q2 | ⟨g,cap,cur,q3,q4,q5⟩⟩:=hown2
  ·exact ⟨q1,.inl q2⟩
  ·exact ⟨q1,.inr ⟨g,cap,cur,q3,Nat.le_trans HM1.out.size q4,q5⟩⟩)
 refine hK5 _ _ ?_
 clear hown2 hm2 hK5 K5
 obtain ⟨ts,ds⟩:=a2
 obtain ⟨hsz,hds,hs3,-⟩:=hF
 dsimp only at hsz hds hs3
 subst hds
 obtain ⟨c,rfl,hc⟩:=lit44 ts hsz
 rw [hc] at hs3
 simp only [hs3]
 clear hc hsz hs3
 go_wp2_with fail
 refine (sums_sorted HLL.out.2.1 HLL.out.2.2.1 (by have:=HLL.out.1;omega) HO2.out).mono ?_
 rintro e w3 ⟨rfl,hm3⟩
 have HM3:=zh (HM2.out.trans hm3)
 have HO3:=zh (own_keepM HO2.out hm3 (fun _ _ f=>f))
 clear hm3
 go_wp2_with fail
 exact fin hR ⟨⟨_,L,rfl,HLL.out.2.1,HLL.out.2.2.1,HLL.out.2.2.2,HO3.out⟩,HM3.out⟩
end Go.Proofs.YtmppeipgjcjdkaaGreatDoor
