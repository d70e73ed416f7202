/-
  Layers 0 to 14: helps of the laws of indexes. No statement is proved here; no condition.
-/
import Derived.Test.YtmppeipgjcjdkaaGreatDoorX30
import Derived.Test.YtmppeipgjcjdkaaGreatDoorX25
import Derived.Test.YtmppeipgjcjdkaaGreatDoorX31
import Derived.Test.YtmppeipgjcjdkaaGreatDoorX03
import Derived.Great.Walk
namespace Go.Proofs.YtmppeipgjcjdkaaGreatDoor
open _root_.Go.Proofs.Tryz
open Go.RowKit Go.Maps Go.Sort
abbrev K32:={l:List UInt8 // l.length=32}
instance:Inhabited K32:=⟨⟨List.replicate 32 0,by simp⟩⟩
theorem isAggK (w:World):(isAgg 47).run prog w=.ok true w:=by kernel_rfl
theorem sizeOfK (w:World):(Go.sizeOf 47).run prog w=.ok 32 w:=by kernel_rfl
def keyCells (L:List (List UInt8)):List Value:=L.flatMap bv
theorem keyCells_length {L:List (List UInt8)} (h:∀ S ∈ L,S.length=32):(keyCells L).length=L.length*32:=by
 induction L with
 | nil=>rfl
 | cons S L ih =>
  have h1:=ih fun T hT=>h T (by simp [hT])
  have h2:=h S (by simp)
  unfold keyCells at *
  rw [List.flatMap_cons,List.length_append,h1,List.length_cons,bv_length,h2]
  omega
theorem run_loadKeyAt {w:World} {g off:Nat} {S:List UInt8} (hS:S.length=32) (hg:∀ j,j < 32->w.cell? ⟨g,off+j,none⟩=(bv S)[j]?) :
  (loadVar 47 ⟨g,off,none⟩).run prog w=.ok (keyV S) w:=by
 have hl:=run_loadCells_list (P:=prog) w ⟨g,off,none⟩ (bv S) (fun j v hv=>by
  have hj:j < (bv S).length:=(List.getElem?_eq_some_iff.1 hv).1
  rw [Addr.add_lit,hg j (by rw [bv_length,hS] at hj;exact hj)]
  exact hv)
 rw [bv_length,hS] at hl
 have ha:(isAgg 47).run prog w=.ok true w:=isAggK w
 have hs:(Go.sizeOf 47).run prog w=.ok 32 w:=sizeOfK w
 unfold loadVar
 simp only [Sem.run_bind,ha,Result.andThen_ok,hs,if_true,hl]
 rfl
theorem yloadAt {w:World} {g off:Nat} {S:List UInt8} {o:Oper} {ρ:Operand->Value} (hS:S.length=32) (hg:∀ j,j < 32->w.cell? ⟨g,off+j,none⟩=(bv S)[j]?) (x:Operand) (ho:o.op=.load 47 x) (hx:ρ x=.pointer (some ⟨g,off,none⟩)) :
  (execOp ρ o).run prog w=.ok (.value (keyV S)) w:=by
 unfold execOp
 simp only [ho,hx,Instr.loadAt,Instr.sureAddr,Sem.run_bind,Sem.run_pure,Result.andThen_ok,run_loadKeyAt hS hg]
theorem keyCells_get {L:List (List UInt8)} (h:∀ S ∈ L,S.length=32) {i j:Nat} (hi:i < L.length) (hj:j < 32):(keyCells L)[32*i+j]? = (bv L[i])[j]?:=by
 induction L generalizing i with
 | nil=>simp at hi
 | cons S L ih =>
  have hS:=h S (by simp)
  have e:keyCells (S :: L)=bv S++keyCells L:=rfl
  rw [e]
  cases i with
  | zero =>
   rw [List.getElem?_append_left (by rw [bv_length,hS];omega)]
   simp
  | succ i =>
   rw [List.getElem?_append_right (by rw [bv_length,hS];omega),bv_length,hS,show 32*(i+1)+j - 32=32*i+j by omega,ih (fun T hT=>h T (by simp [hT])) (by simpa using hi)]
   rfl
end Go.Proofs.YtmppeipgjcjdkaaGreatDoor
namespace Go.Proofs.YtmppeipgjcjdkaaGreatDoor
open _root_.Go.Proofs.Tryz
open Go.RowKit Go.Maps
theorem key_cell {w:World} {b o c:Nat} {K:List (List UInt8)} (hK:∀ S ∈ K,S.length=32) (h:SvX w No (.slice (some ⟨b,o,none⟩) K.length c) K.length (keyCells K)) {k:Nat} (hk:k < K.length):∀ j,j < 32->w.cell? ⟨b,o+k*32+j,none⟩=(bv K[k])[j]?:=fun j hj=>by
 have h1:=keyCells_get hK hk hj
 have h2:32*k+j < (keyCells K).length:=by rw [keyCells_length hK];omega
 have h3:=h.cellN h2
 rw [List.getElem?_eq_getElem h2] at h1
 rw [show o+k*32+j=o+(32*k+j) by omega,h3,h1]
set_option maxRecDepth 100000 in
set_option maxHeartbeats 4000000 in
theorem hkeys_any (K:List (List UInt8)) (hK:∀ S ∈ K,S.length=32) (v u:Value) (w:World) (hv:SvX w No v K.length (keyCells K)) (hu:SvX w No u K.length (keyCells K)) :
  Calls prog 35 #[v,u] w fun e w'=>e=.returned (.bool true)/\Mod No w w':=by
 refine calls_hide fun R hR=>?_
 have HV:=zh hv
 have HU:=zh hu
 have HK:=zh hK
 have hlen:=hv.lenle
 obtain ⟨va,vc,rfl⟩:=hv.1
 obtain ⟨ua,uc,rfl⟩:=hu.1
 clear hv hu hK
 go_enter func35,ntmps35
 go_wp2_with fail
 go_loopw [5] (fun q wr=>∃ k:Nat,k<=K.length/\q=.int .i64 (k:Int)/\Mod No w wr) (fun q _=>K.length - (intOf q).toNat)
 case atStart=>exact ⟨0,Nat.zero_le _,rfl,Mod.refl _ _⟩
 case round =>
  obtain ⟨k,hk,rfl,hm⟩:=hrel
  have hk0:(0:Int)<=(k:Int):=Int.natCast_nonneg _
  have HM:=zh hm
  clear hm
  by_cases hlt:k < K.length
  ·have hk1:(k:Int) < (K.length:Int):=by omega
   obtain ⟨b,o,c,hvs,_⟩:=HV.out.shape (by omega)
   cases hvs
   obtain ⟨b2,o2,c2',hus,_⟩:=HU.out.shape (by omega)
   cases hus
   have HS:=zh (HK.out _ (List.getElem_mem hlt))
   obtain ⟨wD,hwD⟩:∃ y,y=wr.drew:=⟨_,rfl⟩
   have hmD:Mod No wr wD:=by rw [hwD];exact (Mod.refl No wr).drew
   have HMD:=zh (HM.out.trans hmD)
   have HC1:=zh (key_cell HK.out (HV.out.kn HMD.out) hlt)
   have HC2:=zh (key_cell HK.out (HU.out.kn HMD.out) hlt)
   generalize K[k]=S at *
   have HWD:=zh hwD
   have hS0:wD=wD:=rfl
   clear hwD hmD
   go_upto_region 6 with fail
   refine wp_region_T (fun w'=>w'=wD) 99 (by kernel_rfl) ?_
   rw [<- HWD.out]
   refine yT 0 (some 17) ?_ hS0 ?_ ?_
   rotate_left
   ·(intro w' hSw;subst hSw;go_simp;try with_reducible rfl)
   simp only [Act.put,yB,yC,yD]
   refine yT 1 (some 18) ?_ hS0 ?_ ?_
   rotate_left
   ·(intro w' hSw;subst hSw;go_simp;try with_reducible rfl)
   simp only [Act.put,yB,yC,yD]
   refine yT 2 (some 19) ?_ hS0 ?_ ?_
   rotate_left
   ·(intro w' hSw;subst hSw;go_simp;try with_reducible rfl)
   simp only [Act.put,yB,yC,yD]
   refine yT 3 (some 20) (keyV S) hS0 ?_ ?_
   ·(intro w' hSw;subst hSw;apply yloadAt HS.out HC1.out (.tmp 19) <;> rfl)
   simp only [Act.put,yB,yC,yD]
   refine yT 4 (some 21) ?_ hS0 ?_ ?_
   rotate_left
   ·(intro w' hSw;subst hSw;go_simp;try with_reducible rfl)
   simp only [Act.put,yB,yC,yD]
   refine yT 5 (some 22) ?_ hS0 ?_ ?_
   rotate_left
   ·(intro w' hSw;subst hSw;go_simp;try with_reducible rfl)
   simp only [Act.put,yB,yC,yD]
   refine yT 6 (some 23) ?_ hS0 ?_ ?_
   rotate_left
   ·(intro w' hSw;subst hSw;go_simp;try with_reducible rfl)
   simp only [Act.put,yB,yC,yD]
   refine yT 7 (some 24) (keyV S) hS0 ?_ ?_
   ·(intro w' hSw;subst hSw;apply yloadAt HS.out HC2.out (.tmp 23) <;> rfl)
   simp only [Act.put,yB,yC,yD]
   refine wpAnyT_takeV 8 (some 25) (.bool (!decide (S=S))) rfl rfl (by kernel_rfl) (fun _ _ _ h=>h) hS0 (Or.inl ⟨by rfl,?_⟩) ?_
   ·(intro w' hSw;subst hSw;apply yne HS.out HS.out (.tmp 20) (.tmp 24) <;> rfl)
   simp only [Act.put]
   refine wpAnyT_done (by kernel_rfl) ?_ _
   rw [show (!decide True)=false by simp]
   go_wp2_with fail
   exact ⟨⟨k+1,by omega,by simp,HMD.out⟩,by show K.length - ((k:Int)+1).toNat < K.length - (k:Int).toNat;omega⟩
  ·have hk1:¬ (k:Int) < (K.length:Int):=by omega
   go_wp2_with fail
   exact fin hR ⟨rfl,HM.out⟩
set_option maxRecDepth 100000 in
set_option maxHeartbeats 4000000 in
theorem eqkeys_any (K:List (List UInt8)) (hK:∀ S ∈ K,S.length=32) (v u:Value) (w:World) (hv:SvX w No v K.length (keyCells K)) (hu:SvX w No u K.length (keyCells K)) :
  Calls prog 39 #[v,u] w fun e w'=>e=.returned (.bool true)/\Mod No w w':=by
 refine calls_hide fun R hR=>?_
 have HV:=zh hv
 have HU:=zh hu
 have HK:=zh hK
 have hlen:=hv.lenle
 obtain ⟨va,vc,rfl⟩:=hv.1
 obtain ⟨ua,uc,rfl⟩:=hu.1
 clear hv hu hK
 go_enter func39,ntmps39
 go_wp2_with fail
 go_loopw [13] (fun q wr=>∃ k:Nat,k<=K.length/\q=.int .i64 (k:Int)/\Mod No w wr) (fun q _=>K.length - (intOf q).toNat)
 case atStart=>exact ⟨0,Nat.zero_le _,rfl,Mod.refl _ _⟩
 case round =>
  obtain ⟨k,hk,rfl,hm⟩:=hrel
  have hk0:(0:Int)<=(k:Int):=Int.natCast_nonneg _
  have HM:=zh hm
  clear hm
  by_cases hlt:k < K.length
  ·have hk1:(k:Int) < (K.length:Int):=by omega
   obtain ⟨b,o,c,hvs,_⟩:=HV.out.shape (by omega)
   cases hvs
   obtain ⟨b2,o2,c2',hus,_⟩:=HU.out.shape (by omega)
   cases hus
   have HS:=zh (HK.out _ (List.getElem_mem hlt))
   obtain ⟨wD,hwD⟩:∃ y,y=wr.drew:=⟨_,rfl⟩
   have hmD:Mod No wr wD:=by rw [hwD];exact (Mod.refl No wr).drew
   have HMD:=zh (HM.out.trans hmD)
   have HC1:=zh (key_cell HK.out (HV.out.kn HMD.out) hlt)
   have HC2:=zh (key_cell HK.out (HU.out.kn HMD.out) hlt)
   generalize K[k]=S at *
   have HWD:=zh hwD
   have hS0:wD=wD:=rfl
   clear hwD hmD
   go_upto_region 6 with fail
   refine wp_region_T (fun w'=>w'=wD) 99 (by kernel_rfl) ?_
   rw [<- HWD.out]
   refine yT 0 (some 16) ?_ hS0 ?_ ?_
   rotate_left
   ·(intro w' hSw;subst hSw;go_simp;try with_reducible rfl)
   simp only [Act.put,yB,yC,yD]
   refine yT 1 (some 17) ?_ hS0 ?_ ?_
   rotate_left
   ·(intro w' hSw;subst hSw;go_simp;try with_reducible rfl)
   simp only [Act.put,yB,yC,yD]
   refine yT 2 (some 18) ?_ hS0 ?_ ?_
   rotate_left
   ·(intro w' hSw;subst hSw;go_simp;try with_reducible rfl)
   simp only [Act.put,yB,yC,yD]
   refine yT 3 (some 19) (keyV S) hS0 ?_ ?_
   ·(intro w' hSw;subst hSw;apply yloadAt HS.out HC1.out (.tmp 18) <;> rfl)
   simp only [Act.put,yB,yC,yD]
   refine yT 4 (some 20) ?_ hS0 ?_ ?_
   rotate_left
   ·(intro w' hSw;subst hSw;go_simp;try with_reducible rfl)
   simp only [Act.put,yB,yC,yD]
   refine yT 5 (some 21) ?_ hS0 ?_ ?_
   rotate_left
   ·(intro w' hSw;subst hSw;go_simp;try with_reducible rfl)
   simp only [Act.put,yB,yC,yD]
   refine yT 6 (some 22) ?_ hS0 ?_ ?_
   rotate_left
   ·(intro w' hSw;subst hSw;go_simp;try with_reducible rfl)
   simp only [Act.put,yB,yC,yD]
   refine yT 7 (some 23) (keyV S) hS0 ?_ ?_
   ·(intro w' hSw;subst hSw;apply yloadAt HS.out HC2.out (.tmp 22) <;> rfl)
   simp only [Act.put,yB,yC,yD]
   refine wpAnyT_takeV 8 (some 24) (.bool (!decide (S=S))) rfl rfl (by kernel_rfl) (fun _ _ _ h=>h) hS0 (Or.inl ⟨by rfl,?_⟩) ?_
   ·(intro w' hSw;subst hSw;apply yne HS.out HS.out (.tmp 19) (.tmp 23) <;> rfl)
   simp only [Act.put]
   refine wpAnyT_done (by kernel_rfl) ?_ _
   rw [show (!decide True)=false by simp]
   go_wp2_with fail
   exact ⟨⟨k+1,by omega,by simp,HMD.out⟩,by show K.length - ((k:Int)+1).toNat < K.length - (k:Int).toNat;omega⟩
  ·have hk1:¬ (k:Int) < (K.length:Int):=by omega
   go_wp2_with fail
   exact fin hR ⟨rfl,HM.out⟩
set_option maxRecDepth 100000 in
set_option maxHeartbeats 4000000 in
theorem ckeys_none {w0 w:World} {N sz b s n cnt cb:Nat} {O:Nat->Prop} {M:Mt} (h:Sto w0 w N sz b s O n M cnt) (hc:CaObj w cb s) (hn:n<=100000) (hno:∀ ks,KeysOfM M ks->ks.filter (pref [99,47])=[]) :
  Calls prog 37 #[.pointer (some ⟨cb,0,none⟩)] w fun e w'=>e=.returned (.slice none 0 0)/\Mod No w w':=by
 refine calls_hide fun R hR=>?_
 have HNO:=zh hno
 have cc:=cell_of (i:=0) hc rfl
 have HKY:=zh (show Calls prog 90 #[.pointer (some ⟨s,0,none⟩),.string ⟨#[99,47]⟩] w fun e w'=>∃ v ks,e=.returned v/\KeysOfM M ks/\w'.ownsRow w.heap.size 9 1 v (ks.filter (pref [99,47])).length ((ks.filter (pref [99,47])).map encStr)/\Mod No w w' from h.keys hn [99,47])
 have HSN:=zh (show ∀ W,Calls prog 92 #[.slice none 0 0,.func (.func 93) #[] #[]] W fun e w'=>e=.returned (.tuple #[])/\w'=W from fun W=>AnyF.slices_SortFunc_none Tryz.sortK none 0 _ W)
 clear h hc hno
 go_enter func37,ntmps37
 go_wp2_with fail
 refine HKY.out.mono ?_
 rintro e w1 ⟨V14,ks,rfl,hks,hown,hm1⟩
 rw [HNO.out ks hks] at hown
 obtain ⟨na,nc,rfl⟩:=own_len hown
 have HM1:=zh hm1
 clear hown hks hm1 HKY HNO cc
 go_wp2_with fail
 go_loopw [3,16] (fun v u wr=>v=.slice none 0 0/\u=.int .i64 0/\wr=w1) (fun _ _ _=>0)
 case atStart=>exact ⟨rfl,rfl,rfl⟩
 case round =>
  obtain ⟨rfl,rfl,rfl⟩:=hrel
  go_wp2_with fail
  with_reducible refine (HSN.out _).mono ?_
  rintro e w2 ⟨rfl,h2⟩
  rw [h2]
  clear h2 HSN
  go_wp2_with fail
  exact fin hR ⟨rfl,HM1.out⟩
end Go.Proofs.YtmppeipgjcjdkaaGreatDoor
