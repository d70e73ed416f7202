/-
  Layers 0 to 14: helps of the laws of indexes. No statement is proved here; no condition.
-/
import Derived.Test.YticfcmdjplmaeaaGreatDoorX24
import Derived.Test.YticfcmdjplmaeaaGreatDoorX08
import Derived.Test.YticfcmdjplmaeaaGreatDoorX31
set_option maxRecDepth 100000
set_option maxHeartbeats 64000000
namespace Go.Proofs.YticfcmdjplmaeaaGreatDoor
open _root_.Go.Proofs.Tryz
open Go.RowKit Go.Sort Go.Shelf
structure RowsX (X:Nat->Prop) (w:World) (rv:Value) (xs:List RwX):Prop where
 sl:Sl w X 107 rv xs.length (xs.flatMap RwX.cells)
 pre:∀ x ∈ xs,Sl w X 9 x.pv x.r.v.pre.length (strs x.r.v.pre)
 sum:∀ x ∈ xs,x.r.sum.length=32
 small:∀ x ∈ xs,Small x.r.v
theorem RowsX.keep {X S:Nat->Prop} {w w':World} {rv:Value} {xs:List RwX} (h:RowsX X w rv xs) (hm:Mod S w w') (hs:∀ q,S q->X q):RowsX X w' rv xs :=
 ⟨h.sl.keep hm fun k _ _ a b=>absurd (hs k a) b,fun x hx=>(h.pre x hx).keep hm fun k _ _ a b=>absurd (hs k a) b,h.sum,h.small⟩
theorem RowsX.at_ {X:Nat->Prop} {w:World} {rv:Value} {xs:List RwX} (h:RowsX X w rv xs) {i:Nat} (hi:i < xs.length):∃ b o c,rv=.slice (some ⟨b,o,none⟩) xs.length c/\w.rangeAt b (o+i*39) (rxAt xs i).cells/\w.rangeAt b (o+i*39+1) (verCs (rxAt xs i).r.v (rxAt xs i).pv):=by
 obtain ⟨b,o,c,e,-,-,-⟩:=h.sl.shape (by omega);have h3:=h.sl;rw [e] at h3;have hget:rxAt xs i=xs[i]:=by unfold rxAt;simp [hi]
 have hr:=Sl.atM (fun x hx=>x.cells_length (h.sum x hx)) h3 hi;rw [<- hget] at hr;refine ⟨b,o,c,e,hr,fun j u hj=>?_⟩
 rw [Nat.add_assoc];refine hr (1+j) u ?_;have hlt:j < (verCs (rxAt xs i).r.v (rxAt xs i).pv).length:=(List.getElem?_eq_some_iff.1 hj).1;unfold RwX.cells;rw [Nat.add_comm 1 j,List.getElem?_cons_succ,List.getElem?_append_left hlt];exact hj
theorem madefn_any {X:Nat->Prop} {xs:List RwX} {rv:Value} {i j:Nat} (hi:i < xs.length) (hj:j < xs.length) (xb:Nat) (w:World) (h:RowsX X w rv xs) (hx:w.heap[xb]? = some (.cells #[rv] 54 (0,0))) :
  Calls prog 230 #[.int .i64 i,.int .i64 j,.pointer (some ⟨xb,0,none⟩)] w fun e w'=>e=.returned (.int .i64 (verC (rxAt xs j).r.v (rxAt xs i).r.v))/\Gr w w':=by
 refine calls_hide fun R hR=>?_
 obtain ⟨rb,ro,rc,hrv,-,hr1⟩:=h.at_ hi;obtain ⟨rb2,ro2,rc2,hrv2,-,hr2⟩:=h.at_ hj;rw [hrv] at hrv2;cases hrv2
 subst hrv;obtain ⟨ua,uc,hup⟩:=(h.pre _ (rxAt_mem hi)).len;obtain ⟨ta,tc,htp⟩:=(h.pre _ (rxAt_mem hj)).len;have HCM:=zh (fun (W:World) (hm:Mod No w W)=>vercmp_gr (rxAt xs j).r.v (rxAt xs i).r.v (h.small _ (rxAt_mem hj)) (h.small _ (rxAt_mem hi)) (rxAt xs j).pv (rxAt xs i).pv W (.of (((h.pre _ (rxAt_mem hj)).shrink (fun _ _ f=>f.elim)).kn hm)) (.of (((h.pre _ (rxAt_mem hi)).shrink (fun _ _ f=>f.elim)).kn hm)));have x0:=cell_ofA hx (i:=0) (v:=.slice (some ⟨rb,ro,none⟩) xs.length rc) rfl;rw [hup] at hr1 HCM;rw [htp] at hr2 HCM;unfold verCs at hr1 hr2;unfold verV at HCM;have hi1:(i:Int) < (xs.length:Int):=by omega
 have hi0:(0:Int)<=(i:Int):=Int.natCast_nonneg _;have hj1:(j:Int) < (xs.length:Int):=by omega
 have hj0:(0:Int)<=(j:Int):=Int.natCast_nonneg _;generalize verC (rxAt xs j).r.v (rxAt xs i).r.v=r at *;generalize (rxAt xs i).r.v.ma=v0 at *;generalize (rxAt xs i).r.v.mi=v1 at *;generalize (rxAt xs i).r.v.pa=v2 at *;generalize (rxAt xs i).r.v.pre.length=vn at *;generalize (rxAt xs j).r.v.ma=y0 at *;generalize (rxAt xs j).r.v.mi=y1 at *;generalize (rxAt xs j).r.v.pa=y2 at *;generalize (rxAt xs j).r.v.pre.length=yn at *;clear hup htp h hx;go_enter func230,ntmps230
 go_upto_region 1 with fail
 obtain ⟨wA,hwA⟩:∃ z,z=w.drew:=⟨_,rfl⟩
 have hgA:MG w wA:=by rw [hwA];exact (MG.refl w).drew
 have x0:=hgA.toMod.cell x0 (fun f=>f);have HLV:=zh (fun (W:World) (hm:MG wA W)=>load_verM (hm.toMod.rangeAt (hgA.toMod.rangeAt hr1 (fun f=>f)) (fun f=>f)));have HLY:=zh (fun (W:World) (hm:MG wA W)=>load_verM (hm.toMod.rangeAt (hgA.toMod.rangeAt hr2 (fun f=>f)) (fun f=>f)));have HGA:=zh hgA;have HWA:=zh hwA;have hS0:MG wA wA:=MG.refl _;clear hgA hwA hr1 hr2;refine wp_region_T (fun w'=>MG wA w') 99 (by kernel_rfl) ?_;rw [<- HWA.out];refine yT 0 (some 6) ?_ hS0 ?_ ?_;rotate_left
 ·(intro w' hSw;have q0:=hSw.toMod.cell x0 (fun f=>f);go_simp;try with_reducible rfl)
 simp only [Act.put,yB,yC,yD];refine yT 1 (some 7) ?_ hS0 ?_ ?_;rotate_left
 ·(intro w' hSw;have q0:=hSw.toMod.cell x0 (fun f=>f);go_simp;try with_reducible rfl)
 simp only [Act.put,yB,yC,yD];refine yT 2 (some 8) ?_ hS0 ?_ ?_;rotate_left
 ·(intro w' hSw;have q0:=hSw.toMod.cell x0 (fun f=>f);go_simp;try with_reducible rfl)
 simp only [Act.put,yB,yC,yD];refine yT 3 (some 9) ?_ hS0 ?_ ?_;rotate_left
 ·(intro w' hSw;have q0:=hSw.toMod.cell x0 (fun f=>f);go_simp;try with_reducible rfl)
 simp only [Act.put,yB,yC,yD];refine yT 4 (some 10) (.agg #[.int .i64 y0,.int .i64 y1,.int .i64 y2,.slice ta yn tc]) hS0 ?_ ?_
 ·(intro w' hSw;exact yloadZ (HLY.out w' hSw) (.tmp 9) rfl rfl)
 simp only [Act.put,yB,yC,yD];refine yT 5 (some 11) ?_ hS0 ?_ ?_;rotate_left
 ·(intro w' hSw;have q0:=hSw.toMod.cell x0 (fun f=>f);go_simp;try with_reducible rfl)
 simp only [Act.put,yB,yC,yD];refine yT 6 (some 12) ?_ hS0 ?_ ?_;rotate_left
 ·(intro w' hSw;have q0:=hSw.toMod.cell x0 (fun f=>f);go_simp;try with_reducible rfl)
 simp only [Act.put,yB,yC,yD];refine yT 7 (some 13) ?_ hS0 ?_ ?_;rotate_left
 ·(intro w' hSw;have q0:=hSw.toMod.cell x0 (fun f=>f);go_simp;try with_reducible rfl)
 simp only [Act.put,yB,yC,yD];refine yT 8 (some 14) ?_ hS0 ?_ ?_;rotate_left
 ·(intro w' hSw;have q0:=hSw.toMod.cell x0 (fun f=>f);go_simp;try with_reducible rfl)
 simp only [Act.put,yB,yC,yD];refine yT 9 (some 15) (.agg #[.int .i64 v0,.int .i64 v1,.int .i64 v2,.slice ua vn uc]) hS0 ?_ ?_
 ·(intro w' hSw;exact yloadZ (HLV.out w' hSw) (.tmp 14) rfl rfl)
 simp only [Act.put,yB,yC,yD];refine wpAnyT_one 10 rfl (by kernel_rfl) rfl ?_;intro K hK;go_simp
 go_at_call 231
 with_reducible refine (HCM.out wA HGA.out.toMod).mono ?_
 rintro e wB ⟨rfl,hB⟩;have HGB:=zh (HGA.out.trans hB);show K _ _
 have hS1:=hB;refine hK.out _ _ (fun _=>hS1) ?_;clear hK K;refine yT 11 (some 5) ?_ hS1 ?_ ?_;rotate_left
 ·(intro w' hSw;have q0:=hSw.toMod.cell x0 (fun f=>f);go_simp;try with_reducible rfl)
 simp only [Act.put];refine wpAnyT_done (by kernel_rfl) ?_ _
 go_wp2_with fail
 exact fin hR ⟨rfl,HGB.out.gr⟩
-- ------------------------------------------------------------------ insertion sort of numbers
theorem put_list1 {α:Type} [Inhabited α] (enc:α->Value) (d old:List α) (rest:List Value) (h:d.length=old.length):putCells enc 0 d.toArray (old.map enc++rest).toArray=(d.map enc++rest).toArray:=by
 unfold putCells;apply Array.ext
 ·simp [h]
 ·intro i h1 h2;simp only [Array.getElem_mapIdx,Nat.zero_le,true_and,Nat.zero_add,List.size_toArray,Nat.sub_zero];by_cases hi:i < d.length
  ·rw [if_pos hi];simp [hi]
  ·rw [if_neg hi];simp only [List.getElem_toArray];rw [List.getElem_append_right (by rw [List.length_map];omega),List.getElem_append_right (by rw [List.length_map];omega)];simp [h]
theorem world_sort1 {α:Type} [Inhabited α] (enc:α->Value) {w:World} {g:Nat} {ty:TypeId} {L d:List α} {rest:List Value} (hd:d.length=L.length) (h:w.heap[g]? = some (.cells (L.map enc++rest).toArray ty (0,0))) (n:Nat) (os:Array Obj) :
  (sortWorld enc w g 0 n d.toArray os).heap[g]? = some (.cells (d.map enc++rest).toArray ty (0,0))/\Mod (fun p=>p=g) w (sortWorld enc w g 0 n d.toArray os):=by
 have hg:=lt_of_heap h;have e:(sortWorld enc w g 0 n d.toArray os).heap=(w.heap.modify g (onCells (putCells enc 0 d.toArray)))++os:=by
  unfold sortWorld putRow grow mapBlock;rfl
 constructor
 ·rw [e,Array.getElem?_append_left (by rw [Array.size_modify];exact hg),Array.getElem?_modify,if_pos rfl,h];show some (Obj.cells (putCells enc 0 d.toArray (L.map enc++rest).toArray) ty (0,0))=_
  rw [put_list1 enc d L rest hd]
 ·refine ⟨rfl,rfl,rfl,?_,fun i hi hn=>?_⟩
  ·rw [e];simp
  ·rw [e,Array.getElem?_append_left (by rw [Array.size_modify];exact hi),Array.getElem?_modify,if_neg (fun e=>hn e.symm)]
def clampI (n i:Nat):Nat:=if i < n then i else 0
theorem clamp_lt {n i:Nat} (hn:0 < n):clampI n i < n:=by unfold clampI;split <;> omega
theorem clamp_of {n i:Nat} (h:i < n):clampI n i=i:=by unfold clampI;rw [if_pos h]
theorem map_clamp {n:Nat} {L:List Nat} (h:∀ i ∈ L,i < n):L.map (clampI n)=L:=by
 conv=>rhs;rw [<- List.map_id L]
 exact List.map_congr_left fun i hi=>clamp_of (h i hi)
def encI (n:Nat) (i:Nat):Value:=intV (clampI n i)
def cfI (xs:List RwX) (i j:Nat):Int:=verC (rxAt xs (clampI xs.length j)).r.v (rxAt xs (clampI xs.length i)).r.v
theorem cfI_lt (xs:List RwX) (i j:Nat):ltOf (cfI xs) i j=ltI (xs.map RwX.r) (clampI xs.length i) (clampI xs.length j):=by
 unfold ltOf cfI ltI;rw [rxAt_r,rxAt_r]
theorem sort_cfI {xs:List RwX} {L:List Nat} (h:∀ i ∈ L,i < xs.length):sortR (ltOf (cfI xs)) L=sortR (ltI (xs.map RwX.r)) L:=by
 have h1:(fun x y=>ltI (xs.map RwX.r) (clampI xs.length x) (clampI xs.length y))=ltOf (cfI xs):=by funext x y;rw [cfI_lt]
 have h2:=sortR_map (clampI xs.length) (ltI (xs.map RwX.r)) L;rw [h1,map_clamp h,map_clamp (fun i hi=>h i ((sortR_mem _ _ _).1 hi))] at h2;exact h2
theorem map_encI {n:Nat} {L:List Nat} (h:∀ i ∈ L,i < n):L.map (encI n)=L.map intV:=List.map_congr_left fun i hi=>by unfold encI;rw [clamp_of (h i hi)]
theorem one_encI (n:Nat):OneCell (encI n):=fun _=>rfl
theorem insint_any {X:Nat->Prop} {xs:List RwX} {rv:Value} (hx0:0 < xs.length) (xb g:Nat) (hgX:X g) (hgx:g ≠ xb) (L:List Nat) (hL:L.length<=1000000) (hLi:∀ i ∈ L,i < xs.length) (cap:Nat) (rest:List Value) (w:World) (hrw:RowsX X w rv xs) (hxb:w.heap[xb]? = some (.cells #[rv] 54 (0,0)))
  (h:w.heap[g]? = some (.cells (L.map intV++rest).toArray 3 (0,0))) :
  Calls prog 300 #[.slice (some ⟨g,0,none⟩) L.length cap,.int .i64 0,.int .i64 L.length,.func (.func 230) #[] #[.pointer (some ⟨xb,0,none⟩)]] w fun e w' =>
   e=.returned (.tuple #[])/\w'.heap[g]? = some (.cells ((sortR (ltI (xs.map RwX.r)) L).map intV++rest).toArray 3 (0,0))/\Mod (fun p=>p=g) w w':=by
 have hs:L.toArray.size=L.length:=by simp
 have h':w.heap[g]? = some (.cells (L.map (encI xs.length)++rest).toArray 3 (0,0)):=by rw [map_encI hLi];exact h
 have hholds:Go.Sort.Holds (encI xs.length) w g 0 L.toArray:=fun j hj=>by
  rw [hs] at hj;refine ⟨cell_ofA h' ?_,frozen_of _ h'⟩
  rw [Nat.zero_add,List.getElem?_toArray,List.getElem?_append_left (by rw [List.length_map];exact hj)];simp [hj]
 have hc:=Any.insertionSortCmpFunc_s Tryz.insIntJ (encI xs.length) (cfI xs) 230 #[.pointer (some ⟨xb,0,none⟩)] g 0 cap 0 L.length L.toArray L.toArray w w (fun _ _=>rfl)
  (fun m os dk hdk x y=>by
   have hw:=world_sort1 (encI xs.length) (d:=dk.toList) (by rw [Array.length_toList,hdk,hs]) h' m os;rw [Array.toArray_toList] at hw;refine (madefn_any (clamp_lt hx0) (clamp_lt hx0) xb _ (hrw.keep hw.2 (fun q e=>by rw [e];exact hgX)) (hw.2.keep hxb (fun e=>hgx e.symm))).mono fun e w' ⟨he,hgr⟩=>⟨he,hgr⟩)
  ⟨one_encI _,hholds,lt_of_heap h⟩ rfl ⟨0,#[],(sortWorld_start _ _ _ _ _ hholds).symm⟩ (Nat.zero_le _) (by rw [hs];exact Nat.le_refl _) (by rw [hs];omega)
 rw [hs] at hc;refine hc.mono fun e w' ⟨he,n,os,hw⟩=>⟨he,?_⟩
 rw [sort_list,sort_cfI hLi] at hw;rw [hw];have hw2:=world_sort1 (encI xs.length) (d:=sortR (ltI (xs.map RwX.r)) L) (sortR_length _ _) h' n os;rw [map_encI (fun i hi=>hLi i ((sortR_mem _ _ _).1 hi))] at hw2;exact hw2
theorem stint_any {X:Nat->Prop} {xs:List RwX} {rv:Value} (hx0:0 < xs.length) (xb g:Nat) (hgX:X g) (hgx:g ≠ xb) (L:List Nat) (hL:L.length<=19) (hLi:∀ i ∈ L,i < xs.length) (cap:Nat) (rest:List Value) (w:World) (hrw:RowsX X w rv xs) (hxb:w.heap[xb]? = some (.cells #[rv] 54 (0,0)))
  (h:w.heap[g]? = some (.cells (L.map intV++rest).toArray 3 (0,0))) :
  Calls prog 270 #[.slice (some ⟨g,0,none⟩) L.length cap,.int .i64 L.length,.func (.func 230) #[] #[.pointer (some ⟨xb,0,none⟩)]] w fun e w' =>
   e=.returned (.tuple #[])/\w'.heap[g]? = some (.cells ((sortR (ltI (xs.map RwX.r)) L).map intV++rest).toArray 3 (0,0))/\Mod (fun p=>p=g) w w':=by
 refine calls_hide fun R hR=>?_
 have HI:=zh (insint_any hx0 xb g hgX hgx L (by omega) hLi cap rest w hrw hxb h);obtain ⟨z,hz⟩:∃ z:Int,z=(L.length:Int):=⟨_,rfl⟩
 rw [<- hz] at HI ⊢;have hlt:¬ ((20:Int)<=z):=by omega
 have hlt2:¬ ((20:Int) < z):=by omega
 clear h hz hrw hxb hLi hgX hgx hL;generalize L.length=n at *;generalize (sortR (ltI (xs.map RwX.r)) L).map intV++rest=S at *;go_enter func270,ntmps270
 go_wp2_with fail
 go_loopw [7,8] (fun a b wr=>a=.int .i64 0/\b=.int .i64 20/\wr=w) (fun _ _ _=>0)
 case atStart=>exact ⟨rfl,rfl,rfl⟩
 case round =>
  obtain ⟨rfl,rfl,rfl⟩:=hrel;go_wp2_with fail
  with_reducible refine HI.out.mono ?_
  rintro e w2 ⟨rfl,hh,hm⟩;have HH:=zh hh;have HM:=zh hm;clear hh hm HI;go_wp2_with fail
  go_loopw [6] (fun a wr=>a=.int .i64 20/\wr=w2) (fun _ _=>0)
  case atStart=>exact ⟨rfl,rfl⟩
  case round =>
   obtain ⟨rfl,rfl⟩:=hrel;go_wp2_with fail
   go_end0
   exact fin hR ⟨rfl,HH.out,HM.out⟩
theorem sortint_any {X:Nat->Prop} {xs:List RwX} {rv:Value} (hx0:0 < xs.length) (xb g:Nat) (hgX:X g) (hgx:g ≠ xb) (L:List Nat) (hL:L.length<=19) (hLi:∀ i ∈ L,i < xs.length) (cap:Nat) (rest:List Value) (w:World) (hrw:RowsX X w rv xs) (hxb:w.heap[xb]? = some (.cells #[rv] 54 (0,0)))
  (h:w.heap[g]? = some (.cells (L.map intV++rest).toArray 3 (0,0))) :
  Calls prog 229 #[.slice (some ⟨g,0,none⟩) L.length cap,.func (.func 230) #[] #[.pointer (some ⟨xb,0,none⟩)]] w fun e w' =>
   e=.returned (.tuple #[])/\w'.heap[g]? = some (.cells ((sortR (ltI (xs.map RwX.r)) L).map intV++rest).toArray 3 (0,0))/\Mod (fun p=>p=g) w w':=by
 refine calls_hide fun R hR=>?_
 have HI:=zh (stint_any hx0 xb g hgX hgx L hL hLi cap rest w hrw hxb h);clear h hrw hxb hLi hgX hgx;generalize L.length=n at *;generalize (sortR (ltI (xs.map RwX.r)) L).map intV++rest=S at *;go_enter func229,ntmps229
 go_wp2_with fail
 with_reducible refine HI.out.mono ?_
 rintro e w2 ⟨rfl,hh,hm⟩;have HH:=zh hh;have HM:=zh hm;clear hh hm HI;go_wp2_with fail
 go_end0
 exact fin hR ⟨rfl,HH.out,HM.out⟩
end Go.Proofs.YticfcmdjplmaeaaGreatDoor
