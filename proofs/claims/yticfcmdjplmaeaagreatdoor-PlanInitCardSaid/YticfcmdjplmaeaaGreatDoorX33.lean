/-
  Layers 0 to 14: helps of the laws of indexes. No statement is proved here; no condition.
-/
import Derived.Test.YticfcmdjplmaeaaGreatDoorX30
import Derived.Test.YticfcmdjplmaeaaGreatDoorX32
set_option maxRecDepth 100000
set_option maxHeartbeats 64000000
namespace Go.Proofs.YticfcmdjplmaeaaGreatDoor
open _root_.Go.Proofs.Tryz
open Go.RowKit Go.Maps
def idxL (xs:List RwX) (k:Nat) (n:List UInt8):List Nat:=(List.range k).filter fun i=>decide ((rxAt xs i).r.name=n)
theorem idxL_push (xs:List RwX) (k:Nat):pushA (idxL xs k) (rxAt xs k).r.name k=idxL xs (k+1):=by
 funext n;unfold pushA idxL;rw [List.range_succ,List.filter_append];by_cases h:n=(rxAt xs k).r.name
 ·subst h;simp
 ·rw [if_neg h];have h2:¬ (rxAt xs k).r.name=n:=fun e=>h e.symm
  simp [h2]
theorem idxL_all (xs:List RwX) (n:List UInt8):sortR (ltI (xs.map RwX.r)) (idxL xs xs.length n)=rowsN (xs.map RwX.r) n:=by
 unfold idxL rowsN;rw [List.length_map];congr 1
 congr 1
 funext i;rw [rxAt_r]
theorem idxL_le (xs:List RwX) (k:Nat) (n:List UInt8):(idxL xs k n).length<=k:=by
 unfold idxL;exact Nat.le_trans (List.length_filter_le _ _) (by simp)
theorem idxL_lt {xs:List RwX} {k:Nat} {n:List UInt8} {i:Nat} (h:i ∈ idxL xs k n):i < k:=by
 unfold idxL at h;exact List.mem_range.1 (List.mem_filter.1 h).1
theorem Sl.of_ownB {X:Nat->Prop} {w:World} {base:Nat} {e:TypeId} {size:Nat} {v:Value} {n:Nat} {xs:List Value} (h:w.ownsRow base e size v n xs) (hx:∀ q,v.ownBlock=some q->¬ X q):Sl w X e v n xs:=by
 rcases Sl.of_own (X:=No) h (fun _ _ f=>f) with h | ⟨blk,o,c,cur,fz,hv,h1,h2,-,h3⟩
 ·exact .inl h
 ·refine .inr ⟨blk,o,c,cur,fz,hv,h1,h2,hx blk ?_,h3⟩
  obtain ⟨-,⟨e1,-⟩ | ⟨g,cap,cur2,e1,-,-,-⟩⟩:=h
  ·rw [hv] at e1;cases e1
  ·rw [hv] at e1 ⊢;cases e1;rfl
theorem NdL.shrink {X Y:Nat->Prop} {w:World} {v:Value} {ns:List NdX} (h:NdL X w v ns) (hy:∀ k,k < w.heap.size->Y k->X k):NdL Y w v ns :=
 ⟨h.sl.shrink hy,fun y hy2=>by
  obtain ⟨xs,h1,h2,h3⟩:=h.each y hy2;exact ⟨xs,h1,fun x hx=>(h2 x hx).shrink hy,h3.shrink hy⟩⟩
theorem flat_one (l:List Nat):(l.flatMap fun i:Nat=>[Value.int .i64 i])=l.map intV:=by
 induction l with
 | nil=>rfl
 | cons i l ih=>rw [List.flatMap_cons,ih];rfl
structure SgIn (xs:List RwX) (nx:Nat->List NdX) (nn:List NdX) (names:List (List UInt8)):Prop where
 few:xs.length<=19
 name:∀ x ∈ xs,x.r.name.length<=1000000
 some_:∃ l:List (List UInt8),l.length<=12/\∀ x ∈ xs,x.r.name ∈ l
 nds:∀ i,i < xs.length->(nx i).map NdX.n=(rxAt xs i).r.needs/\NdGood (nx i)/\∀ y ∈ nx i,y.n.name ∈ names
 need:NdGood nn/\∀ y ∈ nn,y.n.name ∈ names
 fewn:names.length<=100000
 nlen:∀ n ∈ names,n.length<=1000000
structure SMade (w w':World) (g:Sg) (xs:List RwX) (nn:List NdX) (rv:Value):Prop where
 ok:g.Ok
 far:g.Far0
 xs:g.xs=xs
 nn:g.nn=nn
 rv:g.rv=rv
 at_:SrAt w' g (fun _=>none) (fun _=>none) (fun _=>[])
 new:∀ q,g.out q->w.heap.size<=q
 mod:Mod No w w'
theorem smade_any (xs:List RwX) (nx:Nat->List NdX) (nn:List NdX) (names:List (List UInt8)) (hin:SgIn xs nx nn names) (rv nv:Value) (bud:Int) (hb1:1048576<=bud) (w:World) (h0:0 < w.heap.size) (hrw:RowsX (fun q=>w.heap.size<=q) w rv xs)
  (hnds:∀ i,i < xs.length->NdL (fun q=>w.heap.size<=q) w (rxAt xs i).nv (nx i)) (hnn:NdL (fun q=>w.heap.size<=q) w nv nn) :
  Calls prog 177 #[rv,nv,.int .i64 bud] w fun e w'=>∃ g:Sg,e=.returned (.pointer (some ⟨g.sb,0,none⟩))/\SMade w w' g xs nn rv:=by
 refine calls_hide fun R hR=>?_
 have hmm:=@run_makeMap prog;obtain ⟨ra,rc,hrv⟩:=hrw.sl.len;obtain ⟨na,nc,hnv⟩:=hnn.sl.len;subst hrv hnv;obtain ⟨n,hn⟩:∃ n,n=xs.length:=⟨_,rfl⟩
 obtain ⟨n0,hn0⟩:∃ n,n=w.heap.size:=⟨_,rfl⟩
 have hn19:=hin.few;rw [<- hn0] at hrw hnds hnn h0;rw [<- hn] at hrw hn19 ⊢;obtain ⟨nnl,hnnl⟩:∃ q,q=nn.length:=⟨_,rfl⟩
 rw [<- hnnl] at hnn ⊢;have HIN:=zh hin;have HRW:=zh hrw;have HNDS:=zh hnds;have HNN:=zh hnn;have HN:=zh hn;have HN0:=zh hn0;have HP0:=zh h0;obtain ⟨i0,hi0,hz0,hz1,hz2⟩:=info_parts info_intS;have HI:=zh (And.intro hi0 (And.intro hz0 (And.intro hz1 hz2)));clear hin hrw hnds hnn hn hn0 hi0 hz0 hz1 hz2 h0 hnnl;go_enter func177,ntmps177
 go_upto_region 2 with fail
 clear hmm;rw [<- HN0.out];generalize hw1:World.alloc (World.alloc (World.alloc (World.alloc (World.alloc (World.alloc w _) _) _) _) _) _=w1;have hs0:w.heap.size=n0:=HN0.out.symm;have HS1:=zh (show w1.heap.size=n0+6 by rw [<- hw1];simp [hs0]);have HXB:=zh (show w1.heap[n0]? = some (.cells #[.slice ra n rc] 54 (0,0)) by
  rw [<- hw1];refine heap_alloc_old _ (heap_alloc_old _ (heap_alloc_old _ (heap_alloc_old _ (heap_alloc_old _ (heap_at_new w _ hs0.symm)))))
  )
 have HBB:=zh (show NMp w1 (n0+1) (fun _=>none) by
  rw [<- hw1];have h:=NMp.made (w.alloc (.cells #[.slice ra n rc] 54));rw [World.size_alloc,hs0] at h;exact (((h.keep ((Mod.refl No _).alloc _) (fun f=>f)).keep ((Mod.refl No _).alloc _) (fun f=>f)).keep ((Mod.refl No _).alloc _) (fun f=>f)).keep ((Mod.refl No _).alloc _) (fun f=>f))
 have HFB:=zh (show NMp w1 (n0+2) (fun _=>none) by
  rw [<- hw1];have h:=NMp.made ((w.alloc (.cells #[.slice ra n rc] 54)).alloc (.map #[] 0));rw [World.size_alloc,World.size_alloc,hs0] at h;exact ((h.keep ((Mod.refl No _).alloc _) (fun f=>f)).keep ((Mod.refl No _).alloc _) (fun f=>f)).keep ((Mod.refl No _).alloc _) (fun f=>f))
 have HCB:=zh (show NMp w1 (n0+3) (fun _=>none) by
  rw [<- hw1];have h:=NMp.made (((w.alloc (.cells #[.slice ra n rc] 54)).alloc (.map #[] 0)).alloc (.map #[] 0));rw [World.size_alloc,World.size_alloc,World.size_alloc,hs0] at h;exact (h.keep ((Mod.refl No _).alloc _) (fun f=>f)).keep ((Mod.refl No _).alloc _) (fun f=>f))
 have HAB:=zh (show NMp w1 (n0+4) (fun _=>none) by
  rw [<- hw1];have h:=NMp.made ((((w.alloc (.cells #[.slice ra n rc] 54)).alloc (.map #[] 0)).alloc (.map #[] 0)).alloc (.map #[] 0));rw [World.size_alloc,World.size_alloc,World.size_alloc,World.size_alloc,hs0] at h;exact h.keep ((Mod.refl No _).alloc _) (fun f=>f))
 have HSB:=zh (show w1.heap[n0+5]? = some (.cells #[.slice ra n rc,.slice na nnl nc,.map (some (n0+1)),.map (some (n0+2)),.map (some (n0+3)),.map (some (n0+4)),.int .i64 bud,.bool false] 326 (0,0)) by
  rw [<- hw1];exact heap_at_new _ _ (by simp [hs0]))
 have HM1:=zh (show Mod No w w1 by rw [<- hw1];exact ((((((Mod.refl No w).alloc _).alloc _).alloc _).alloc _).alloc _).alloc _);clear hw1 hs0;obtain ⟨B,hB⟩:∃ B,B=n0+6:=⟨_,rfl⟩
 rw [<- hB] at HS1;have x0:=cell_ofA HXB.out (i:=0) (v:=.slice ra n rc) rfl;go_wp2_with fail
 clear x0;go_loopw [23] (fun q wr=>∃ (k:Nat) (F:Vt),k<=n/\q=.int .i64 (k:Int)/\IdxAt wr B (n0+1) F (idxL xs k)/\(∀ a,F a ≠ none->idxL xs k a ≠ [])/\Mod (fun q=>q=n0+1\/B<=q) w1 wr) (fun q _=>n - (intOf q).toNat)
 case atStart=>exact ⟨0,fun _=>none,by omega,rfl,⟨HBB.out,(fun _ _ h=>by cases h),(fun _ _=>rfl),(fun _ _ _ _ _ h=>by cases h)⟩,(fun a h=>absurd rfl h),Mod.refl _ _⟩
 case round =>
  obtain ⟨k,F,hk,rfl,hia,hne,hmod⟩:=hrel;have HIA:=zh hia;have HNE:=zh hne;have HM:=zh hmod;have hk0:(0:Int)<=(k:Int):=Int.natCast_nonneg _;have HMN:=zh (show Mod No w wr from HM1.out.then hmod (fun q hq e=>by have:=HN0.out;rcases e with e | e <;> omega));have HRWR:=zh ((HRW.out.keep HM1.out (fun _ f=>f.elim)).keep hmod (fun q e=>by rcases e with e | e <;> omega));obtain ⟨nl,hnl1,hnl2⟩:=HIN.out.some_;have HKL:=zh (show ∀ a,F a ≠ none->a ∈ nl from fun a ha=>by
   have h1:=hne a ha;cases hl:idxL xs k a with
   | nil=>exact absurd hl h1
   | cons i l =>
    have h2:i ∈ idxL xs k a:=by rw [hl];simp
    have h3:=idxL_lt h2;unfold idxL at h2;have h4:=(List.mem_filter.1 h2).2;simp only [decide_eq_true_eq] at h4;rw [<- h4];exact hnl2 _ (rxAt_mem (by have:=HN.out;omega)))
  clear hia hne hmod;by_cases hlt:k < n
  ·have hk1:(k:Int) < (n:Int):=by omega
   have hkx:k < xs.length:=by rw [<- HN.out];exact hlt
   obtain ⟨b,o,c2,hvs,hrg,-⟩:=HRWR.out.at_ hkx;have hra:ra=some ⟨b,o,none⟩:=by cases hvs;rfl
   subst hra;have HRG:=zh hrg;have HNMX:=zh (hnl2 _ (rxAt_mem hkx));have hnml:=HIN.out.name _ (rxAt_mem hkx);have HROK:=zh (show RwOk wr (rxAt xs k) from ⟨HRWR.out.sum _ (rxAt_mem hkx),HRWR.out.small _ (rxAt_mem hkx),(HRWR.out.pre _ (rxAt_mem hkx)).shrink (fun _ _ f=>f.elim),by
    obtain ⟨a,c,e⟩:=(HNDS.out k hkx).sl.len;exact ⟨a,_,c,e⟩⟩)
   have HL39:=zh (RwX.cells_length (rxAt xs k) (HRWR.out.sum _ (rxAt_mem hkx)));have HPU:=zh (idxL_push xs k);have hile:=idxL_le xs k (rxAt xs k).r.name;obtain ⟨nm,hnm⟩:∃ nm,nm=(rxAt xs k).r.name:=⟨_,rfl⟩
   have HC0:=zh (show (RwX.cells (rxAt xs k))[0]? = some (strV nm) by rw [hnm];rfl);rw [<- hnm] at HNMX hnml HPU hile;have HCS:=zh (rows_one HROK.out);generalize RwX.cells (rxAt xs k)=cs at *;obtain ⟨NM,hNM⟩:∃ b:ByteArray,b=⟨nm.toArray⟩:=⟨_,rfl⟩
   unfold strV at HC0;rw [<- hNM] at HC0;have HNMB:=zh hNM;have hrow:=HIA.out.row0 nm;obtain ⟨sa,sc,hsv⟩:=own_len hrow;rw [hsv] at hrow;have HROW:=zh hrow;have HSV:=zh hsv;have HLKA:=zh (fun (W:World) (S:Nat->Prop) (hm:Mod S wr W) (hs:¬ S (n0+1))=>(HIA.out.map.keep hm hs).get (t:=323) (z:=.slice none 0 0) underlying323 (by kernel_rfl) nm (by omega));rw [hsv,<- HNMB.out] at HLKA;obtain ⟨an1,han1⟩:∃ q,q=(idxL xs k nm).length:=⟨_,rfl⟩
   rw [<- han1] at HROW HLKA hile;have HAN1:=zh han1;have HOBJ0:=zh (HM.out.keep HSB.out (fun e=>by rcases e with e | e <;> omega));clear hvs hrg hrow hsv han1 hNM hnm HROK;go_upto_region 5 with (first | (refine wpList_load_mid rfl 107 _ rfl b (o+k*39) rfl cs _ HRG.out underlying107 rfl (by rw [HL39.out];exact row_info) ?_) | (refine wpList_store_row rfl 107 _ _ rfl wr.heap.size cs.toArray rfl rfl 107 _ (heap_alloc_new wr _) (by rw [List.size_toArray,HL39.out];exact row_info) (by show _=cs.length;rw [HL39.out];rfl) HCS.out ?_))
   obtain ⟨xr,hxr⟩:∃ g,g=wr.heap.size:=⟨_,rfl⟩
   rw [<- hxr];generalize hw0:World.setRow _ xr cs.toArray=w0;obtain ⟨wD,hwD⟩:∃ z,z=w0.drew:=⟨_,rfl⟩
   have hmD:Mod No wr wD:=by rw [hwD,<- hw0,hxr];exact (((Mod.refl No wr).alloc _).setRow (fun h=>absurd h (by omega)) _).drew
   have hxn:wD.heap[xr]? = some (.cells cs.toArray 107 (0,0)):=by rw [hwD,<- hw0,hxr];exact setRow_heap _ _ _ _ _ _ (heap_alloc_new wr _)
   have HXN:=zh hxn;have HMD:=zh hmD;have HWD:=zh hwD;have HROWD:=zh (own_keepM HROW.out hmD (fun _ _ f=>f));have HOBJ:=zh (hmD.keep HOBJ0.out (fun f=>f));have HC5:=zh (fun (W:World) (hm:Mod (fun q=>(Value.slice sa an1 sc).ownBlock=some q) wD W)=>cell_ofA (hm.keep HOBJ.out (fun e=>by obtain ⟨cur,hh⟩:=own_heapM HROWD.out e;rw [HOBJ.out] at hh;cases hh)) (i:=2) (v:=.map (some (n0+1))) rfl);have HN0C:=zh (fun (W:World) (hm:Mod (fun q=>(Value.slice sa an1 sc).ownBlock=some q) wD W)=>cell_ofA (hm.keep HXN.out (fun e=>by obtain ⟨cur,hh⟩:=own_heapM HROWD.out e;rw [HXN.out] at hh;cases hh)) (i:=0) (v:=.string NM) (by rw [List.getElem?_toArray];exact HC0.out));have HABN:=zh (show ¬ (Value.slice sa an1 sc).ownBlock=some (n0+1) from fun e=>HIA.out.offmap nm (by rw [HSV.out,<- HAN1.out];exact e));have HLKD:=zh (fun (W:World) (hm:Mod (fun q=>(Value.slice sa an1 sc).ownBlock=some q) wD W)=>HLKA.out W _ (HMD.out.no.trans hm) HABN.out);have HGM:=zh (show ∀ w7,World.grownBy (wD.alloc (.cells #[.int .i64 (k:Int)] 3)) w7 (Value.slice sa an1 sc).ownBlock->Mod (fun q=>(Value.slice sa an1 sc).ownBlock=some q) wD w7 from fun w7 h=>((Mod.refl No wD).alloc _).no.trans (Mod.of_grown h (fun q hq _=>hq)));obtain ⟨hi0,hz0,hz1,hz2⟩:=HI.out;have hbD:B<=wD.heap.size:=by have h1:=HS1.out;have h2:=HM.out.size;have h3:=hmD.size;omega
   have hS0:Mod (fun q=>(Value.slice sa an1 sc).ownBlock=some q) wD wD:=Mod.refl _ _;clear hw0 hxr hxn hmD hwD;refine wp_region_T (fun w'=>Mod (fun q=>(Value.slice sa an1 sc).ownBlock=some q) wD w') 16 (by kernel_rfl) ?_;rw [<- HWD.out];refine yR 0 28 hS0 ?_;refine yR 1 29 hS0 ?_;refine yR 2 30 hS0 ?_;refine wpAnyT_take 3 (some 31) ?_ rfl rfl (by kernel_rfl) (fun _ _ _ h=>h) hS0 (Or.inl ⟨by rfl,?_⟩) ?_;rotate_left
   ·(intro w' hSw;have q5:=HC5.out w' hSw;go_simp;try with_reducible rfl)
   simp only [Act.put,yB,yC,yD];refine yR 4 32 hS0 ?_;refine wpAnyT_take 5 (some 33) ?_ rfl rfl (by kernel_rfl) (fun _ _ _ h=>h) hS0 (Or.inl ⟨by rfl,?_⟩) ?_;rotate_left
   ·(intro w' hSw;have q0:=HN0C.out w' hSw;go_simp;try with_reducible rfl)
   simp only [Act.put,yB,yC,yD];refine yR 6 34 hS0 ?_;refine yR 7 35 hS0 ?_;refine yR 8 36 hS0 ?_;refine wpAnyT_take 9 (some 37) ?_ rfl rfl (by kernel_rfl) (fun _ _ _ h=>h) hS0 (Or.inl ⟨by rfl,?_⟩) ?_;rotate_left
   ·(intro w' hSw;have q5:=HC5.out w' hSw;go_simp;try with_reducible rfl)
   simp only [Act.put,yB,yC,yD];refine yR 10 38 hS0 ?_;refine wpAnyT_take 11 (some 39) ?_ rfl rfl (by kernel_rfl) (fun _ _ _ h=>h) hS0 (Or.inl ⟨by rfl,?_⟩) ?_;rotate_left
   ·(intro w' hSw;have q0:=HN0C.out w' hSw;go_simp;try with_reducible rfl)
   simp only [Act.put,yB,yC,yD];refine wpAnyT_take 12 (some 40) ?_ rfl rfl (by kernel_rfl) (fun _ _ _ h=>h) hS0 (Or.inl ⟨by rfl,?_⟩) ?_;rotate_left
   ·(intro w' hSw;have ql:=HLKD.out w' hSw;go_simp;try with_reducible rfl)
   simp only [Act.put,yB,yC,yD];refine yR 13 41 hS0 ?_;refine wpAnyT_one 14 rfl (by kernel_rfl) rfl ?_;intro K hK;go_simp
   show K _ _
   have hS1:=(Mod.refl (fun q=>(Value.slice sa an1 sc).ownBlock=some q) wD).alloc (.cells #[.int .i64 (k:Int)] 3);refine hK.out _ _ (fun _=>hS1) ?_;clear hK K;refine wpAnyT_one 15 rfl (by kernel_rfl) rfl ?_;intro K hK;refine wp_app_atN (.tmp 40) (.tmp 42) 60 rfl B 3 i0 _ 1 8 underlying60 hi0 hz0 hz1 hz2 rfl (by decide) (.slice sa an1 sc) an1 ((idxL xs k nm).flatMap fun i:Nat=>[Value.int .i64 i]) rfl (own_keepM HROWD.out ((Mod.refl No wD).alloc _) (fun _ _ f=>f)) ⟨wD.heap.size,0,none⟩ 1 1 [.int .i64 (k:Int)] rfl rfl (fun j u hu=>cells_newN hu) (by simp [Value.oneCell']) (by unfold maxLen;omega) (by omega) (Nat.le_trans hbD ((Mod.refl No wD).alloc _).size) ?_;intro nv' w7 hown hgr hat;have HOWN:=zh hown;have HGR:=zh hgr;have HAT:=zh hat;clear hown hgr hat;show K _ _
   have hS2:=HGM.out w7 HGR.out;refine hK.out _ _ (fun _=>hS2) ?_;clear hK K;refine wpAnyT_one 16 rfl (by kernel_rfl) rfl ?_;intro K hK;obtain ⟨w8,hst,hnp,hm8,-⟩:=NMp.put (t:=323) (((HIA.out.map.keep HMD.out (fun f=>f)).keep (HGM.out w7 HGR.out) HABN.out)) underlying323 HKL.out (by unfold maxLen;omega) nm (by omega) nv';rw [<- HNMB.out] at hst;have HNP:=zh hnp;have HM8:=zh hm8;clear hnp hm8;go_simp
   show K _ _
   refine hK.out _ _ (fun h=>absurd rfl h) ?_;clear hK K;refine wpAnyT_done (by kernel_rfl) ?_ _
   have hmE:Mod No wr (wD.alloc (.cells #[.int .i64 (k:Int)] 3)):=HMD.out.alloc _;have HIE:=HIA.out.keep hmE (fun f=>f) (fun _ _ _ _ _ f=>f);have HI8:=zh (show IdxAt w8 B (n0+1) (vPut F nm nv') (idxL xs (k+1)) by
    rw [<- HPU.out];exact HIE.push (v':=nv') (w1:=w7) (by rw [<- HAN1.out];exact HOWN.out) (by rw [HSV.out,<- HAN1.out];exact HGR.out) (by rw [HSV.out,<- HAN1.out];exact HAT.out) HNP.out HM8.out)
   have HM9:=zh (show Mod (fun q=>q=n0+1\/B<=q) w1 w8 from (HM.out.trans (HMD.out.no.trans ((HGM.out w7 HGR.out).weaken (fun q _ e=>.inr (own_baseS HROWD.out e))))).trans (HM8.out.weaken (fun q _ e=>.inl e)));have HNE2:=zh (show ∀ a,vPut F nm nv' a ≠ none->idxL xs (k+1) a ≠ [] from fun a ha e=>by
    rw [<- HPU.out] at e;unfold pushA at e;split at e
    ·simp at e
    ·rename_i h;simp only [vPut,if_neg h] at ha;exact HNE.out a ha e)
   clear hmE HIE hi0 hz0 hz1 hz2 hst hbD;go_wp2_with fail
   exact ⟨⟨k+1,_,(by omega),rfl,HI8.out,HNE2.out,HM9.out⟩,by show n - ((k:Int)+1).toNat < n - (k:Int).toNat;omega⟩
  ·have hke:k=n:=by omega
   have hk1:¬ ((k:Int) < (n:Int)):=by omega
   obtain ⟨DD,d1,d3⟩:=HIA.out.map.row;have hsz:=says_size d1 d3 HKL.out;have HMP:=zh d1;have HD:=zh d3;have HOBJ:=zh (HM.out.keep HSB.out (fun e=>by rcases e with e | e <;> omega));have o2:=cell_ofA HOBJ.out (i:=2) (v:=.map (some (n0+1))) rfl;have hkx:k=xs.length:=by rw [<- HN.out];exact hke
   have HKX:=zh hkx;obtain ⟨dz,hdz⟩:∃ z,z=Maps.size DD:=⟨_,rfl⟩
   have hdz12:dz<=12:=by omega
   have HDZ:=zh hdz;have hn0b:n0 < B:=by omega
   clear d1 d3 hsz hdz hke hkx;go_wp2_with (at_range;refine wpList_range_own _ rfl _ 323 rfl 9 60 key_str underlying323 heldR (n0+1) (Maps.size DD) DD rfl HMP.out ?_;intro w2 hrg0 hg0 hs0)
   try go_frame
   have hmr:Mod No wr w2:=Mod.of_grown hg0 (fun k e _=>by cases e);have HRG0:=zh hrg0;have HMR:=zh (HM.out.trans hmr.no);have HMR2:=zh (show Mod (fun q=>B<=q) wr w2 from hmr.no);obtain ⟨r,hr⟩:∃ r,r=wr.heap.size:=⟨_,rfl⟩
   rw [<- hr] at HRG0 ⊢;have HRB:=zh (show B<=r by have h1:=HS1.out;have h2:=HM.out.size;omega);have HLTR:=zh (show ∀ a v q,F a=some v->v.ownBlock=some q->q < r from fun a v q hv hq=>by
    obtain ⟨cur,hh⟩:=own_heapM (HIA.out.row a v hv) hq;have:=lt_of_heap hh;omega)
   have HRW0:=zh (show ∀ a v,F a=some v->w2.ownsRow B 3 1 v (idxL xs k a).length ((if Maps.has DD (.string a) then idxL xs k a else sortR (ltI (xs.map RwX.r)) (idxL xs k a)).map intV) from fun a v hv=>by
    have h1:=HIA.out.row a v hv;rw [((HD.out a).2 v hv).1,if_pos rfl];rw [flat_one] at h1;exact own_keepM h1 hmr (fun _ _ f=>f))
   have HAP:=zh HIA.out.apart;have HOFF:=zh (show ∀ a v q,F a=some v->v.ownBlock=some q->q ≠ n0+1 from fun a v q hv hq e=>by
    obtain ⟨cur,hh⟩:=own_heapM (HIA.out.row a v hv) hq;rw [e] at hh;exact HIA.out.map.not_cells _ _ _ hh)
   have HMPR:=zh HMP.out;clear hrg0 hg0 hs0 hmr hr o2 HMP;go_loopw [11] (fun _ wq=>∃ (left:Lit->Bool) (cnt:Nat),wq.ranges prog 9 heldR (n0+1) r (Maps.size DD) DD left cnt/\(∀ a v,F a=some v->wq.ownsRow B 3 1 v (idxL xs k a).length ((if left (.string a) then idxL xs k a else sortR (ltI (xs.map RwX.r)) (idxL xs k a)).map intV))/\Mod (fun q=>q=n0+1\/B<=q) w1 wq/\Mod (fun q=>B<=q) wr wq) (fun _ wq=>wq.rangeLeft (n0+1) r)
   case atStart=>exact ⟨_,_,HRG0.out,HRW0.out,HMR.out,HMR2.out⟩
   case round =>
    obtain ⟨left,cnt,hrg,hrows,hmod,hmod2⟩:=hrel;have RG:=zh hrg;have HROWS:=zh hrows;have MO:=zh hmod;have MO2:=zh hmod2;clear hrg hrows hmod hmod2 HRG0 HRW0 HMR;go_wp2_with (at_next;refine wpList_next_ranges _ rfl _ rfl 9 key_str heldR Go.Proofs.encStr (fun v:Value=>v) (fun key kl hk=>by obtain ⟨x,hx,_⟩:=Maps.keyOf_str underlying9 hk;exact ⟨x,hx⟩) (fun v y _=>⟨v,rfl⟩) (n0+1) r (Maps.size DD) DD left cnt rfl RG.out ?_ ?_)
    ·intro _ hl0;have HFIN:=zh (show ∀ a v,F a=some v->wr.ownsRow B 3 1 v (rowsN (xs.map RwX.r) a).length ((rowsN (xs.map RwX.r) a).map intV) from fun a v hv=>by
      have h1:=HROWS.out a v hv;rw [hl0,if_neg (by simp),HKX.out,idxL_all] at h1;rw [show (idxL xs xs.length a).length=(rowsN (xs.map RwX.r) a).length by rw [<- idxL_all,sortR_length]] at h1;exact h1)
     have hobj:=MO.out.keep HSB.out (fun e=>by rcases e with e | e <;> omega);have hxb:=MO.out.keep HXB.out (fun e=>by rcases e with e | e <;> omega);have o2:=cell_ofA hobj (i:=2) (v:=.map (some (n0+1))) rfl;have o7:=cell_ofA hobj (i:=7) (v:=.bool false) rfl;have f7:=frozen_of 7 hobj;have x0:=cell_ofA hxb (i:=0) (v:=.slice ra n rc) rfl;have hmp:Mp wr 9 (n0+1) DD:=Mp.keep HMPR.out MO2.out (fun e=>by have e':B<=n0+1:=e;omega);have hlen:=World.ownsMap.len hmp underlying323;rw [<- HDZ.out] at hlen;have hdz0:(dz:Int)<=12:=by omega
     have hn40:(n:Int)<=40:=by omega
     have HOBJF:=zh hobj;have HMPF:=zh hmp;clear hl0 hobj hxb hmp;have hmF:Mod (· = n0+5) wr (wr.setCell ⟨n0+5,7,none⟩ (.bool true)):=(Mod.refl (fun q=>q=n0+5) wr).setCell (fun _=>rfl) _;have hsB:=HS1.out;have hsR:=MO.out.size;have hnw:=HN0.out;have hkeep:∀ {rv:Value} {L:List RwX},RowsX (fun q=>n0<=q) w rv L->RowsX (fun q=>n0<=q) (wr.setCell ⟨n0+5,7,none⟩ (.bool true)) rv L:=fun h =>
      ((h.keep HM1.out (fun _ f=>f.elim)).keep MO.out (fun q e=>by rcases e with e | e <;> omega)).keep hmF (fun q e=>by have e':q=n0+5:=e;omega)
     have hkeepN:∀ {v:Value} {L:List NdX},NdL (fun q=>n0<=q) w v L->NdL (fun q=>n0<=q) (wr.setCell ⟨n0+5,7,none⟩ (.bool true)) v L:=fun h =>
      ((h.keep HM1.out (fun _ f=>f.elim)).keep MO.out (fun q e=>by rcases e with e | e <;> omega)).keep hmF (fun q e=>by have e':q=n0+5:=e;omega)
     have hout:∀ q,(q=n0+2\/q=n0+3\/q=n0+4\/wr.heap.size<=q)->n0<=q:=fun q h=>by omega
     have hrF:=hkeep HRW.out;have hmapK:∀ {b:Nat} {G:Vt},NMp w1 b G->b ≠ n0+1->b < B->b ≠ n0+5->NMp (wr.setCell ⟨n0+5,7,none⟩ (.bool true)) b G:=fun h h1 h2 h3=>(h.keep MO.out (fun e=>by rcases e with e | e <;> omega)).keep hmF (fun e=>h3 e)
     have hsl:=hrF.sl.shrink (Y:=fun q=>q=n0+2\/q=n0+3\/q=n0+4\/wr.heap.size<=q) (fun q _ h=>hout q h);have HSM:=zh (show SMade w (wr.setCell ⟨n0+5,7,none⟩ (.bool true)) ⟨n0+5,n0+1,n0+2,n0+3,n0+4,wr.heap.size,.slice ra n rc,.slice na nnl nc,xs,nx,nn,names,bud⟩ xs nn (.slice ra xs.length rc) from {
      ok:=⟨by have h:=HIN.out.few;show xs.length<=20;omega,HRW.out.sum,HRW.out.small,HIN.out.name,HIN.out.nds,HIN.out.need,HIN.out.fewn,HIN.out.nlen,⟨by show n0+5 < wr.heap.size;omega,by show n0+1 < wr.heap.size;omega,by show n0+2 < wr.heap.size;omega,by show n0+3 < wr.heap.size;omega,by show n0+4 < wr.heap.size;omega⟩,
       ⟨by show n0+5 ≠ n0+2;omega,by show n0+5 ≠ n0+3;omega,by show n0+5 ≠ n0+4;omega,by show n0+1 ≠ n0+2;omega,by show n0+1 ≠ n0+3;omega,by show n0+1 ≠ n0+4;omega,by show n0+2 ≠ n0+3;omega,by show n0+2 ≠ n0+4;omega,by show n0+3 ≠ n0+4;omega⟩⟩
      far:=⟨by show n0+2 ≠ 0;omega,by show n0+3 ≠ 0;omega,by show n0+4 ≠ 0;omega,by show 0 < wr.heap.size;omega⟩
      xs:=rfl
      nn:=rfl
      rv:=by show Value.slice ra n rc=.slice ra xs.length rc;rw [<- HN.out]
      at_:={
       fix:={
        big:=hmF.size
        obj:=by rw [heap_setCell HOBJF.out];rfl
        rows:=by show Sl _ _ _ (Value.slice ra n rc) xs.length (xs.flatMap RwX.cells);exact hsl
        pre:=fun i hi=>(hrF.pre _ (rxAt_mem hi)).shrink (fun q _ h=>hout q h)
        nds:=fun i hi=>(hkeepN (HNDS.out i hi)).shrink (fun q _ h=>hout q h)
        need:=(hkeepN HNN.out).shrink (fun q _ h=>hout q h)
        by_:=⟨F,(NMp.keep ⟨DD,HMPF.out,HD.out⟩ hmF (fun e=>by have e':n0+1=n0+5:=e;omega)),(fun a ha=>by
         have h1:=HIA.out.no a ha;rw [HKX.out] at h1;show rowsN (xs.map RwX.r) a=[]
         rw [<- idxL_all,h1];rfl),fun a v hv=>by
          have h1:=HFIN.out a v hv;have h2:=own_keepM h1 hmF (fun q hq e=>by have e':q=n0+5:=e;have:=own_baseS h1 hq;omega);refine Sl.of_ownB h2 fun q hq ho=>?_
          have h3:=own_baseS h1 hq;obtain ⟨cur,h4⟩:=own_heapM h1 hq;have h5:=lt_of_heap h4;have ho':q=n0+2\/q=n0+3\/q=n0+4\/wr.heap.size<=q:=ho;omega⟩ }
       fixed:=hmapK (b:=n0+2) HFB.out (by omega) (by omega) (by omega)
       chosen:=hmapK (b:=n0+3) HCB.out (by omega) (by omega) (by omega)
       asked:=⟨fun _=>none,⟨hmapK (b:=n0+4) HAB.out (by omega) (by omega) (by omega),(fun _ _ h=>by cases h),(fun _ _=>rfl),(fun _ _ _ _ _ h=>by cases h)⟩,fun _ h=>absurd rfl h⟩
       ors:=fun _ _ h=>by cases h
       good:=fun _ _ h=>by cases h }
      new:=fun q h=>by rw [<- HN0.out];exact hout q h
      mod:=((HM1.out.then MO.out (fun q hq e=>by rcases e with e | e <;> omega))).then hmF (fun q hq e=>by have e':q=n0+5:=e;omega) })
     clear hmF hsB hsR hnw hkeep hkeepN hout hrF hmapK hsl;go_wp2_with fail
     exact fin hR ⟨_,rfl,HSM.out⟩
    ·intro x cv kl ya yb wN cnt1 hkey hleft hy hat hrg1 hlt hg1 hs1 hen;cases hy
     obtain ⟨x',hx',hkl,-⟩:=Maps.keyOf_str underlying9 hkey;obtain rfl:=encStr_inj hx';subst hkl;have hhas:Maps.has DD (.string x)=true:=Maps.has_true_of_atKey (y:=.held cv) (fun zd=>hat zd);obtain ⟨u,hu⟩:∃ u,F x=some u:=by
      cases hM:F x with
      | none=>have:=(HD.out x).1 hM;rw [hhas] at this;cases this
      | some v=>exact ⟨v,rfl⟩
     have hcv:cv=u:=by
      have h1:=hat .nil;rw [((HD.out x).2 u hu).2] at h1;simpa using h1.symm
     subst hcv;have hm1:Mod (· = r) wr wN:=Mod.of_grown hg1 (by rintro k ⟨⟩ _;rfl);have hmN:Mod (fun q=>q=n0+1\/B<=q) w1 wN:=MO.out.trans (hm1.weaken (fun q _ e=>.inr (by have e':q=r:=e;have:=HRB.out;omega)));have hmN2:=MO2.out.trans (hm1.weaken (T:=fun q=>B<=q) (fun q _ e=>by have e':q=r:=e;have:=HRB.out;omega));have hrowsN:∀ a v,F a=some v->wN.ownsRow B 3 1 v (idxL xs k a).length ((if left (.string a) then idxL xs k a else sortR (ltI (xs.map RwX.r)) (idxL xs k a)).map intV):=fun a v hv=>own_keepM (HROWS.out a v hv) hm1 (fun q hq e=>by have e':q=r:=e;have:=HLTR.out a v q hv hq;omega)
     have h1:=hrowsN x cv hu;rw [hleft,if_pos rfl] at h1;have hne:=HNE.out x (by rw [hu];simp);have hpos:0 < (idxL xs k x).length:=List.length_pos_iff.2 hne;obtain ⟨hlen1,⟨-,h0⟩ | ⟨gq,cap,cur,hvv,hgq,hcur,hc1,hc2,hc3,hc4⟩⟩:=h1
     ·omega
     have hvv2:cv=.slice (some ⟨gq,0,none⟩) (idxL xs k x).length cap:=hvv;subst hvv2;have hcurE:cur=((idxL xs k x).map intV++cur.toList.drop (idxL xs k x).length).toArray:=by
      rw [Nat.mul_one] at hc4;rw [<- hc4,List.take_append_drop]
     have hqlt:=HLTR.out x _ gq hu rfl;have hqne:=HOFF.out x _ gq hu rfl;have hL19:=idxL_le xs k x;have hLi:∀ i ∈ idxL xs k x,i < xs.length:=fun i hi=>by have:=idxL_lt hi;have:=HKX.out;omega
     have hx0:0 < xs.length:=by
      cases hl:idxL xs k x with
      | nil=>exact absurd hl hne
      | cons i l=>have:=hLi i (by rw [hl];simp);omega
     have HCALL:=zh (sortint_any (X:=fun q=>n0<=q) (rv:=.slice ra n rc) hx0 n0 gq (show n0<=gq by omega) (by omega) (idxL xs k x) (by omega) hLi cap (cur.toList.drop (idxL xs k x).length) wN
      ((HRW.out.keep HM1.out (fun _ f=>f.elim)).keep hmN (fun q e=>by rcases e with e | e <;> omega)) (hmN.keep HXB.out (fun e=>by rcases e with e | e <;> omega)) (by rw [<- hcurE];exact hcur))
     have HCUR:=zh hcurE;have HSZ:=zh (show cur.size=cap*1 from hc3);have HC1:=zh hc1;have HC2:=zh hc2;have HGQ:=zh hgq;have HU:=zh hu;have HROWN:=zh hrowsN;have HMN:=zh hmN;have HMN2:=zh hmN2;have RG1:=zh hrg1;have HLT:=zh hlt;have HQLT:=zh hqlt;have HQNE:=zh hqne;have hgn:=hen;clear hkey hat hrg1 hlt hg1 hs1 hhas hm1 hmN hmN2 hrowsN hlen1 hvv hcur hc1 hc2 hc3 hc4 hcurE hqlt hqne hLi hne hgn hu;go_wp2_with fail
     with_reducible refine HCALL.out.mono ?_
     rintro e w9 ⟨rfl,hcells,hm9⟩;have HRG9:=zh (ranges_keep RG1.out hm9 (fun e=>HQNE.out e.symm) (fun e=>by have e':r=gq:=e;have:=HQLT.out;omega));have HROW9:=zh (show ∀ a v,F a=some v->w9.ownsRow B 3 1 v (idxL xs k a).length ((if (left (.string a) && !(Lit.string a).sameKey (.string x)) then idxL xs k a else sortR (ltI (xs.map RwX.r)) (idxL xs k a)).map intV) from fun a v hv=>by
      by_cases e:a=x
      ·subst e;rw [HU.out] at hv;cases hv
       rw [show (left (.string a) && !(Lit.string a).sameKey (.string a))=false by rw [sameKey_strF];simp,if_neg (by simp)];refine ⟨by rw [List.length_map,sortR_length,Nat.mul_one],.inr ⟨gq,cap,_,rfl,HGQ.out,hcells,HC1.out,HC2.out,?_,?_⟩⟩
       ·rw [List.size_toArray,List.length_append,List.length_map,sortR_length,<- HSZ.out];conv=>rhs;rw [HCUR.out]
        rw [List.size_toArray,List.length_append,List.length_map]
       ·rw [Nat.mul_one];show List.take _ (_++_)=_
        rw [List.take_append_of_le_length (by rw [List.length_map,sortR_length];exact Nat.le_refl _),List.take_of_length_le (by rw [List.length_map,sortR_length];exact Nat.le_refl _)]
      ·rw [show (left (.string a) && !(Lit.string a).sameKey (.string x))=left (.string a) by rw [sameKey_strF,decide_eq_false e];simp];exact own_keepM (HROWN.out a v hv) hm9 (fun q hq e2=>by
        have e3:q=gq:=e2;subst e3;exact e (HAP.out a x v _ q hv HU.out hq rfl)))
     have HMO9:=zh (HMN.out.trans (hm9.weaken (T:=fun q=>q=n0+1\/B<=q) (fun q _ e=>.inr (by have e':q=gq:=e;have:=HGQ.out;omega))));have HMO9b:=zh (HMN2.out.trans (hm9.weaken (T:=fun q=>B<=q) (fun q _ e=>by have e':q=gq:=e;have:=HGQ.out;omega)));clear hcells hm9 HCALL;go_wp2_with fail
     exact ⟨⟨_,cnt1,HRG9.out,HROW9.out,HMO9.out,HMO9b.out⟩,by rw [HRG9.out.left_eq,RG.out.left_eq];exact HLT.out⟩
end Go.Proofs.YticfcmdjplmaeaaGreatDoor
