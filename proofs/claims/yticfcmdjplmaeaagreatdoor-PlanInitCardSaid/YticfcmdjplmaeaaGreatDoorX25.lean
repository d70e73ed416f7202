/-
  Layers 0 to 14: helps of the laws of indexes. No statement is proved here; no condition.
-/
import Derived.Test.YticfcmdjplmaeaaGreatDoorX24
import Derived.Test.YticfcmdjplmaeaaGreatDoorX02
set_option maxRecDepth 100000
set_option maxHeartbeats 64000000
namespace Go.Proofs.YticfcmdjplmaeaaGreatDoor
open _root_.Go.Proofs.Tryz
open Go.RowKit Go.Maps
theorem NMp.put {w:World} {b:Nat} {F:Vt} (h:NMp w b F) {t e:TypeId} (ht:prog.underlying t=some (.map 9 e)) {names:List (List UInt8)} (hn:∀ k,F k ≠ none->k ∈ names) (hl:names.length < maxLen) (k:List UInt8) (hk:k.length<=1000000000) (v:Value) :
  ∃ w',(Instr.mapUpdate t (.map (some b)) (.string ⟨k.toArray⟩) v).run prog w=.ok () w'/\NMp w' b (vPut F k v)/\Mod (· = b) w w'/\w'.heap.size=w.heap.size:=by
 obtain ⟨D,d1,d3⟩:=h.row;have hT:Tidy D:=d1.tidy key_str;have hs:=says_size d1 d3 hn;obtain ⟨w',hrun,hm,hmod,hsz⟩:=d1.store key_str ht (by omega) (val:=v) (keyOf_str k hk);exact ⟨w',hrun,⟨_,hm,says_put hT d3⟩,hmod,hsz⟩
theorem info_span:(prog.info? 96).map (fun i=>(i.zero,i.size,i.bytes))=some (some (.agg #[.bool false,.slice none 0 0]),2,32):=by kernel_rfl
theorem load_spanM {w:World} {b o:Nat} {an:Bool} {oa:Option Addr} {om oc:Nat} (h:w.rangeAt b o [.bool an,.slice oa om oc]) :
  (loadVar 96 ⟨b,o,none⟩).run prog w=.ok (.agg #[.bool an,.slice oa om oc]) w :=
 run_loadVar_mid w b o 96 _ _ h underlying96 rfl (by kernel_rfl)
theorem cho_look (c:Chs) (n:List UInt8):(c n=none/\(chV c n).getD (.int .i64 0)=.int .i64 0/\(chV c n).isSome=false)\/∃ r:Nat,c n=some r/\(chV c n).getD (.int .i64 0)=.int .i64 r/\(chV c n).isSome=true:=by
 unfold chV;cases c n with
 | none=>exact .inl ⟨rfl,rfl,rfl⟩
 | some r=>exact .inr ⟨r,rfl,rfl,rfl⟩
theorem SrAt.push {w w1 w2:World} {g:Sg} (hg:g.Ok) {fx:Fix} {c:Chs} {A:List UInt8->List SnX} (h:SrAt w g fx c A) {F:Vt} (ha:SpsAt w g.B g.ab F A) (hF:∀ k,F k ≠ none->k ∈ g.names) {k:List UInt8} (hk:k ∈ g.names) {s:SnX} (hs:SpnOk s.s) (hso:OrsX g.out w s.ov s.s.ors) {v':Value}
  (ho:w1.ownsRow g.B 96 2 v' ((A k).length+1) ((A k).flatMap SnX.cells++SnX.cells s)) (hgr:w.grownBy w1 ((F k).getD (.slice none 0 0)).ownBlock)
  (hl:v'.ownBlock=((F k).getD (.slice none 0 0)).ownBlock\/v'.ownBlock=some w.heap.size) (hm:NMp w2 g.ab (vPut F k v')) (hmod:Mod (· = g.ab) w1 w2):SrAt w2 g fx c (pushA A k s)/\Mod (askB g w) w w2:=by
 have hrow:=ha.row0 k;have hm1:Mod (askB g w) w w1:=Mod.of_grown hgr (fun q e _=>by
  obtain ⟨cur,hh⟩:=own_heapM hrow e;exact .inr (.inr ⟨own_baseS hrow e,cur,_,hh⟩))
 have hm2:Mod (askB g w) w w2:=hm1.then hmod (fun i _ e=>.inr (.inl e));have hlt:=hg.lt;have hne:=hg.ne;have hfb:¬ askB g w g.fb:=by
  rintro (e | e | ⟨e,-⟩)
  ·exact hne.2.2.2.2.2.2.1 e
  ·exact hne.2.2.2.2.2.2.2.1 e
  ·omega
 have hcb1:(some g.cb:Option Nat) ≠ ((F k).getD (.slice none 0 0)).ownBlock:=fun e=>by
  obtain ⟨cur,hh⟩:=own_heapM hrow e.symm;exact h.chosen.not_cells _ _ _ hh
 have hm1c:Mod (fun q=>((F k).getD (.slice none 0 0)).ownBlock=some q) w w1:=Mod.of_grown hgr (fun q e _=>e);refine ⟨⟨h.fix.keep hg hm2 (fun q hq=>askB_out hq),h.fixed.keep hm2 hfb,(h.chosen.keep hm1c (fun e=>hcb1 e.symm)).keep hmod (fun e=>hne.2.2.2.2.2.2.2.2 e),
  ⟨_,ha.push ho hgr hl hm hmod,fun x hx=>?_⟩,fun x y hy=>?_,fun x y hy=>?_⟩,hm2⟩
 ·by_cases e:x=k
  ·rw [e];exact hk
  ·simp only [vPut,if_neg e] at hx;exact hF x hx
 ·unfold pushA at hy;split at hy
  ·rcases List.mem_append.1 hy with hy | hy
   ·exact (h.ors k y hy).keep hm2 (fun q hq=>askB_out hq)
   ·rw [List.mem_singleton] at hy;subst hy;exact hso.keep hm2 (fun q hq=>askB_out hq)
  ·exact (h.ors x y hy).keep hm2 (fun q hq=>askB_out hq)
 ·unfold pushA at hy;split at hy
  ·rcases List.mem_append.1 hy with hy | hy
   ·exact h.good k y hy
   ·rw [List.mem_singleton] at hy;subst hy;exact hs
  ·exact h.good x y hy
theorem ask_any {g:Sg} (hg:g.Ok) {fx:Fix} {c:Chs} {A:List UInt8->List SnX} (lv:Value) (ns:List NdX) (hgood:NdGood ns) (hnm:∀ y ∈ ns,y.n.name ∈ g.names) (w:World) (hw:SrAt w g fx c A) (hl:NdL g.out w lv ns)
  (hroom:∀ k,(A k).length+ns.length<=1000000) (hc:∀ a r,c a=some r->r < g.xs.length) :
  Calls prog 232 #[.pointer (some ⟨g.sb,0,none⟩),lv] w fun e w'=>∃ (k:Nat) (ok:Bool),e=.returned (.tuple #[.int .i64 k,.bool ok])/\k<=ns.length/\SrAt w' g fx c (askA A (ns.take k))/\Mod (askB g w) w w' ∧
   (ok=true->k=ns.length/\∀ y ∈ ns,∀ r,c y.n.name=some r->hasS y.n.span (rwAt g.xl r).v=true)/\(ok=false->∃ (j:Nat) (hj:j < ns.length) (r:Nat),c ns[j].n.name=some r/\hasS ns[j].n.span (rwAt g.xl r).v=false):=by
 refine calls_hide fun R hR=>?_
 obtain ⟨la,lc,hlv⟩:=hl.sl.len;subst hlv;have HG:=zh hg;have HW0:=zh hw;have HL:=zh hl;have HGD:=zh hgood;have HNM:=zh hnm;have HRM:=zh hroom;have HC:=zh hc;obtain ⟨n,hn⟩:∃ n,n=ns.length:=⟨_,rfl⟩
 have hn1:=hgood.few;rw [<- hn] at hn1 ⊢;have HN:=zh hn;clear hg hw hl hgood hnm hroom hc hn;go_enter func232,ntmps232
 go_wp2_with fail
 go_loopw [12] (fun q wr=>∃ k:Nat,k<=n/\q=.int .i64 (k:Int)/\SrAt wr g fx c (askA A (ns.take k))/\Mod (askB g w) w wr/\∀ i (hi:i < ns.length),i < k->∀ r,c ns[i].n.name=some r->hasS ns[i].n.span (rwAt g.xl r).v=true) (fun q _=>n - (intOf q).toNat)
 case atStart=>exact ⟨0,by omega,rfl,HW0.out,Mod.refl _ _,fun i _ h=>absurd h (by omega)⟩
 case round =>
  obtain ⟨k,hk,rfl,hwr,hmod,hmet⟩:=hrel;have HW:=zh hwr;have HM:=zh hmod;have HMET:=zh hmet;have hk0:(0:Int)<=(k:Int):=Int.natCast_nonneg _;clear hwr hmod hmet;by_cases hlt:k < n
  ·have hk1:(k:Int) < (n:Int):=by omega
   have hkl:k < ns.length:=by rw [<- HN.out];exact hlt
   have hlk:=HL.out.keep HM.out (fun q hq=>askB_out hq);have hord:=hlk.each _ (List.getElem_mem hkl);obtain ⟨b,o,c2,hvs,_⟩:=hlk.sl.shape (by omega);have hsl:=hlk.sl;rw [hvs] at hsl;have hrg:=Sl.at NdX.cells_length hsl hkl;cases hvs
   have HTK:=zh (show askA A (ns.take (k+1))=pushA (askA A (ns.take k)) ns[k].n.name (ndSp ns[k]) from askA_take hkl);have HIN:=zh (HNM.out _ (List.getElem_mem hkl));have HSO:=zh (HGD.out.span _ (List.getElem_mem hkl));have HNL:=zh (HGD.out.name _ (List.getElem_mem hkl));have HRO:=zh (show ∀ x,(askA A (ns.take k) x).length<=1000000 from fun x=>by
    have h1:=askA_len (A:=A) (l:=ns.take k) x;rw [List.length_take] at h1;have h2:=HRM.out x;omega)
   have HRO1:=zh (show (askA A (ns.take k) ns[k].n.name).length+1<=1000000 by
    have h1:=askA_len (A:=A) (l:=ns.take k) ns[k].n.name;rw [List.length_take] at h1;have h2:=HRM.out ns[k].n.name;omega)
   have HMT:=zh (show (∀ r,c ns[k].n.name=some r->hasS ns[k].n.span (rwAt g.xl r).v=true)->∀ i (hi:i < ns.length),i < k+1->∀ r,c ns[i].n.name=some r->hasS ns[i].n.span (rwAt g.xl r).v=true from fun h i hi hik=>by
    rcases Nat.lt_or_ge i k with h3 | h3
    ·exact HMET.out i hi h3
    ·obtain rfl:i=k:=by omega
     exact h)
   have HNO:=zh (show ∀ r,c ns[k].n.name=some r->hasS ns[k].n.span (rwAt g.xl r).v=false->∃ (j:Nat) (hj:j < ns.length) (r:Nat),c ns[j].n.name=some r/\hasS ns[j].n.span (rwAt g.xl r).v=false from fun r h1 h2=>⟨k,hkl,r,h1,h2⟩);obtain ⟨oa,oc,hov⟩:∃ a c,ns[k].ov=.slice a ns[k].n.span.ors.length c:=by
    obtain ⟨_,-,-,h⟩:=hord.no;exact h.len
   have HOR:=zh hord;clear hlk hsl hord;obtain ⟨A2,hA2⟩:∃ A2,A2=askA A (ns.take (k+1)):=⟨_,rfl⟩
   rw [<- hA2] at HTK;have HTKA:=zh hA2.symm;clear hA2;generalize askA A (ns.take k)=A1 at *;generalize ns[k]=y at *;obtain ⟨nm,hnm⟩:∃ nm,nm=y.n.name:=⟨_,rfl⟩
   obtain ⟨an,han⟩:∃ an,an=y.n.span.any:=⟨_,rfl⟩
   obtain ⟨om,hom⟩:∃ om,om=y.n.span.ors.length:=⟨_,rfl⟩
   obtain ⟨TX,htx⟩:∃ b:ByteArray,b=⟨y.n.text.toArray⟩:=⟨_,rfl⟩
   obtain ⟨NM,hNM⟩:∃ b:ByteArray,b=⟨nm.toArray⟩:=⟨_,rfl⟩
   have HCS:=zh (show NdX.cells y=[.string NM,.bool an,.slice oa om oc,.string TX] by unfold NdX.cells strV;rw [hov,han,hom,htx,hNM,hnm]);rw [HCS.out] at hrg;rw [<- hnm] at HIN HNL HRO1 HTK;have HSP:=zh (show ndSp y=⟨y.n.span,.slice oa om oc⟩ by unfold ndSp;rw [hov,<- hom]);have HSC:=zh (show SnX.cells (ndSp y)=[.bool an,.slice oa om oc] by rw [HSP.out];unfold SnX.cells;rw [<- han]);rw [hov,<- hom] at HOR;have HRG:=zh hrg;have HNMY:=zh hnm;have HNMB:=zh hNM;have HAN:=zh han;clear hrg hov hnm han hom htx hNM HCS;obtain ⟨F,ha1,ha2⟩:=HW.out.asked;have hrow:=ha1.row0 nm;obtain ⟨sa,sc,hsv⟩:=own_len hrow;rw [hsv] at hrow;have HA1:=zh ha1;have HA2:=zh ha2;have HSV:=zh hsv;have HROW:=zh hrow;have HLK:=zh (show (fun W=>(Instr.lookup 324 (.map (some g.ab)) (.string NM) false).run prog W=.ok (.slice sa (A1 nm).length sc) W)=fun W=>(Instr.lookup 324 (.map (some g.ab)) (.string NM) false).run prog W=.ok (.slice sa (A1 nm).length sc) W from rfl);have HLKA:=zh (fun (W:World) (S:Nat->Prop) (hm:Mod S wr W) (hs:¬ S g.ab)=>(ha1.map.keep hm hs).get (t:=324) (z:=.slice none 0 0) underlying324 (by kernel_rfl) nm (by have:=HNL.out;omega));rw [hsv,<- HNMB.out] at HLKA;clear ha1 ha2 hrow hsv HLK;obtain ⟨an1,han1⟩:∃ q,q=(A1 nm).length:=⟨_,rfl⟩
   rw [<- han1] at HROW HLKA HRO1;have hra:=HRO1.out;have HAN1:=zh han1;have o5:=cell_ofA HW.out.fix.obj (i:=5) (v:=.map (some g.ab)) rfl;have o4:=cell_ofA HW.out.fix.obj (i:=4) (v:=.map (some g.cb)) rfl;clear han1;go_upto_region 4 with (refine wpList_load_mid rfl 98 _ rfl b (o+k*4) rfl _ _ HRG.out underlying98 rfl (by kernel_rfl) ?_)
   obtain ⟨nb,hnb⟩:∃ g,g=wr.heap.size:=⟨_,rfl⟩
   rw [<- hnb];generalize hw1:World.alloc wr _=w1;obtain ⟨wD,hwD⟩:∃ z,z=w1.drew:=⟨_,rfl⟩
   have hmD:Mod No wr wD:=by rw [hwD,<- hw1];exact ((Mod.refl No wr).alloc _).drew
   have hxn:wD.heap[nb]? = some (.cells #[.string NM,.bool an,.slice oa om oc,.string TX] 98 (0,0)):=by rw [hwD,<- hw1,hnb];exact heap_alloc_new wr _
   have HXN:=zh hxn;have HMD:=zh hmD;have HWD:=zh hwD;have HROWD:=zh (own_keepM HROW.out hmD (fun _ _ f=>f));have HOBJ:=zh (hmD.keep HW.out.fix.obj (fun f=>f));have HC5:=zh (fun (W:World) (hm:Mod (fun q=>(Value.slice sa an1 sc).ownBlock=some q) wD W)=>cell_ofA (hm.keep HOBJ.out (fun e=>by obtain ⟨cur,hh⟩:=own_heapM HROWD.out e;rw [HOBJ.out] at hh;cases hh)) (i:=5) (v:=.map (some g.ab)) rfl);have HXK:=zh (fun (W:World) (hm:Mod (fun q=>(Value.slice sa an1 sc).ownBlock=some q) wD W)=>hm.keep HXN.out (fun e=>by obtain ⟨cur,hh⟩:=own_heapM HROWD.out e;rw [HXN.out] at hh;cases hh));have HN0:=zh (fun (W:World) (hm:Mod (fun q=>(Value.slice sa an1 sc).ownBlock=some q) wD W)=>cell_ofA (HXK.out W hm) (i:=0) (v:=.string NM) rfl);have HABN:=zh (show ¬ (Value.slice sa an1 sc).ownBlock=some g.ab from fun e=>HA1.out.offmap nm (by rw [HSV.out,<- HAN1.out];exact e));have HLKD:=zh (fun (W:World) (hm:Mod (fun q=>(Value.slice sa an1 sc).ownBlock=some q) wD W)=>HLKA.out W _ (HMD.out.no.trans hm) HABN.out);have HLS:=zh (fun (W:World) (hm:Mod (fun q=>(Value.slice sa an1 sc).ownBlock=some q) wD W)=>load_spanM (b:=nb) (o:=1) (an:=an) (oa:=oa) (om:=om) (oc:=oc) (by
    have h:=HXK.out W hm;intro j u hj;match j,hj with
    | 0,hj=>exact cell_ofA h (i:=1) hj
    | 1,hj=>exact cell_ofA h (i:=2) hj))
   have HGM:=zh (show ∀ w7,World.grownBy (wD.alloc (.cells #[.bool an,.slice oa om oc] 96)) w7 (Value.slice sa an1 sc).ownBlock->Mod (fun q=>(Value.slice sa an1 sc).ownBlock=some q) wD w7 from fun w7 h=>((Mod.refl No wD).alloc _).no.trans (Mod.of_grown h (fun q hq _=>hq)));obtain ⟨i1,hi0,hz0,hz1,hz2⟩:=info_parts info_span;have hbD:g.B<=wD.heap.size:=Nat.le_trans HW.out.fix.big hmD.size;have hS0:Mod (fun q=>(Value.slice sa an1 sc).ownBlock=some q) wD wD:=Mod.refl _ _;have HNBE:=zh hnb;clear hw1 hnb hxn hmD hwD o5;refine wp_region_T (fun w'=>Mod (fun q=>(Value.slice sa an1 sc).ownBlock=some q) wD w') 17 (by kernel_rfl) ?_;rw [<- HWD.out];refine yR 0 17 hS0 ?_;refine yR 1 18 hS0 ?_;refine yR 2 19 hS0 ?_;refine wpAnyT_take 3 (some 20) ?_ rfl rfl (by kernel_rfl) (fun _ _ _ h=>h) hS0 (Or.inl ⟨by rfl,?_⟩) ?_;rotate_left
   ·(intro w' hSw;have q5:=HC5.out w' hSw;go_simp;try with_reducible rfl)
   simp only [Act.put,yB,yC,yD];refine yR 4 21 hS0 ?_;refine wpAnyT_take 5 (some 22) ?_ rfl rfl (by kernel_rfl) (fun _ _ _ h=>h) hS0 (Or.inl ⟨by rfl,?_⟩) ?_;rotate_left
   ·(intro w' hSw;have q0:=HN0.out w' hSw;go_simp;try with_reducible rfl)
   simp only [Act.put,yB,yC,yD];refine yR 6 23 hS0 ?_;refine yR 7 24 hS0 ?_;refine yR 8 25 hS0 ?_;refine wpAnyT_take 9 (some 26) ?_ rfl rfl (by kernel_rfl) (fun _ _ _ h=>h) hS0 (Or.inl ⟨by rfl,?_⟩) ?_;rotate_left
   ·(intro w' hSw;have q5:=HC5.out w' hSw;go_simp;try with_reducible rfl)
   simp only [Act.put,yB,yC,yD];refine yR 10 27 hS0 ?_;refine wpAnyT_take 11 (some 28) ?_ rfl rfl (by kernel_rfl) (fun _ _ _ h=>h) hS0 (Or.inl ⟨by rfl,?_⟩) ?_;rotate_left
   ·(intro w' hSw;have q0:=HN0.out w' hSw;go_simp;try with_reducible rfl)
   simp only [Act.put,yB,yC,yD];refine wpAnyT_take 12 (some 29) ?_ rfl rfl (by kernel_rfl) (fun _ _ _ h=>h) hS0 (Or.inl ⟨by rfl,?_⟩) ?_;rotate_left
   ·(intro w' hSw;have ql:=HLKD.out w' hSw;go_simp;try with_reducible rfl)
   simp only [Act.put,yB,yC,yD];refine yR 13 30 hS0 ?_;refine wpAnyT_take 14 (some 31) (.agg #[.bool an,.slice oa om oc]) rfl rfl (by kernel_rfl) (fun _ _ _ h=>h) hS0 (Or.inl ⟨by rfl,?_⟩) ?_
   ·(intro w' hSw;exact yloadZ (HLS.out w' hSw) (.tmp 30) rfl rfl)
   simp only [Act.put,yB,yC,yD];refine wpAnyT_one 15 rfl (by kernel_rfl) rfl ?_;intro K hK;go_simp
   show K _ _
   have hS1:=(Mod.refl (fun q=>(Value.slice sa an1 sc).ownBlock=some q) wD).alloc (.cells #[.bool an,.slice oa om oc] 96);refine hK.out _ _ (fun _=>hS1) ?_;clear hK K;refine wpAnyT_one 16 rfl (by kernel_rfl) rfl ?_;intro K hK;refine wp_app_atN (.tmp 29) (.tmp 32) 359 rfl g.B 96 i1 _ 2 32 underlying359 hi0 hz0 hz1 hz2 rfl (by decide) (.slice sa an1 sc) an1 ((A1 nm).flatMap SnX.cells) rfl (own_keepM HROWD.out ((Mod.refl No wD).alloc _) (fun _ _ f=>f)) ⟨wD.heap.size,0,none⟩ 1 1 [.bool an,.slice oa om oc] rfl rfl (fun j u hu=>cells_newN hu) (by simp [Value.oneCell']) (by unfold maxLen;omega) (by omega) (Nat.le_trans hbD ((Mod.refl No wD).alloc _).size) ?_;intro nv' w7 hown hgr hat;have HOWN:=zh hown;have HGR:=zh hgr;have HAT:=zh hat;clear hown hgr hat;show K _ _
   have hS2:=HGM.out w7 HGR.out;refine hK.out _ _ (fun _=>hS2) ?_;clear hK K;refine wpAnyT_one 17 rfl (by kernel_rfl) rfl ?_;intro K hK;obtain ⟨w8,hst,hnp,hm8,-⟩:=NMp.put (t:=324) (((HA1.out.map.keep HMD.out (fun f=>f)).keep (HGM.out w7 HGR.out) HABN.out)) underlying324 HA2.out (by have:=HG.out.names;unfold maxLen;omega) nm (by have:=HNL.out;omega) nv';rw [<- HNMB.out] at hst;have HNP:=zh hnp;have HM8:=zh hm8;clear hnp hm8;go_simp
   show K _ _
   refine hK.out _ _ (fun h=>absurd rfl h) ?_;clear hK K;refine wpAnyT_done (by kernel_rfl) ?_ _
   have hmE:Mod No wr (wD.alloc (.cells #[.bool an,.slice oa om oc] 96)):=HMD.out.alloc _;obtain ⟨hw8,hm8⟩:=SrAt.push HG.out (HW.out.no HG.out hmE) (HA1.out.keep hmE (fun f=>f) (fun _ _ _ _ _ f=>f)) HA2.out HIN.out (s:=ndSp y) (by rw [HSP.out];exact HSO.out) (by rw [HSP.out];exact HOR.out.keep hmE (fun _ f=>f.elim))
    (v':=nv') (w1:=w7) (by rw [HSC.out,<- HAN1.out];exact HOWN.out) (by rw [HSV.out,<- HAN1.out];exact HGR.out) (by rw [HSV.out,<- HAN1.out];exact HAT.out) HNP.out HM8.out
   have HW8:=zh (show SrAt w8 g fx c A2 by rw [HTK.out];exact hw8);have HMW8:=zh (HM.out.thenSp ((Mod.noSp hmE).thenSp hm8));have HXN8:=zh (HM8.out.keep (HXK.out w7 (HGM.out w7 HGR.out)) (fun e=>by
    have hlt:=lt_of_heap HW.out.fix.obj;have:=HA1.out.map.lt;have:=HNBE.out;omega))
   clear hw8 hi0 hz0 hz1 hz2 hst hbD;go_upto_region 5 with fail
   obtain ⟨wF,hwF⟩:∃ z,z=w8.drew:=⟨_,rfl⟩
   have hmF:Mod No w8 wF:=by rw [hwF];exact (Mod.refl No w8).drew
   have HWF:=zh hwF;have HORF:=zh (((HOR.out.keep hmE (fun _ f=>f.elim)).keep hm8 (fun q hq=>askB_out hq)).keep hmF (fun _ f=>f.elim));have HW9:=zh (HW8.out.no HG.out hmF);have HM9:=zh (HMW8.out.thenSp (Mod.noSp hmF));have hxF:=hmF.keep HXN8.out (fun f=>f);have HXF:=zh hxF;have n0:=cell_ofA hxF (i:=0) (v:=.string NM) rfl;have o4:=cell_ofA HW9.out.fix.obj (i:=4) (v:=.map (some g.cb)) rfl;obtain ⟨cv,cbk,hlk1,hlk2,hch⟩:∃ (cv:Int) (cbk:Bool),(chV c nm).getD (.int .i64 0)=.int .i64 cv/\(chV c nm).isSome=cbk/\((cbk=false/\c nm=none)\/∃ r:Nat,cbk=true/\cv=(r:Int)/\c nm=some r):=by
    rcases cho_look c nm with ⟨h1,h2,h3⟩ | ⟨r,h1,h2,h3⟩
    ·exact ⟨0,false,h2,h3,.inl ⟨rfl,h1⟩⟩
    ·exact ⟨r,true,h2,h3,.inr ⟨r,rfl,rfl,h1⟩⟩
   have HLC:=zh (fun (W:World) (hm:Mod No wF W)=>(HW9.out.chosen.keep hm (fun f=>f)).look (t:=282) (z:=.int .i64 0) underlying282 (by kernel_rfl) nm (by have:=HNL.out;omega));rw [hlk1,hlk2,<- HNMB.out] at HLC;have hS0:Mod No wF wF:=Mod.refl _ _;have HCH:=zh hch;clear hm8 hmE hwF hmF hxF hlk1 hlk2 hch HMW8 HW8 HXN8;refine wp_region_T (fun w'=>Mod No wF w') 99 (by kernel_rfl) ?_;rw [<- HWF.out];refine yT 0 (some 35) ?_ hS0 ?_ ?_;rotate_left
   ·(intro w' hSw;have q0:=hSw.cell n0 (fun f=>f);have q4:=hSw.cell o4 (fun f=>f);go_simp;try with_reducible rfl)
   simp only [Act.put,yB,yC,yD];refine yT 1 (some 36) ?_ hS0 ?_ ?_;rotate_left
   ·(intro w' hSw;have q0:=hSw.cell n0 (fun f=>f);have q4:=hSw.cell o4 (fun f=>f);go_simp;try with_reducible rfl)
   simp only [Act.put,yB,yC,yD];refine yT 2 (some 37) ?_ hS0 ?_ ?_;rotate_left
   ·(intro w' hSw;have q0:=hSw.cell n0 (fun f=>f);have q4:=hSw.cell o4 (fun f=>f);go_simp;try with_reducible rfl)
   simp only [Act.put,yB,yC,yD];refine yT 3 (some 38) ?_ hS0 ?_ ?_;rotate_left
   ·(intro w' hSw;have q0:=hSw.cell n0 (fun f=>f);have q4:=hSw.cell o4 (fun f=>f);go_simp;try with_reducible rfl)
   simp only [Act.put,yB,yC,yD];refine yT 4 (some 39) ?_ hS0 ?_ ?_;rotate_left
   ·(intro w' hSw;have q0:=hSw.cell n0 (fun f=>f);have q4:=hSw.cell o4 (fun f=>f);go_simp;try with_reducible rfl)
   simp only [Act.put,yB,yC,yD];refine yT 5 (some 40) ?_ hS0 ?_ ?_;rotate_left
   ·(intro w' hSw;have q0:=hSw.cell n0 (fun f=>f);have q4:=hSw.cell o4 (fun f=>f);go_simp;try with_reducible rfl)
   simp only [Act.put,yB,yC,yD];refine yT 6 (some 41) ?_ hS0 ?_ ?_;rotate_left
   ·(intro w' hSw;have q0:=hSw.cell n0 (fun f=>f);have q4:=hSw.cell o4 (fun f=>f);have ql:=HLC.out w' hSw;go_simp;try with_reducible rfl)
   simp only [Act.put,yB,yC,yD];refine yT 7 (some 34) ?_ hS0 ?_ ?_;rotate_left
   ·(intro w' hSw;have q0:=hSw.cell n0 (fun f=>f);have q4:=hSw.cell o4 (fun f=>f);go_simp;try with_reducible rfl)
   simp only [Act.put,yB,yC,yD];refine yT 8 (some 42) ?_ hS0 ?_ ?_;rotate_left
   ·(intro w' hSw;have q0:=hSw.cell n0 (fun f=>f);have q4:=hSw.cell o4 (fun f=>f);go_simp;try with_reducible rfl)
   simp only [Act.put,yB,yC,yD];refine yT 9 (some 43) ?_ hS0 ?_ ?_;rotate_left
   ·(intro w' hSw;have q0:=hSw.cell n0 (fun f=>f);have q4:=hSw.cell o4 (fun f=>f);go_simp;try with_reducible rfl)
   simp only [Act.put,yB,yC,yD];refine yT 10 (some 8) ?_ hS0 ?_ ?_;rotate_left
   ·(intro w' hSw;have q0:=hSw.cell n0 (fun f=>f);have q4:=hSw.cell o4 (fun f=>f);go_simp;try with_reducible rfl)
   simp only [Act.put,yB,yC,yD];refine yT 11 (some 9) ?_ hS0 ?_ ?_;rotate_left
   ·(intro w' hSw;have q0:=hSw.cell n0 (fun f=>f);have q4:=hSw.cell o4 (fun f=>f);go_simp;try with_reducible rfl)
   simp only [Act.put];refine wpAnyT_done (by kernel_rfl) ?_ _
   rcases HCH.out with ⟨rfl,hcn⟩ | ⟨r,rfl,rfl,hcr⟩
   ·have HCN:=zh hcn;clear hcn;go_upto_region 6 with fail
    obtain ⟨wG,hwG⟩:∃ z,z=wF.drew:=⟨_,rfl⟩
    have hmG:Mod No wF wG:=by rw [hwG];exact (Mod.refl No wF).drew
    have HWG:=zh hwG;have HMG:=zh hmG;have hS0:Mod No wG wG:=Mod.refl _ _;clear hwG hmG;refine wp_region_T (fun w'=>Mod No wG w') 99 (by kernel_rfl) ?_;rw [<- HWG.out];refine yS 0 44 hS0 ?_;refine yS 1 45 hS0 ?_;refine yU 2 46 hS0 ?_;refine yU 3 47 hS0 ?_;refine yU 4 48 hS0 ?_;refine yU 5 49 hS0 ?_;refine yU 6 50 hS0 ?_;refine yU 7 51 hS0 ?_;refine yU 8 52 hS0 ?_;refine yU 9 53 hS0 ?_;refine yU 10 54 hS0 ?_;refine yU 11 55 hS0 ?_;refine yU 12 56 hS0 ?_;refine yU 13 57 hS0 ?_;refine yT 14 (some 58) ?_ hS0 ?_ ?_;rotate_left
    ·(intro w' hSw;go_simp;try with_reducible rfl)
    simp only [Act.put];refine wpAnyT_done (by kernel_rfl) ?_ _
    have HWZ:=zh (HW9.out.no HG.out HMG.out);have HMZ:=zh (HM9.out.thenSp (Mod.noSp HMG.out));have HMT2:=zh (HMT.out (fun r hr=>by rw [<- HNMY.out,HCN.out] at hr;cases hr));go_wp2_with fail
    exact ⟨⟨k+1,(by omega),rfl,(by rw [HTKA.out];exact HWZ.out),HMZ.out,HMT2.out⟩,by show n - ((k:Int)+1).toNat < n - (k:Int).toNat;omega⟩
   ·have hrl:r < g.xs.length:=HC.out _ _ hcr;have HCR:=zh hcr;obtain ⟨rb,ro,rc,hrv,-,hr1,-⟩:=HW9.out.fix.cells HG.out hrl;obtain ⟨ua,uc,hup⟩:=(HW9.out.fix.pre r hrl).len;have hvv:(rwAt g.xl r).v=(rxAt g.xs r).r.v:=by rw [rxAt_r]
    have g0:=cell_ofA HW9.out.fix.obj (i:=0) (v:=g.rv) rfl;rw [hrv] at g0;rw [hup] at hr1;have HCM0:=zh (fun (W:World) (hm:Mod No wF W)=>sphas_any y.n.span (.slice oa om oc) HSO.out (rxAt g.xs r).r.v (rxAt g.xs r).pv (HG.out.small _ (rxAt_mem hrl)) W (HORF.out.keep hm (fun _ f=>f.elim)).no (.of (((HW9.out.fix.pre r hrl).shrink (fun _ _ f=>f.elim)).kn hm)));rw [hup] at HCM0;have hr1i:(r:Int) < (g.xs.length:Int):=by omega
    have hr0i:(0:Int)<=(r:Int):=Int.natCast_nonneg _;have HHV:=zh (show hasS y.n.span (rwAt g.xl r).v=hasS y.n.span (rxAt g.xs r).r.v by rw [hvv]);have HMT3:=zh (show hasS y.n.span (rxAt g.xs r).r.v=true->∀ r,c y.n.name=some r->hasS y.n.span (rwAt g.xl r).v=true from fun h r2 h2=>by
     rw [<- HNMY.out,HCR.out] at h2;cases h2
     rw [HHV.out];exact h)
    have HNO3:=zh (show hasS y.n.span (rxAt g.xs r).r.v=false->∃ (j:Nat) (hj:j < ns.length) (r:Nat),c ns[j].n.name=some r/\hasS ns[j].n.span (rwAt g.xl r).v=false from fun h=>HNO.out r (by rw [<- HNMY.out];exact HCR.out) (by rw [HHV.out];exact h));generalize hasS y.n.span (rxAt g.xs r).r.v=hv at *;unfold verCs at hr1;unfold verV at HCM0;generalize (rxAt g.xs r).r.v.ma=v0 at *;generalize (rxAt g.xs r).r.v.mi=v1 at *;generalize (rxAt g.xs r).r.v.pa=v2 at *;generalize (rxAt g.xs r).r.v.pre.length=vn at *;rw [<- HAN.out] at HCM0;have HLV5:=zh (fun (W:World) (hm:Mod No wF W)=>load_verM (hm.rangeAt hr1 (fun f=>f)));have HLS5:=zh (fun (W:World) (hm:Mod No wF W)=>load_spanM (b:=nb) (o:=1) (an:=an) (oa:=oa) (om:=om) (oc:=oc) (by
     have h:=hm.keep HXF.out (fun f=>f);intro j u hj;match j,hj with
     | 0,hj=>exact cell_ofA h (i:=1) hj
     | 1,hj=>exact cell_ofA h (i:=2) hj))
    clear hrv hup hvv hr1 hrl hcr;go_upto_region 6 with fail
    obtain ⟨wG,hwG⟩:∃ z,z=wF.drew:=⟨_,rfl⟩
    have hmG:Mod No wF wG:=by rw [hwG];exact (Mod.refl No wF).drew
    have HWG:=zh hwG;have HMG:=zh hmG;have hS0:Mod No wG wG:=Mod.refl _ _;clear hwG hmG;have g0:=HMG.out.cell g0 (fun f=>f);have HLV6:=zh (fun (W:World) (hm:Mod No wG W)=>HLV5.out W (HMG.out.trans hm));have HLS6:=zh (fun (W:World) (hm:Mod No wG W)=>HLS5.out W (HMG.out.trans hm));have HCM:=zh (fun (W:World) (hm:Mod No wG W)=>HCM0.out W (HMG.out.trans hm));refine wp_region_T (fun w'=>Mod No wG w') 99 (by kernel_rfl) ?_;rw [<- HWG.out];refine yS 0 44 hS0 ?_;refine yS 1 45 hS0 ?_;refine yS 2 46 hS0 ?_;refine yT 3 (some 47) (.agg #[.bool an,.slice oa om oc]) hS0 ?_ ?_
    ·(intro w' hSw;exact yloadZ (HLS6.out w' hSw) (.tmp 46) rfl rfl)
    simp only [Act.put,yB,yC,yD];refine yS 4 48 hS0 ?_;refine yS 5 49 hS0 ?_;refine yS 6 50 hS0 ?_;refine yT 7 (some 51) ?_ hS0 ?_ ?_;rotate_left
    ·(intro w' hSw;have q0:=hSw.cell g0 (fun f=>f);go_simp;try with_reducible rfl)
    simp only [Act.put,yB,yC,yD];refine yS 8 52 hS0 ?_;refine yS 9 53 hS0 ?_;refine yS 10 54 hS0 ?_;refine yT 11 (some 55) (.agg #[.int .i64 v0,.int .i64 v1,.int .i64 v2,.slice ua vn uc]) hS0 ?_ ?_
    ·(intro w' hSw;exact yloadZ (HLV6.out w' hSw) (.tmp 54) rfl rfl)
    simp only [Act.put,yB,yC,yD];refine wpAnyT_oneW 12 rfl (by kernel_rfl) (by rfl) ?_;intro K hK;go_simp
    go_at_call 125
    with_reducible refine (HCM.out wG (Mod.refl _ _)).mono ?_
    rintro e wB ⟨rfl,hB⟩;show K _ _
    have hS1:=hB;refine hK.out _ _ (fun _=>hS1) ?_;clear hK K;refine yS 13 57 hS1 ?_;refine yT 14 (some 58) ?_ hS1 ?_ ?_;rotate_left
    ·(intro w' hSw;go_simp;try with_reducible rfl)
    simp only [Act.put];refine wpAnyT_done (by kernel_rfl) ?_ _
    have HWZ:=zh (HW9.out.no HG.out (HMG.out.trans hB));have HMZ:=zh (HM9.out.thenSp (Mod.noSp (HMG.out.trans hB)));rcases hv with _ | _
    ·have HX:=zh (HNO3.out rfl);go_wp2_with fail
     exact fin hR ⟨k+1,false,rfl,(by rw [<- HN.out];omega),(by rw [HTKA.out];exact HWZ.out),HMZ.out,(fun h=>by cases h),fun _=>HX.out⟩
    ·have HX:=zh (HMT.out (HMT3.out rfl));go_wp2_with fail
     exact ⟨⟨k+1,(by omega),rfl,(by rw [HTKA.out];exact HWZ.out),HMZ.out,HX.out⟩,by show n - ((k:Int)+1).toNat < n - (k:Int).toNat;omega⟩
  ·obtain rfl:k=n:=by omega
   have hk1:¬ ((k:Int) < (k:Int)):=by omega
   have HMT:=zh (show ∀ y ∈ ns,∀ r,c y.n.name=some r->hasS y.n.span (rwAt g.xl r).v=true from fun y hy r hr=>by
    obtain ⟨i,hi,rfl⟩:=List.getElem_of_mem hy;exact HMET.out i hi (by rw [HN.out];exact hi) r hr)
   go_wp2_with fail
   exact fin hR ⟨k,true,rfl,(by rw [HN.out];exact Nat.le_refl _),HW.out,HM.out,(fun _=>⟨HN.out,HMT.out⟩),(fun h=>by cases h)⟩
theorem SrAt.pop {w w2:World} {g:Sg} (hg:g.Ok) {fx:Fix} {c:Chs} {A:List UInt8->List SnX} (h:SrAt w g fx c A) {F:Vt} (ha:SpsAt w g.B g.ab F A) (hF:∀ k,F k ≠ none->k ∈ g.names) {k:List UInt8} {a:Option Addr} {n cp:Nat}
  (hk:F k=some (.slice a (n+1) cp)) (hn:(A k).length=n+1) (hm:NMp w2 g.ab (vPut F k (.slice a n cp))) (hmod:Mod (· = g.ab) w w2):SrAt w2 g fx c (popA A k)/\Mod (askB g w) w w2:=by
 have hm2:Mod (askB g w) w w2:=hmod.weaken (fun q _ e=>.inr (.inl e));have hne:=hg.ne;have hsub:∀ x,∀ s ∈ popA A k x,s ∈ A x:=fun x s hs=>by
  unfold popA at hs;split at hs
  ·rename_i e;subst e;exact List.dropLast_subset _ hs
  ·exact hs
 refine ⟨⟨h.fix.keep hg hm2 (fun q hq=>askB_out hq),h.fixed.keep hmod hne.2.2.2.2.2.2.2.1,h.chosen.keep hmod hne.2.2.2.2.2.2.2.2,
  ⟨_,AskAt.pop (e:=96) (sz:=2) (f:=SnX.cells) (fun _=>rfl) ha hk hn hm hmod,fun x hx=>?_⟩,fun x y hy=>(h.ors x y (hsub x y hy)).keep hm2 (fun q hq=>askB_out hq),fun x y hy=>h.good x y (hsub x y hy)⟩,hm2⟩
 by_cases e:x=k
 ·subst e;exact hF x (by rw [hk];simp)
 ·simp only [vPut,if_neg e] at hx;exact hF x hx
theorem back_any {g:Sg} (hg:g.Ok) {fx:Fix} {c:Chs} {A:List UInt8->List SnX} (lv:Value) (ns:List NdX) (hgood:NdGood ns) (w:World) (hw:SrAt w g fx c (askA A ns)) (hl:NdL g.out w lv ns)
  (hroom:∀ k,(A k).length+ns.length<=1000000) :
  Calls prog 277 #[.pointer (some ⟨g.sb,0,none⟩),lv] w fun e w'=>e=.returned (.tuple #[])/\SrAt w' g fx c A/\Mod (askB g w) w w':=by
 refine calls_hide fun R hR=>?_
 obtain ⟨la,lc,hlv⟩:=hl.sl.len;subst hlv;have HG:=zh hg;have HW0:=zh hw;have HL:=zh hl;have HGD:=zh hgood;have HRM:=zh hroom;obtain ⟨n,hn⟩:∃ n,n=ns.length:=⟨_,rfl⟩
 have hn1:=hgood.few;rw [<- hn] at hn1 ⊢;have HN:=zh hn;clear hg hw hl hgood hroom hn;go_enter func277,ntmps277
 go_wp2_with fail
 go_loopw [8] (fun q wr=>∃ k:Nat,k<=n/\q=.int .i64 (k:Int)/\SrAt wr g fx c (backA (askA A ns) (ns.take k))/\Mod (askB g w) w wr) (fun q _=>n - (intOf q).toNat)
 case atStart=>exact ⟨0,by omega,rfl,HW0.out,Mod.refl _ _⟩
 case round =>
  obtain ⟨k,hk,rfl,hwr,hmod⟩:=hrel;have HW:=zh hwr;have HM:=zh hmod;have hk0:(0:Int)<=(k:Int):=Int.natCast_nonneg _;clear hwr hmod;by_cases hlt:k < n
  ·have hk1:(k:Int) < (n:Int):=by omega
   have hkl:k < ns.length:=by rw [<- HN.out];exact hlt
   have hlk:=HL.out.keep HM.out (fun q hq=>askB_out hq);have hord:=hlk.each _ (List.getElem_mem hkl);obtain ⟨b,o,c2,hvs,_⟩:=hlk.sl.shape (by omega);have hsl:=hlk.sl;rw [hvs] at hsl;have hrg:=Sl.at NdX.cells_length hsl hkl;cases hvs
   have HTK:=zh (show backA (askA A ns) (ns.take (k+1))=popA (backA (askA A ns) (ns.take k)) ns[k].n.name from backA_take hkl);obtain ⟨m,hm⟩:=back_some (A:=A) hkl;have hmle:m<=1000000:=by
    have h1:=askA_len (A:=A) (l:=ns) ns[k].n.name;have h2:=HRM.out ns[k].n.name;rw [backA_at,List.length_take] at hm;omega
   have HNL:=zh (HGD.out.name _ (List.getElem_mem hkl));obtain ⟨oa,oc,hov⟩:∃ a c,ns[k].ov=.slice a ns[k].n.span.ors.length c:=by
    obtain ⟨_,-,-,h⟩:=hord.no;exact h.len
   obtain ⟨A2,hA2⟩:∃ A2,A2=backA (askA A ns) (ns.take (k+1)):=⟨_,rfl⟩
   rw [<- hA2] at HTK;have HTKA:=zh hA2.symm;clear hlk hsl hord hA2;generalize backA (askA A ns) (ns.take k)=A1 at *;generalize ns[k]=y at *;obtain ⟨nm,hnm⟩:∃ nm,nm=y.n.name:=⟨_,rfl⟩
   obtain ⟨NM,hNM⟩:∃ b:ByteArray,b=⟨nm.toArray⟩:=⟨_,rfl⟩
   have hcs:NdX.cells y=[.string NM,.bool y.n.span.any,.slice oa y.n.span.ors.length oc,.string ⟨y.n.text.toArray⟩]:=by unfold NdX.cells strV;rw [hov,hNM,hnm]
   rw [hcs] at hrg;rw [<- hnm] at HNL HTK hm;generalize y.n.span.any=an at *;generalize y.n.span.ors.length=om at *;generalize (⟨y.n.text.toArray⟩:ByteArray)=TX at *;have HRG:=zh hrg;have HNMB:=zh hNM;clear hrg hov hnm hNM hcs;obtain ⟨F,ha1,ha2⟩:=HW.out.asked;have HML:=zh hm;obtain ⟨sg,sc,hF,hsc⟩:∃ sg sc,F nm=some (.slice (some ⟨sg,0,none⟩) (m+1) sc)/\m+1<=sc:=by
    have h1:=ha1.row0 nm;rw [hm] at h1;cases hF:F nm with
    | none=>exact absurd hm (by rw [ha1.no nm hF];simp)
    | some v =>
     rw [hF] at h1;obtain ⟨-,⟨-,h0⟩ | ⟨g',cap,cur,hv,-,-,hc1,-⟩⟩:=h1
     ·omega
     ·exact ⟨g',cap,by rw [show v=_ from hv],hc1⟩
   have HA1:=zh ha1;have HA2:=zh ha2;have HF:=zh hF;have HLKA:=zh (fun (W:World) (hm:Mod No wr W)=>(ha1.map.keep hm (fun f=>f)).get (t:=324) (z:=.slice none 0 0) underlying324 (by kernel_rfl) nm (by have:=HNL.out;omega));rw [hF,<- HNMB.out] at HLKA;have hcl:sc<=maxLen:=by
    have h1:=ha1.row nm _ hF;rw [HML.out] at h1;obtain ⟨-,⟨hv,-⟩ | ⟨g',cap,cur,hv,-,-,-,hc2,-⟩⟩:=h1
    ·cases hv
    ·cases hv;exact hc2
   have HCL:=zh hcl;clear ha1 ha2 hF hm hcl;go_upto_region 3 with (refine wpList_load_mid rfl 98 _ rfl b (o+k*4) rfl _ _ HRG.out underlying98 rfl (by kernel_rfl) ?_)
   obtain ⟨nb,hnb⟩:∃ g,g=wr.heap.size:=⟨_,rfl⟩
   rw [<- hnb];generalize hw1:World.alloc wr _=w1;obtain ⟨wD,hwD⟩:∃ z,z=w1.drew:=⟨_,rfl⟩
   have hmD:Mod No wr wD:=by rw [hwD,<- hw1];exact ((Mod.refl No wr).alloc _).drew
   have hxn:wD.heap[nb]? = some (.cells #[.string NM,.bool an,.slice oa om oc,.string TX] 98 (0,0)):=by rw [hwD,<- hw1,hnb];exact heap_alloc_new wr _
   have HMD:=zh hmD;have HWD:=zh hwD;have o5:=cell_ofA (hmD.keep HW.out.fix.obj (fun f=>f)) (i:=5) (v:=.map (some g.ab)) rfl;have n0:=cell_ofA hxn (i:=0) (v:=.string NM) rfl;have hm0:(0:Int)<=(m:Int):=Int.natCast_nonneg _;have HWR:=zh (show IntKind.i64.wrap (m:Int)=m by rw [IntKind.wrap_i64];omega);have hS0:Mod No wD wD:=Mod.refl _ _;clear hw1 hnb hxn hmD hwD;refine wp_region_T (fun w'=>Mod No wD w') 23 (by kernel_rfl) ?_;rw [<- HWD.out];refine wpAnyT_take 0 (some 12) ?_ rfl rfl (by kernel_rfl) (fun _ _ _ h=>h) hS0 (Or.inl ⟨by rfl,?_⟩) ?_;rotate_left
   ·(intro w' hSw;have q5:=hSw.cell o5 (fun f=>f);have q0:=hSw.cell n0 (fun f=>f);go_simp;try with_reducible rfl)
   simp only [Act.put,yB,yC,yD];refine wpAnyT_take 1 (some 13) ?_ rfl rfl (by kernel_rfl) (fun _ _ _ h=>h) hS0 (Or.inl ⟨by rfl,?_⟩) ?_;rotate_left
   ·(intro w' hSw;have q5:=hSw.cell o5 (fun f=>f);have q0:=hSw.cell n0 (fun f=>f);go_simp;try with_reducible rfl)
   simp only [Act.put,yB,yC,yD];refine wpAnyT_take 2 (some 14) ?_ rfl rfl (by kernel_rfl) (fun _ _ _ h=>h) hS0 (Or.inl ⟨by rfl,?_⟩) ?_;rotate_left
   ·(intro w' hSw;have q5:=hSw.cell o5 (fun f=>f);have q0:=hSw.cell n0 (fun f=>f);go_simp;try with_reducible rfl)
   simp only [Act.put,yB,yC,yD];refine wpAnyT_take 3 (some 15) ?_ rfl rfl (by kernel_rfl) (fun _ _ _ h=>h) hS0 (Or.inl ⟨by rfl,?_⟩) ?_;rotate_left
   ·(intro w' hSw;have q5:=hSw.cell o5 (fun f=>f);have q0:=hSw.cell n0 (fun f=>f);go_simp;try with_reducible rfl)
   simp only [Act.put,yB,yC,yD];refine wpAnyT_take 4 (some 16) ?_ rfl rfl (by kernel_rfl) (fun _ _ _ h=>h) hS0 (Or.inl ⟨by rfl,?_⟩) ?_;rotate_left
   ·(intro w' hSw;have q5:=hSw.cell o5 (fun f=>f);have q0:=hSw.cell n0 (fun f=>f);go_simp;try with_reducible rfl)
   simp only [Act.put,yB,yC,yD];refine wpAnyT_take 5 (some 17) ?_ rfl rfl (by kernel_rfl) (fun _ _ _ h=>h) hS0 (Or.inl ⟨by rfl,?_⟩) ?_;rotate_left
   ·(intro w' hSw;have q5:=hSw.cell o5 (fun f=>f);have q0:=hSw.cell n0 (fun f=>f);go_simp;try with_reducible rfl)
   simp only [Act.put,yB,yC,yD];refine wpAnyT_take 6 (some 18) ?_ rfl rfl (by kernel_rfl) (fun _ _ _ h=>h) hS0 (Or.inl ⟨by rfl,?_⟩) ?_;rotate_left
   ·(intro w' hSw;have q5:=hSw.cell o5 (fun f=>f);have q0:=hSw.cell n0 (fun f=>f);go_simp;try with_reducible rfl)
   simp only [Act.put,yB,yC,yD];refine wpAnyT_take 7 (some 19) ?_ rfl rfl (by kernel_rfl) (fun _ _ _ h=>h) hS0 (Or.inl ⟨by rfl,?_⟩) ?_;rotate_left
   ·(intro w' hSw;have q5:=hSw.cell o5 (fun f=>f);have q0:=hSw.cell n0 (fun f=>f);go_simp;try with_reducible rfl)
   simp only [Act.put,yB,yC,yD];refine wpAnyT_take 8 (some 20) ?_ rfl rfl (by kernel_rfl) (fun _ _ _ h=>h) hS0 (Or.inl ⟨by rfl,?_⟩) ?_;rotate_left
   ·(intro w' hSw;have q5:=hSw.cell o5 (fun f=>f);have q0:=hSw.cell n0 (fun f=>f);go_simp;try with_reducible rfl)
   simp only [Act.put,yB,yC,yD];refine wpAnyT_take 9 (some 21) ?_ rfl rfl (by kernel_rfl) (fun _ _ _ h=>h) hS0 (Or.inl ⟨by rfl,?_⟩) ?_;rotate_left
   ·(intro w' hSw;have q5:=hSw.cell o5 (fun f=>f);have q0:=hSw.cell n0 (fun f=>f);go_simp;try with_reducible rfl)
   simp only [Act.put,yB,yC,yD];refine wpAnyT_take 10 (some 22) ?_ rfl rfl (by kernel_rfl) (fun _ _ _ h=>h) hS0 (Or.inl ⟨by rfl,?_⟩) ?_;rotate_left
   ·(intro w' hSw;have q5:=hSw.cell o5 (fun f=>f);have q0:=hSw.cell n0 (fun f=>f);go_simp;try with_reducible rfl)
   simp only [Act.put,yB,yC,yD];refine wpAnyT_take 11 (some 23) ?_ rfl rfl (by kernel_rfl) (fun _ _ _ h=>h) hS0 (Or.inl ⟨by rfl,?_⟩) ?_;rotate_left
   ·(intro w' hSw;have q5:=hSw.cell o5 (fun f=>f);have q0:=hSw.cell n0 (fun f=>f);go_simp;try with_reducible rfl)
   simp only [Act.put,yB,yC,yD];refine wpAnyT_take 12 (some 24) ?_ rfl rfl (by kernel_rfl) (fun _ _ _ h=>h) hS0 (Or.inl ⟨by rfl,?_⟩) ?_;rotate_left
   ·(intro w' hSw;have q5:=hSw.cell o5 (fun f=>f);have q0:=hSw.cell n0 (fun f=>f);have ql:=HLKA.out w' (HMD.out.trans hSw);go_simp;try with_reducible rfl)
   simp only [Act.put,yB,yC,yD];refine wpAnyT_take 13 (some 25) ?_ rfl rfl (by kernel_rfl) (fun _ _ _ h=>h) hS0 (Or.inl ⟨by rfl,?_⟩) ?_;rotate_left
   ·(intro w' hSw;have q5:=hSw.cell o5 (fun f=>f);have q0:=hSw.cell n0 (fun f=>f);go_simp;try with_reducible rfl)
   simp only [Act.put,yB,yC,yD];refine wpAnyT_take 14 (some 26) ?_ rfl rfl (by kernel_rfl) (fun _ _ _ h=>h) hS0 (Or.inl ⟨by rfl,?_⟩) ?_;rotate_left
   ·(intro w' hSw;have q5:=hSw.cell o5 (fun f=>f);have q0:=hSw.cell n0 (fun f=>f);go_simp;try with_reducible rfl)
   simp only [Act.put,yB,yC,yD];refine wpAnyT_take 15 (some 27) ?_ rfl rfl (by kernel_rfl) (fun _ _ _ h=>h) hS0 (Or.inl ⟨by rfl,?_⟩) ?_;rotate_left
   ·(intro w' hSw;have q5:=hSw.cell o5 (fun f=>f);have q0:=hSw.cell n0 (fun f=>f);go_simp;try with_reducible rfl)
   simp only [Act.put,yB,yC,yD];refine wpAnyT_take 16 (some 28) ?_ rfl rfl (by kernel_rfl) (fun _ _ _ h=>h) hS0 (Or.inl ⟨by rfl,?_⟩) ?_;rotate_left
   ·(intro w' hSw;have q5:=hSw.cell o5 (fun f=>f);have q0:=hSw.cell n0 (fun f=>f);go_simp;try with_reducible rfl)
   simp only [Act.put,yB,yC,yD];refine wpAnyT_take 17 (some 29) ?_ rfl rfl (by kernel_rfl) (fun _ _ _ h=>h) hS0 (Or.inl ⟨by rfl,?_⟩) ?_;rotate_left
   ·(intro w' hSw;have q5:=hSw.cell o5 (fun f=>f);have q0:=hSw.cell n0 (fun f=>f);go_simp;try with_reducible rfl)
   simp only [Act.put,yB,yC,yD];refine wpAnyT_take 18 (some 30) ?_ rfl rfl (by kernel_rfl) (fun _ _ _ h=>h) hS0 (Or.inl ⟨by rfl,?_⟩) ?_;rotate_left
   ·(intro w' hSw;have q5:=hSw.cell o5 (fun f=>f);have q0:=hSw.cell n0 (fun f=>f);go_simp;try with_reducible rfl)
   simp only [Act.put,yB,yC,yD];refine wpAnyT_take 19 (some 31) ?_ rfl rfl (by kernel_rfl) (fun _ _ _ h=>h) hS0 (Or.inl ⟨by rfl,?_⟩) ?_;rotate_left
   ·(intro w' hSw;have q5:=hSw.cell o5 (fun f=>f);have q0:=hSw.cell n0 (fun f=>f);have ql:=HLKA.out w' (HMD.out.trans hSw);go_simp;try with_reducible rfl)
   simp only [Act.put,yB,yC,yD];refine wpAnyT_take 20 (some 32) (.int .i64 ((m:Int)+1)) rfl rfl (by kernel_rfl) (fun _ _ _ h=>h) hS0 (Or.inl ⟨by rfl,?_⟩) ?_
   ·(intro w' hSw;have q5:=hSw.cell o5 (fun f=>f);have q0:=hSw.cell n0 (fun f=>f);go_simp;try with_reducible rfl)
   simp only [Act.put,yB,yC,yD];refine wpAnyT_take 21 (some 33) (.int .i64 (m:Int)) rfl rfl (by kernel_rfl) (fun _ _ _ h=>h) hS0 (Or.inl ⟨by rfl,?_⟩) ?_
   ·(intro w' hSw;have q5:=hSw.cell o5 (fun f=>f);have q0:=hSw.cell n0 (fun f=>f);go_simp;exact HWR.out)
   simp only [Act.put,yB,yC,yD];refine wpAnyT_take 22 (some 34) (.slice (some ⟨sg,0,none⟩) m sc) rfl rfl (by kernel_rfl) (fun _ _ _ h=>h) hS0 (Or.inl ⟨by rfl,?_⟩) ?_
   ·(intro w' hSw;have q5:=hSw.cell o5 (fun f=>f);have q0:=hSw.cell n0 (fun f=>f);go_simp;intro h;omega)
   simp only [Act.put,yB,yC,yD];refine wpAnyT_one 23 rfl (by kernel_rfl) rfl ?_;intro K hK;obtain ⟨w8,hst,hnp,hm8,-⟩:=NMp.put (t:=324) (HA1.out.map.keep HMD.out (fun f=>f)) underlying324 HA2.out (by have:=HG.out.names;unfold maxLen;omega) nm (by have:=HNL.out;omega) (.slice (some ⟨sg,0,none⟩) m sc);rw [<- HNMB.out] at hst;have HNP:=zh hnp;have HM8:=zh hm8;clear hnp hm8;go_simp
   show K _ _
   refine hK.out _ _ (fun h=>absurd rfl h) ?_;clear hK K;refine wpAnyT_done (by kernel_rfl) ?_ _
   obtain ⟨hw8,hm8⟩:=SrAt.pop HG.out (HW.out.no HG.out HMD.out) (HA1.out.keep HMD.out (fun f=>f) (fun _ _ _ _ _ f=>f)) HA2.out HF.out HML.out HNP.out HM8.out;have HW8:=zh (show SrAt w8 g fx c A2 by rw [HTK.out];exact hw8);have HMW8:=zh (HM.out.thenSp ((Mod.noSp HMD.out).thenSp hm8));clear hw8 hm8 hst;go_wp2_with fail
   exact ⟨⟨k+1,(by omega),rfl,(by rw [HTKA.out];exact HW8.out),HMW8.out⟩,by show n - ((k:Int)+1).toNat < n - (k:Int).toNat;omega⟩
  ·obtain rfl:k=n:=by omega
   have hk1:¬ ((k:Int) < (k:Int)):=by omega
   have HBK:=zh (show backA (askA A ns) (ns.take k)=A by rw [List.take_of_length_le (by rw [HN.out];exact Nat.le_refl _)];exact back_ask A ns);rw [HBK.out] at HW;go_wp2_with fail
   refine bodyPost_end (results_none rfl _ _ _) rfl ?_;exact fin hR ⟨rfl,HW.out,HM.out⟩
end Go.Proofs.YticfcmdjplmaeaaGreatDoor
