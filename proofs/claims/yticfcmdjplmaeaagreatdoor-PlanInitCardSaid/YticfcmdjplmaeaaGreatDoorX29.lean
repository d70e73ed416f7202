/-
  Layers 0 to 14: helps of the laws of indexes. No statement is proved here; no condition.
-/
import Derived.Test.YticfcmdjplmaeaaGreatDoorX25
import Derived.Test.YticfcmdjplmaeaaGreatDoorX26
import Derived.Test.YticfcmdjplmaeaaGreatDoorX27
import Derived.Test.YticfcmdjplmaeaaGreatDoorX28
set_option maxRecDepth 100000
set_option maxHeartbeats 64000000
namespace Go.Proofs.YticfcmdjplmaeaaGreatDoor
open _root_.Go.Proofs.Tryz
open Go.RowKit Go.Maps
def GoPost (w:World) (g:Sg) (fx:Fix) (c:Chs) (A:List UInt8->List SnX) (e:Ending) (w':World):Prop :=
 Mod (askB g w) w w'/\((e=.returned .nilIface/\∃ d,SrAt w' g fx d A/\Sol.Sol (solI g.xl g.nl) d/\Sol.Con fx d) ∨
  ∃ q,e=.returned (confV q)/\SrAt w' g fx c A/\Sol.NoSol (solI g.xl g.nl) fx c)
theorem SrAt.rechoose {w w':World} {g:Sg} (hg:g.Ok) {fx:Fix} {c c':Chs} {A:List UInt8->List SnX} (h:SrAt w g fx c A) (hm:NMp w' g.cb (chV c')) (hmod:Mod (· = g.cb) w w'):SrAt w' g fx c' A:=by
 have hne:=hg.ne;have hmo:∀ q,q=g.cb->g.out q:=fun q e=>.inr (.inl e)
 obtain ⟨F,a1,a2⟩:=h.asked;refine ⟨h.fix.keep hg hmod hmo,h.fixed.keep hmod (fun e=>hne.2.2.2.2.2.2.1 e),hm,⟨F,a1.keep hmod (fun e=>hne.2.2.2.2.2.2.2.2 e.symm) (fun k v q hv hq e=>?_),a2⟩,fun k s hs=>(h.ors k s hs).keep hmod hmo,h.good⟩
 subst e;obtain ⟨cur,hh⟩:=own_heapM (a1.row k v hv) hq;exact h.chosen.not_cells _ _ _ hh
theorem chV_put (c:Chs) (n:List UInt8) (i:Nat):vPut (chV c) n (intV i)=chV (Sol.putC c n i):=by
 funext x;unfold vPut chV Sol.putC;by_cases h:x=n <;> simp [h]
theorem chV_del {c:Chs} {n:List UInt8} (i:Nat) (hc:c n=none):vDel (chV (Sol.putC c n i)) n=chV c:=by
 funext x;unfold vDel chV Sol.putC;by_cases h:x=n
 ·subst h;simp [hc]
 ·simp [h]
theorem Mod.cbSp {g:Sg} {a b:World} (h:Mod (· = g.cb) a b):Mod (askB g a) a b:=h.weaken fun _ _ e=>.inl e
theorem NdL.take {X:Nat->Prop} {w:World} {a:Option Addr} {n c k:Nat} {ns:List NdX} (h:NdL X w (.slice a n c) ns) (hn:n=ns.length) (hk:k<=n):NdL X w (.slice a k c) (ns.take k):=by
 rcases Nat.eq_zero_or_pos n with h0 | h0
 ·have hk0:k=0:=by omega
  have hns:ns=[]:=List.length_eq_zero_iff.1 (by omega);subst hk0 hns h0;exact h
 subst hn;refine ⟨?_,fun y hy=>h.each y (List.mem_of_mem_take hy)⟩
 obtain ⟨b,o,c',e,_⟩:=h.sl.shape h0;have h1:=h.sl;rw [e] at h1;cases e
 have hl:(ns.flatMap NdX.cells).length=ns.length*4:=flat_length NdX.cells_length ns;have hlk:(ns.take k).length=k:=by rw [List.length_take];omega
 rw [hlk];rcases h1 with ⟨h,_⟩ | ⟨blk,o',c0,cur,fz,hv,hn,hc,hX,hh,hle,hr⟩
 ·cases h
 ·cases hv
  have hpre:(ns.take k).flatMap NdX.cells=(ns.flatMap NdX.cells).take (k*4):=flat_takeM (fun y _=>NdX.cells_length y) k;refine .inr ⟨b,o,c,cur,fz,rfl,by omega,hc,hX,hh,?_,fun i hi=>?_⟩
  ·rw [hpre,List.length_take];omega
  ·rw [hpre,List.length_take] at hi;rw [hpre,List.getElem?_take,if_pos (by omega),hr i (by omega)]
theorem NdGood.take {ns:List NdX} (h:NdGood ns) (k:Nat):NdGood (ns.take k):=⟨by rw [List.length_take];have:=h.few;omega,fun y hy=>h.span y (List.mem_of_mem_take hy),fun y hy=>h.name y (List.mem_of_mem_take hy)⟩
theorem as_confl (q eb:Nat) (w:World) (hg:ErrTy w) (he:w.heap[eb]? = some (.cells #[.pointer none] 331 (0,0))) :
  Calls prog 31 #[confV q,.iface 332 (.pointer (some ⟨eb,0,none⟩))] w fun e w'=>e=.returned (.bool true)/\w'.heap[eb]? = some (.cells #[.pointer (some ⟨q,0,none⟩)] 331 (0,0))/\Mod (· = eb) w w':=by
 refine (as_hitC ⟨q,0,none⟩ ⟨eb,0,none⟩ (.pointer none) w hg (cell_ofA he rfl) (frozen_of 0 he)).mono ?_;rintro e w' ⟨rfl,rfl⟩;refine ⟨rfl,?_,((((((Mod.refl (fun x=>x=eb) w).alloc _).alloc _).alloc _).alloc _).setCell (fun _=>rfl) _)⟩
 rw [heap_setCell (heap_alloc_old _ (heap_alloc_old _ (heap_alloc_old _ (heap_alloc_old _ he))))];rfl
structure Sg.Far0 (g:Sg):Prop where
 fb:g.fb ≠ 0
 cb:g.cb ≠ 0
 ab:g.ab ≠ 0
 B:0 < g.B
theorem ErrTy.keepSp {g:Sg} {w w':World} (h:ErrTy w) (hz:g.Far0) (hm:Mod (askB g w) w w'):ErrTy w':=h.keep hm fun hs=>by
 rcases hs with e | e | ⟨e,-⟩
 ·exact hz.cb e.symm
 ·exact hz.ab e.symm
 ·have:=hz.B;omega
theorem go1_step {g:Sg} (hg:g.Ok) (hz:g.Far0) {fx:Fix} (hfl:∀ a,fx a ≠ none->a.length<=1000000) (c:Chs) (A:List UInt8->List SnX) (w:World) (hw:WayAt w g fx c A) (herr:ErrTy w)
  (ih:∀ (c':Chs) (A':List UInt8->List SnX) (w':World),leftN g.xl c' < leftN g.xl c->WayAt w' g fx c' A'->ErrTy w'->Calls prog 233 #[.pointer (some ⟨g.sb,0,none⟩)] w' (GoPost w' g fx c' A')) :
  Calls prog 233 #[.pointer (some ⟨g.sb,0,none⟩)] w (GoPost w g fx c A):=by
 refine calls_hide fun R hR=>?_
 have hroom:∀ k,(A k).length<=1000000:=fun k=>Nat.le_trans (Nat.le_add_right _ _) (hw.room k)
 have HFA:=zh (far_any hg w hw.at_ hw.ask (fun a r h=>hw.row h) hroom hfl);have HNX:=zh (fun (W:World) (hm:Mod No w W)=>nextq_any hg (fx:=fx) (c:=c) (A:=A) W (hw.at_.no hg hm) hroom);have o7:=cell_ofA hw.at_.fix.obj (i:=7) (v:=.bool true) rfl;have HG:=zh hg;have HZ:=zh hz;have HFL:=zh hfl;have HW:=zh hw;have HER:=zh herr;have HIH:=zh ih;clear hg hz hfl hw herr ih hroom;go_enter func233,ntmps233
 go_wp2_with fail
 with_reducible refine HFA.out.mono ?_
 rintro e w1 ⟨⟨s1,b1,rfl,hb1,hb2⟩,hm1⟩;have HM1:=zh hm1;rcases b1 with _ | _
 ·have HFAR:=zh (hb2 rfl);have HNW:=zh (HNX.out w1 hm1);clear hb1 hb2 hm1 HFA o7 HNX;go_wp2_with fail
  with_reducible refine HNW.out.mono ?_
  rintro e w2 ⟨⟨rfl,hall⟩ | ⟨nm,rv,rfl,hne,hcn,hnl,hrows⟩,hm2⟩
  ·have HM2:=zh (HM1.out.trans hm2);have HE:=zh (way_done HW.out.way HW.out.ask hall HFAR.out);clear hall hm2;go_wp2_with fail
   exact fin hR ⟨Mod.noSp HM2.out,.inl ⟨rfl,c,HW.out.at_.no HG.out HM2.out,HE.out.1,HE.out.2⟩⟩
  ·have HM2:=zh (HM1.out.trans hm2);obtain ⟨M,hM⟩:∃ M,M=mayL g.xl fx (spA A) nm:=⟨_,rfl⟩
   rw [<- hM] at hrows;have hml:=mayL_le g.xl fx (spA A) nm;rw [List.length_map,<- hM] at hml;have hfw:=HG.out.few;obtain ⟨ra,rc,hrv⟩:=own_len hrows;subst hrv;have HRW:=zh (Sl.of_own (X:=No) hrows (fun _ _ f=>f));have HMM:=zh hM;have HNE:=zh hne;have HCN:=zh hcn;have HNL:=zh hnl;have hM20:M.length<=20:=by omega
   obtain ⟨NM,hNM⟩:∃ b:ByteArray,b=⟨nm.toArray⟩:=⟨_,rfl⟩
   have HNMB:=zh hNM;unfold strV;rw [<- hNM];clear hm2 hrows hne hcn hnl hM hml hfw hNM HNW;go_upto_region 12 with fail
   obtain ⟨q0,hq0⟩:∃ q,q=w2.heap.size:=⟨_,rfl⟩
   rw [<- hq0];generalize hw3:World.alloc w2 _=w3;have hm3:Mod No w2 w3:=by rw [<- hw3];exact (Mod.refl No w2).alloc _
   have HM3:=zh (HM2.out.trans hm3);have HRW3:=zh (HRW.out.kn hm3);clear hw3 hm3 hq0;go_wp2_with fail
   go_loopw [8,59] (fun q8 q59 wr=>∃ (k q:Nat),k<=M.length/\q59=.int .i64 (k:Int)/\q8=confV q/\SrAt wr g fx c A/\Mod (askB g w) w wr/\Sl wr No 3 (.slice ra M.length rc) M.length (M.map intV)/\∀ i (hi:i < M.length),i < k->Sol.NoSol (solI g.xl g.nl) fx (Sol.putC c nm M[i])) (fun _ q _=>M.length - (intOf q).toNat)
   case atStart=>exact ⟨0,q0,by omega,rfl,rfl,HW.out.at_.no HG.out HM3.out,Mod.noSp HM3.out,HRW3.out,fun i _ h=>absurd h (by omega)⟩
   case round =>
    obtain ⟨k,q,hk,rfl,rfl,hat,hmod,hrw,hns⟩:=hrel;have HAT:=zh hat;have HMR:=zh hmod;have HRWR:=zh hrw;have HNS:=zh hns;have hk0:(0:Int)<=(k:Int):=Int.natCast_nonneg _;clear hat hmod hrw hns;by_cases hlt:k < M.length
    ·have hk1:(k:Int) < (M.length:Int):=by omega
     obtain ⟨b,o,c2,hvs,_⟩:=HRWR.out.shape (by omega);have hsl:=HRWR.out;rw [hvs] at hsl;have hcell:=hsl.cellN (i:=k) (by rw [List.length_map];exact hlt);rw [List.getElem_map] at hcell;unfold intV at hcell;have hra:ra=some ⟨b,o,none⟩:=by cases hvs;rfl
     subst hra;clear hvs hsl;have hmem:M[k] ∈ mayL g.xl fx (spA A) nm:=by rw [<- HMM.out];exact List.getElem_mem hlt
     have him:M[k] ∈ rowsN g.xl nm:=(List.mem_filter.1 hmem).1;have hil:M[k] < g.xs.length:=by have h:=(rowsN_mem.1 him).1;rw [List.length_map] at h;exact h
     have HNSK:=zh (show Sol.NoSol (solI g.xl g.nl) fx (Sol.putC c nm M[k])->∀ i (hi:i < M.length),i < k+1->Sol.NoSol (solI g.xl g.nl) fx (Sol.putC c nm M[i]) from fun h i hi hik=>by
      rcases Nat.lt_or_ge i k with h3 | h3
      ·exact HNS.out i hi h3
      ·obtain rfl:i=k:=by omega
       exact h)
     generalize M[k]=i at *;have HMEM:=zh hmem;have hlt1:=leftN_put HCN.out him;have HLT:=zh hlt1;have HIL:=zh hil;obtain ⟨hq1,hq2,hq3⟩:=HG.out.nds i hil;have hq1:(g.nx i).map NdX.n=(rwAt g.xl i).needs:=by rw [<- rxAt_r];exact hq1
     obtain ⟨ns,hns⟩:∃ ns,ns=g.nx i:=⟨_,rfl⟩
     rw [<- hns] at hq1 hq2 hq3;have HQ1:=zh hq1;have HQ2:=zh hq2;have HQ3:=zh hq3;have HNSE:=zh hns;have hnf:=hq2.few;have HRM:=zh (show ∀ k,(A k).length+ns.length<=1000000 from fun k=>by have:=HW.out.room k;omega);have HROW:=zh (show ∀ a r,Sol.putC c nm i a=some r->r < g.xs.length from fun a r h=>by
      unfold Sol.putC at h;split at h
      ·cases h;exact HIL.out
      ·exact (HW.out.row h).1)
     have o4:=cell_ofA HAT.out.fix.obj (i:=4) (v:=.map (some g.cb)) rfl;have hi0:(0:Int)<=(i:Int):=Int.natCast_nonneg _;have hiL:(i:Int) < (g.xs.length:Int):=by omega
     clear hmem him hil hlt1 hq1 hq2 hq3 hns HNS;unfold confV
     go_upto_region 16 with (refine wpList_nput rfl _ _ _ 282 3 rfl underlying282 rfl HAT.out.chosen (names:=g.xl.map (·.name)) (fun a ha=>by
      cases hca:c a with
      | none=>exact absurd (show chV c a=none by unfold chV;rw [hca];rfl) ha
      | some r =>
       obtain ⟨h1,h2⟩:=HW.out.row hca;have h3:r < g.xl.length:=by rw [List.length_map];exact h1
       rw [rwAt_get h3] at h2;exact List.mem_map.2 ⟨_,List.getElem_mem h3,h2⟩) (by rw [List.length_map,List.length_map];have:=HG.out.few;unfold maxLen;omega) nm (by have:=HNL.out;omega) (intV i) (by show Value.string NM=_;rw [HNMB.out]) rfl ?_;intro w4 hnp hmm hsz)
     have HA4:=zh (HAT.out.rechoose HG.out (by rw [<- chV_put];exact hnp) hmm);have HM4:=zh (HMR.out.thenSp hmm.cbSp);have HRW4:=zh (HRWR.out.keepSp hmm.cbSp HAT.out.cbNot HAT.out.abNot (by decide));clear hnp hmm hsz o4 hcell HRWR HMR HAT;obtain ⟨rb,ro,rcp,hrv,-,-,hr5⟩:=HA4.out.fix.cells HG.out HIL.out;have hndl:=HA4.out.fix.nds i HIL.out;rw [<- HNSE.out] at hndl;obtain ⟨na,nc,hnv⟩:=hndl.sl.len;have g0:=cell_ofA HA4.out.fix.obj (i:=0) (v:=g.rv) rfl;rw [hrv] at g0;rw [hnv] at hr5 hndl;have HNV:=zh hnv;have HRV:=zh hrv;have hncap:ns.length<=nc:=by
      rcases Nat.eq_zero_or_pos ns.length with h | h
      ·omega
      ·obtain ⟨_,_,c',e,h1,-⟩:=hndl.sl.shape h;cases e;exact h1
     have HNCAP:=zh hncap;have hncm:nc<=maxLen\/ns.length=0:=by
      rcases Nat.eq_zero_or_pos ns.length with h | h
      ·exact .inr h
      ·obtain ⟨_,_,c',e,-,h1,-⟩:=hndl.sl.shape h;cases e;exact .inl h1
     obtain ⟨nn,hnn⟩:∃ n,n=ns.length:=⟨_,rfl⟩
     rw [<- hnn] at hr5 hndl hnf HNCAP HNV;have HASK:=zh (ask_any HG.out (.slice na nn nc) ns HQ2.out HQ3.out w4 HA4.out hndl HRM.out HROW.out);have HNN:=zh hnn;clear hrv hnv hndl hnn hncm hncap;go_wp2_with fail
     with_reducible refine HASK.out.mono ?_
     rintro e w5 ⟨kk,ok,rfl,hkk,hat5,hm5,hok1,hok2⟩;have HKK:=zh (show kk<=nn by rw [HNN.out];exact hkk);have HA5:=zh hat5;have HM5:=zh (HM4.out.thenSp hm5);have HRW5:=zh (HRW4.out.keepSp hm5 HA4.out.cbNot HA4.out.abNot (by decide));clear hat5 hm5 hkk g0 hr5 HASK HA4 HM4 HRW4;go_upto_region 18 with fail
     obtain ⟨q6,hq6⟩:∃ q,q=w5.heap.size:=⟨_,rfl⟩
     rw [<- hq6];generalize hw6:World.alloc w5 _=w6;have hm6:Mod No w5 w6:=by rw [<- hw6];exact (Mod.refl No w5).alloc _
     have HA6:=zh (HA5.out.no HG.out hm6);have HM6:=zh (HM5.out.thenSp (Mod.noSp hm6));have HRW6:=zh (HRW5.out.kn hm6);clear hw6 hm6 hq6 HA5 HM5 HRW5;have hkk0:(0:Int)<=(kk:Int):=Int.natCast_nonneg _;have hkk1:(kk:Int)<=(nn:Int):=by have:=HKK.out;omega
     have hkk2:(kk:Int)<=(nc:Int):=by have:=HKK.out;have:=HNCAP.out;omega
     have hkk3:kk<=nc:=by have:=HKK.out;have:=HNCAP.out;omega
     rcases ok with _ | _
     ·have HNQ:=zh (show Sol.NoSol (solI g.xl g.nl) fx (Sol.putC c nm i) from by
       obtain ⟨j,hj,r,h1,h2⟩:=hok2 rfl;exact nosol_unmet HQ1.out hj h1 h2)
      clear hok1 hok2;obtain ⟨rb,ro,rcp,hrv,-,-,hr5⟩:=HA6.out.fix.cells HG.out HIL.out;have g0:=cell_ofA HA6.out.fix.obj (i:=0) (v:=g.rv) rfl;rw [hrv] at g0;rw [HNV.out] at hr5;have hndl:=HA6.out.fix.nds i HIL.out;rw [<- HNSE.out,HNV.out] at hndl;have HBK:=zh (back_any HG.out (.slice na kk nc) (ns.take kk) (HQ2.out.take kk) w6 HA6.out (hndl.take HNN.out HKK.out) (fun x=>by
       have h1:=HRM.out x;rw [List.length_take];omega))
      clear hrv hndl;go_wp2_with fail
      with_reducible refine HBK.out.mono ?_
      rintro e w8 ⟨rfl,hat8,hm8⟩;have HA8:=zh hat8;have HM8:=zh (HM6.out.thenSp hm8);have HRW8:=zh (HRW6.out.keepSp hm8 HA6.out.cbNot HA6.out.abNot (by decide));clear hat8 hm8 HBK g0 hr5;have o4:=cell_ofA HA8.out.fix.obj (i:=4) (v:=.map (some g.cb)) rfl;go_upto_region 24 with (refine wpList_ndrop rfl _ _ 282 3 rfl underlying282 rfl HA8.out.chosen nm (by have:=HNL.out;omega) (by show Value.string NM=_;rw [HNMB.out]) ?_;intro w9 hnp9 hmm9 hsz9)
      have HA9:=zh (HA8.out.rechoose HG.out (by rw [<- chV_del i HCN.out];exact hnp9) hmm9);have HM9:=zh (HM8.out.thenSp hmm9.cbSp);have HRW9:=zh (HRW8.out.keepSp hmm9.cbSp HA8.out.cbNot HA8.out.abNot (by decide));clear hnp9 hmm9 hsz9 o4 HA8 HM8 HRW8;go_upto_region 25 with fail
      obtain ⟨eb,heb⟩:∃ q,q=w9.heap.size:=⟨_,rfl⟩
      rw [<- heb];generalize hwX:World.alloc w9 _=wX;have hmX:Mod No w9 wX:=by rw [<- hwX];exact (Mod.refl No w9).alloc _
      have hxb:wX.heap[eb]? = some (.cells #[.pointer none] 331 (0,0)):=by rw [<- hwX,heb];exact heap_alloc_new w9 _
      have HERX:=zh (HER.out.keepSp HZ.out (HM9.out.thenSp (Mod.noSp hmX)));have HAS:=zh (as_confl q6 eb wX HERX.out hxb);unfold confV at HAS;have HAX:=zh (HA9.out.no HG.out hmX);have HEB:=zh heb;have HMX:=zh hmX;clear hwX hmX hxb heb;go_wp2_with fail
      with_reducible refine HAS.out.mono ?_
      rintro e wY ⟨rfl,hyb,hmY⟩;have hm9Y:Mod No w9 wY:=HMX.out.then hmY (fun x hx e=>by have e':x=eb:=e;have:=HEB.out;omega);have HAY:=zh (HA9.out.no HG.out hm9Y);have HMY:=zh (HM9.out.thenSp (Mod.noSp hm9Y));have HRWY:=zh (HRW9.out.kn hm9Y);have y0:=cell_ofA hyb (i:=0) (v:=.pointer (some ⟨q6,0,none⟩)) rfl;have HNSZ:=zh (HNSK.out HNQ.out);clear hm9Y hmY hyb HAS;go_wp2_with fail
      exact ⟨⟨k+1,q6,(by omega),rfl,rfl,HAY.out,HMY.out,HRWY.out,HNSZ.out⟩,by show M.length - ((k:Int)+1).toNat < M.length - (k:Int).toNat;omega⟩
     ·obtain ⟨hkf,hmet⟩:=hok1 rfl;have hkn:kk=nn:=by rw [HNN.out];exact hkf
      have htk:ns.take kk=ns:=List.take_of_length_le (by rw [hkf];exact Nat.le_refl _);have HTK:=zh htk;have hway:=way_put HW.out.way HW.out.ask HNE.out HCN.out HMEM.out HQ1.out hmet;have hask:=askOk_put (i:=i) HW.out.ask HCN.out HQ1.out;have HER6:=zh (HER.out.keepSp HZ.out HM6.out);have HREC:=zh (HIH.out (Sol.putC c nm i) (askA A (ns.take kk)) w6 HLT.out ⟨HA6.out,hway,by rw [htk];exact hask,fun x=>by
       have h1:=askA_len (A:=A) (l:=ns.take kk) x;rw [htk] at h1;rw [htk];have h2:=HW.out.room x;have h3:=HLT.out;have h4:=HQ2.out.few;omega⟩ HER6.out)
      clear hok1 hok2 hkf hmet hkn htk hway hask;go_wp2_with fail
      with_reducible refine HREC.out.mono ?_
      rintro e w7 ⟨hm7,⟨rfl,d,hat7,hsol,hcon⟩ | ⟨q7,rfl,hat7,hns7⟩⟩
      ·have HA7:=zh hat7;have HM7:=zh (HM6.out.thenSp hm7);have HE:=zh (And.intro hsol hcon);clear hat7 hm7 hsol hcon HREC HRW6;obtain ⟨rb,ro,rcp,hrv,-,-,hr5⟩:=HA7.out.fix.cells HG.out HIL.out;have g0:=cell_ofA HA7.out.fix.obj (i:=0) (v:=g.rv) rfl;rw [hrv] at g0;rw [HNV.out] at hr5;have hndl:=HA7.out.fix.nds i HIL.out;rw [<- HNSE.out,HNV.out] at hndl;have HBK:=zh (back_any HG.out (.slice na kk nc) (ns.take kk) (HQ2.out.take kk) w7 HA7.out (hndl.take HNN.out HKK.out) (fun x=>by
        have h1:=HRM.out x;rw [List.length_take];omega))
       clear hrv hndl;go_wp2_with fail
       with_reducible refine HBK.out.mono ?_
       rintro e w8 ⟨rfl,hat8,hm8⟩;have HA8:=zh hat8;have HM8:=zh (HM7.out.thenSp hm8);clear hat8 hm8 HBK g0 hr5;go_wp2_with fail
       exact fin hR ⟨HM8.out,.inl ⟨rfl,d,HA8.out,HE.out.1,HE.out.2⟩⟩
      ·have HRW7:=zh (HRW6.out.keepSp hm7 HA6.out.cbNot HA6.out.abNot (by decide));have HA7:=zh hat7;have HM7:=zh (HM6.out.thenSp hm7);have HNQ:=zh hns7;clear hat7 hm7 hns7 HREC HA6 HM6 HRW6;unfold confV;obtain ⟨rb,ro,rcp,hrv,-,-,hr5⟩:=HA7.out.fix.cells HG.out HIL.out;have g0:=cell_ofA HA7.out.fix.obj (i:=0) (v:=g.rv) rfl;rw [hrv] at g0;rw [HNV.out] at hr5;have hndl:=HA7.out.fix.nds i HIL.out;rw [<- HNSE.out,HNV.out] at hndl;have HBK:=zh (back_any HG.out (.slice na kk nc) (ns.take kk) (HQ2.out.take kk) w7 HA7.out (hndl.take HNN.out HKK.out) (fun x=>by
        have h1:=HRM.out x;rw [List.length_take];omega))
       clear hrv hndl;go_wp2_with fail
       with_reducible refine HBK.out.mono ?_
       rintro e w8 ⟨rfl,hat8,hm8⟩;have HA8:=zh hat8;have HM8:=zh (HM7.out.thenSp hm8);have HRW8:=zh (HRW7.out.keepSp hm8 HA7.out.cbNot HA7.out.abNot (by decide));clear hat8 hm8 HBK g0 hr5;have o4:=cell_ofA HA8.out.fix.obj (i:=4) (v:=.map (some g.cb)) rfl;go_upto_region 24 with (refine wpList_ndrop rfl _ _ 282 3 rfl underlying282 rfl HA8.out.chosen nm (by have:=HNL.out;omega) (by show Value.string NM=_;rw [HNMB.out]) ?_;intro w9 hnp9 hmm9 hsz9)
       have HA9:=zh (HA8.out.rechoose HG.out (by rw [<- chV_del i HCN.out];exact hnp9) hmm9);have HM9:=zh (HM8.out.thenSp hmm9.cbSp);have HRW9:=zh (HRW8.out.keepSp hmm9.cbSp HA8.out.cbNot HA8.out.abNot (by decide));clear hnp9 hmm9 hsz9 o4 HA8 HM8 HRW8;go_upto_region 25 with fail
       obtain ⟨eb,heb⟩:∃ q,q=w9.heap.size:=⟨_,rfl⟩
       rw [<- heb];generalize hwX:World.alloc w9 _=wX;have hmX:Mod No w9 wX:=by rw [<- hwX];exact (Mod.refl No w9).alloc _
       have hxb:wX.heap[eb]? = some (.cells #[.pointer none] 331 (0,0)):=by rw [<- hwX,heb];exact heap_alloc_new w9 _
       have HERX:=zh (HER.out.keepSp HZ.out (HM9.out.thenSp (Mod.noSp hmX)));have HAS:=zh (as_confl q7 eb wX HERX.out hxb);unfold confV at HAS;have HAX:=zh (HA9.out.no HG.out hmX);have HEB:=zh heb;have HMX:=zh hmX;clear hwX hmX hxb heb;go_wp2_with fail
       with_reducible refine HAS.out.mono ?_
       rintro e wY ⟨rfl,hyb,hmY⟩;have hm9Y:Mod No w9 wY:=HMX.out.then hmY (fun x hx e=>by have e':x=eb:=e;have:=HEB.out;omega);have HAY:=zh (HA9.out.no HG.out hm9Y);have HMY:=zh (HM9.out.thenSp (Mod.noSp hm9Y));have HRWY:=zh (HRW9.out.kn hm9Y);have y0:=cell_ofA hyb (i:=0) (v:=.pointer (some ⟨q7,0,none⟩)) rfl;have HNSZ:=zh (HNSK.out HNQ.out);clear hm9Y hmY hyb HAS;go_wp2_with fail
       exact ⟨⟨k+1,q7,(by omega),rfl,rfl,HAY.out,HMY.out,HRWY.out,HNSZ.out⟩,by show M.length - ((k:Int)+1).toNat < M.length - (k:Int).toNat;omega⟩
    ·have hke:k=M.length:=by omega
     have hk1:¬ ((k:Int) < (M.length:Int)):=by omega
     have HE:=zh (show Sol.NoSol (solI g.xl g.nl) fx c from nosol_all HW.out.ask HNE.out fun i hi=>by
      rw [<- HMM.out] at hi;obtain ⟨j,hj,rfl⟩:=List.getElem_of_mem hi;exact HNS.out j hj (by omega))
     unfold confV;go_wp2_with fail
     exact fin hR ⟨HMR.out,.inr ⟨q,rfl,HAT.out,HE.out⟩⟩
 ·obtain ⟨a,r,ha,hf⟩:=hb1 rfl;have HE:=zh (show Sol.NoSol (solI g.xl g.nl) fx c from Sol.no_far ha hf);clear hb1 hb2 hm1 ha hf HFA o7 HNX;go_wp2_with fail
  exact fin hR ⟨Mod.noSp (HM1.out.alloc _),.inr ⟨_,rfl,HW.out.at_.no HG.out (HM1.out.alloc _),HE.out⟩⟩
theorem go1_any {g:Sg} (hg:g.Ok) (hz:g.Far0) {fx:Fix} (hfl:∀ a,fx a ≠ none->a.length<=1000000):∀ (n:Nat) (c:Chs) (A:List UInt8->List SnX) (w:World),leftN g.xl c<=n->WayAt w g fx c A->ErrTy w →
  Calls prog 233 #[.pointer (some ⟨g.sb,0,none⟩)] w (GoPost w g fx c A):=by
 intro n;induction n with
 | zero =>
  intro c A w hn hw herr;exact go1_step hg hz hfl c A w hw herr (fun c' A' w' hlt=>absurd hlt (by omega))
 | succ n ih =>
  intro c A w hn hw herr;exact go1_step hg hz hfl c A w hw herr (fun c' A' w' hlt=>ih c' A' w' (by omega))
theorem SrAt.reask {w w':World} {g:Sg} (hg:g.Ok) {fx:Fix} {c:Chs} {A:List UInt8->List SnX} (h:SrAt w g fx c A) (hm:NMp w' g.ab (fun _=>none)) (hmod:Mod (· = g.ab) w w'):SrAt w' g fx c (fun _=>[]):=by
 have hne:=hg.ne;refine ⟨h.fix.keep hg hmod (fun q e=>.inr (.inr (.inl e))),h.fixed.keep hmod (fun e=>hne.2.2.2.2.2.2.2.1 e),h.chosen.keep hmod (fun e=>hne.2.2.2.2.2.2.2.2 e),⟨fun _=>none,⟨hm,(fun _ _ h=>by cases h),(fun _ _=>rfl),(fun _ _ _ _ _ h=>by cases h)⟩,fun _ h=>absurd rfl h⟩,
  (fun _ _ h=>by cases h),(fun _ _ h=>by cases h)⟩
theorem chV_none:chV (fun _=>none)=fun _=>none:=rfl
theorem Mod.abSp {g:Sg} {a b:World} (h:Mod (· = g.ab) a b):Mod (askB g a) a b:=h.weaken fun _ _ e=>.inr (.inl e)
def FindPost (w:World) (g:Sg) (fx:Fix) (e:Ending) (w':World):Prop :=
 Mod (askB g w) w w'/\((∃ mb d A,e=.returned (.tuple #[.map (some mb),.nilIface])/\w.heap.size<=mb/\NMp w' mb (chV d)/\SrAt w' g fx d A/\Sol.Sol (solI g.xl g.nl) d/\Sol.Con fx d) ∨
  ∃ fb s1 s2 q c A,e=.returned (.tuple #[.map none,faultV fb])/\w.heap.size<=fb/\w'.heap[fb]? = some (.cells #[.string s1,.string s2,confV q] 165 (0,0))/\SrAt w' g fx c A/\Sol.NoSol (solI g.xl g.nl) fx (fun _=>none))
theorem find_any' {g:Sg} (hg:g.Ok) (hz:g.Far0) {fx:Fix} (hfl:∀ a,fx a ≠ none->a.length<=1000000) (c:Chs) (A:List UInt8->List SnX) (w:World) (hw:SrAt w g fx c A) (herr:ErrTy w) :
  Calls prog 178 #[.pointer (some ⟨g.sb,0,none⟩)] w (FindPost w g fx):=by
 refine calls_hide fun R hR=>?_
 obtain ⟨w1,hc1,hn1,hm1,-⟩:=hw.chosen.clear (t:=282) underlying282;have h1:=hw.rechoose hg (c':=fun _=>none) (by rw [chV_none];exact hn1) hm1;obtain ⟨F1,a1,-⟩:=h1.asked;obtain ⟨w2,hc2,hn2,hm2,-⟩:=a1.map.clear (t:=324) underlying324;have h2:=h1.reask hg hn2 hm2;have o4:=cell_ofA hw.fix.obj (i:=4) (v:=.map (some g.cb)) rfl;have o5:=cell_ofA h1.fix.obj (i:=5) (v:=.map (some g.ab)) rfl;have o1:=cell_ofA h2.fix.obj (i:=1) (v:=g.nv) rfl;have hM2:Mod (askB g w) w w2:=hm1.cbSp.thenSp hm2.abSp;have HASK:=zh (ask_any hg g.nv g.nn hg.need.1 hg.need.2 w2 h2 h2.fix.need (fun k=>by have:=hg.need.1.few;simp;omega) (fun a r h=>by cases h));have HG:=zh hg;have HZ:=zh hz;have HFL:=zh hfl;have HE2:=zh (herr.keepSp hz hM2);have HM2:=zh hM2;have H2:=zh h2;obtain ⟨na,nc,hnv⟩:=h2.fix.need.sl.len;rw [hnv] at o1 HASK;clear hw h1 h2 a1 hn1 hn2 hm1 hm2 hM2 hg hz hfl herr hnv;go_enter func178,ntmps178
 go_wp2_with fail
 with_reducible refine HASK.out.mono ?_
 rintro e w3 ⟨kk,ok,rfl,hkk,hat3,hm3,hok1,hok2⟩;rcases ok with _ | _
 ·obtain ⟨j,hj,r,h,-⟩:=hok2 rfl;cases h
 ·obtain ⟨hkn,-⟩:=hok1 rfl;have htk:g.nn.take kk=g.nn:=List.take_of_length_le (by rw [hkn];exact Nat.le_refl _);rw [htk] at hat3;have HM3:=zh (HM2.out.thenSp hm3);have HAT3:=zh hat3;have HE3:=zh (HE2.out.keepSp HZ.out hm3);have HGO:=zh (go1_any HG.out HZ.out HFL.out _ (fun _=>none) (askA (fun _=>[]) g.nn) w3 (Nat.le_refl _) ⟨hat3,Sol.Way.start,askOk_start rfl,fun k=>by
   have h1:=askA_len (A:=fun _=>[]) (l:=g.nn) k;have h2:=HG.out.need.1.few;have h3:=leftN_le g.xl (fun _=>none);rw [List.length_map] at h3;have h4:=HG.out.few;simp only [List.length_nil] at h1;omega⟩ HE3.out)
  clear hkk hat3 hm3 hok1 hok2 hkn htk HASK o1 o4 o5 hc1 hc2;go_wp2_with fail
  with_reducible refine HGO.out.mono ?_
  rintro e w4 ⟨hm4,⟨rfl,d,hat4,hsol,hcon⟩ | ⟨q,rfl,hat4,hns⟩⟩
  ·have HM4:=zh (HM3.out.thenSp hm4);have o4:=cell_ofA hat4.fix.obj (i:=4) (v:=.map (some g.cb)) rfl;have HCL:=zh (clone_nmp hat4.chosen);have HAT4:=zh hat4;have HE:=zh (And.intro hsol hcon);clear hm4 hat4 hsol hcon HGO;go_wp2_with fail
   with_reducible refine HCL.out.mono ?_
   rintro e w5 ⟨rfl,hnm,hm5⟩;have HM5:=zh (HM4.out.thenSp (Mod.noSp hm5));have HNM:=zh hnm;have HAT5:=zh (HAT4.out.no HG.out hm5);have HSZ:=zh (show w.heap.size<=w4.heap.size from HM4.out.size);clear hnm hm5 HCL;go_wp2_with fail
   exact fin hR ⟨HM5.out,.inl ⟨_,d,_,rfl,HSZ.out,HNM.out,HAT5.out,HE.out.1,HE.out.2⟩⟩
  ·have HM4:=zh (HM3.out.thenSp hm4);have HAT4:=zh hat4;have HE:=zh hns;have HWR:=zh (wrap_conf ⟨#[115,111,108,118,101]⟩ ⟨#[]⟩ q w4);clear hm4 hat4 hns HGO;unfold confV at HWR;unfold confV;go_wp2_with fail
   with_reducible refine HWR.out.mono ?_
   rintro e w5 ⟨rfl,hw5⟩;have hm5:Mod No w4 w5:=by rw [hw5];exact (Mod.refl No w4).alloc _
   have HB:=zh (show w5.heap[w4.heap.size]? = some (.cells #[.string ⟨#[115,111,108,118,101]⟩,.string ⟨#[]⟩,confV q] 165 (0,0)) by rw [hw5];exact heap_alloc_new w4 _);have HM5:=zh (HM4.out.thenSp (Mod.noSp hm5));have HAT5:=zh (HAT4.out.no HG.out hm5);have HSZ:=zh (show w.heap.size<=w4.heap.size from HM4.out.size);clear hw5 hm5 HWR;unfold faultV;go_wp2_with fail
   exact fin hR ⟨HM5.out,.inr ⟨_,_,_,q,_,_,rfl,HSZ.out,HB.out,HAT5.out,HE.out⟩⟩
end Go.Proofs.YticfcmdjplmaeaaGreatDoor
