/-
  Layers 0 to 14: helps of the laws of indexes. No statement is proved here; no condition.
-/
import Derived.Test.YticfcmdjplmaeaaGreatDoorX29
import Derived.Test.YticfcmdjplmaeaaGreatDoorX18
set_option maxRecDepth 100000
set_option maxHeartbeats 64000000
namespace Go.Proofs.YticfcmdjplmaeaaGreatDoor
open _root_.Go.Proofs.Tryz
open Go.RowKit Go.Maps
def encO:Option Nat->Value
 | some i=>.int .i64 (i:Int)
 | none=>.int .i64 (-1)
theorem fixV_enc (fx:Fix) (n:List UInt8):fixV fx n=(fx n).map encO:=by
 unfold fixV;cases fx n with
 | none=>rfl
 | some o=>cases o <;> rfl
theorem fix_put {fx:Fix} {acc:Pick} {n:List UInt8} (o:Option Nat) (hn:n ∉ acc.map Prod.fst) (h:∀ a,a ≠ n->fx a=Sol.fixL acc a):vPut (fixV fx) n (encO o)=fixV (Sol.fixL (acc++[(n,o)])):=by
 funext x;rw [fixV_enc,fixL_snoc hn x];unfold vPut;by_cases e:x=n
 ·rw [if_pos e,if_pos e];rfl
 ·rw [if_neg e,if_neg e,fixV_enc,h x e]
def spF (g:Sg) (w:World):Nat->Prop:=fun q=>q=g.fb\/askB g w q
theorem spF_out {g:Sg} {w:World} {q:Nat} (h:spF g w q):g.out q:=by
 rcases h with h | h
 ·exact .inl h
 ·exact askB_out h
theorem Mod.spF {g:Sg} {a b:World} (h:Mod (askB g a) a b):Mod (spF g a) a b:=h.weaken fun _ _ e=>.inr e
theorem Mod.thenF {g:Sg} {a b c:World} (h:Mod (Proofs.YticfcmdjplmaeaaGreatDoor.spF g a) a b) (k:Mod (Proofs.YticfcmdjplmaeaaGreatDoor.spF g b) b c):Mod (Proofs.YticfcmdjplmaeaaGreatDoor.spF g a) a c :=
 h.then k fun i _ ht=>by
  rcases ht with ht | ht | ht | ⟨ht,cur,fz,hb⟩
  ·exact .inl ht
  ·exact .inr (.inl ht)
  ·exact .inr (.inr (.inl ht))
  ·by_cases hs:Proofs.YticfcmdjplmaeaaGreatDoor.spF g a i
   ·exact hs
   ·rw [h.block i (by assumption) hs] at hb;exact .inr (.inr (.inr ⟨ht,cur,fz,hb⟩))
theorem SrAt.refix {w w':World} {g:Sg} (hg:g.Ok) {fx fx':Fix} {c:Chs} {A:List UInt8->List SnX} (h:SrAt w g fx c A) (hm:NMp w' g.fb (fixV fx')) (hmod:Mod (· = g.fb) w w'):SrAt w' g fx' c A:=by
 have hne:=hg.ne;have hmo:∀ q,q=g.fb->g.out q:=fun q e=>.inl e
 obtain ⟨F,a1,a2⟩:=h.asked;refine ⟨h.fix.keep hg hmod hmo,hm,h.chosen.keep hmod (fun e=>hne.2.2.2.2.2.2.1 e.symm),⟨F,a1.keep hmod (fun e=>hne.2.2.2.2.2.2.2.1 e.symm) (fun k v q hv hq e=>?_),a2⟩,fun k s hs=>(h.ors k s hs).keep hmod hmo,h.good⟩
 subst e;obtain ⟨cur,hh⟩:=own_heapM (a1.row k v hv) hq;exact h.fixed.not_cells _ _ _ hh
theorem ErrTy.keepF {g:Sg} {w w':World} (h:ErrTy w) (hz:g.Far0) (hm:Mod (spF g w) w w'):ErrTy w':=h.keep hm fun hs=>by
 rcases hs with e | e | e | ⟨e,-⟩
 ·exact hz.fb e.symm
 ·exact hz.cb e.symm
 ·exact hz.ab e.symm
 ·have:=hz.B;omega
theorem Sl.keepF {g:Sg} {w w':World} {e:TypeId} {v:Value} {n:Nat} {xs:List Value} {fx:Fix} {c:Chs} {A:List UInt8->List SnX} (h:Sl w No e v n xs) (hm:Mod (spF g w) w w') (ha:SrAt w g fx c A) (he:e ≠ 96):Sl w' No e v n xs:=h.keep hm fun k cur fz hk _ hb=>by
 rcases hk with rfl | rfl | rfl | ⟨_,cur2,fz2,hb2⟩
 ·exact ha.fixed.not_cells _ _ _ hb
 ·exact ha.chosen.not_cells _ _ _ hb
 ·exact ha.abNot _ _ _ hb
 ·rw [hb] at hb2;cases hb2;exact he rfl
theorem NMp.keepF {g:Sg} {w w':World} {b:Nat} {F:Vt} (hg:g.Ok) (h:NMp w b F) (hm:Mod (spF g w) w w') (hb:g.B<=b):NMp w' b F:=h.keep hm fun hs=>by
 have h1:=hg.lt;rcases hs with e | e | e | ⟨_,cur,fz,e⟩
 ·omega
 ·omega
 ·omega
 ·exact h.not_cells _ _ _ e
theorem as_faultl (q fb eb:Nat) (s1 s2:ByteArray) (w:World) (hg:ErrTy w) (he:w.heap[eb]? = some (.cells #[.pointer none] 331 (0,0))) (hfb:w.heap[fb]? = some (.cells #[.string s1,.string s2,confV q] 165 (0,0))) :
  Calls prog 31 #[faultV fb,.iface 332 (.pointer (some ⟨eb,0,none⟩))] w fun e w'=>e=.returned (.bool true)/\w'.heap[eb]? = some (.cells #[.pointer (some ⟨q,0,none⟩)] 331 (0,0))/\Mod (· = eb) w w':=by
 refine (as_faultC ⟨q,0,none⟩ fb s1 s2 ⟨eb,0,none⟩ (.pointer none) w hg (cell_ofA he rfl) (frozen_of 0 he) hfb).mono ?_;rintro e w' ⟨rfl,rfl⟩;refine ⟨rfl,?_,((((((Mod.refl (fun x=>x=eb) w).alloc _).alloc _).alloc _).alloc _).setCell (fun _=>rfl) _)⟩
 rw [heap_setCell (heap_alloc_old _ (heap_alloc_old _ (heap_alloc_old _ (heap_alloc_old _ he))))];rfl
theorem cloneint (v:Value) (L:List Nat) (hl:L.length<=1000) (w:World) (hv:Sl w No 3 v L.length (L.map intV)) :
  Calls prog 236 #[v] w fun e w'=>∃ v',e=.returned v'/\w'.ownsRow w.heap.size 3 1 v' L.length (L.map intV)/\Mod No w w':=by
 rcases hv with ⟨rfl,h0,-⟩ | ⟨blk,o,c,cur,fz,rfl,hn,hc,hX,hh,hle,hr⟩
 ·have hL:L=[]:=List.length_eq_zero_iff.1 h0;subst hL;refine (Tryz.slices_Clone_int_nil 0 0 w).mono ?_;rintro e w' ⟨rfl,rfl⟩;exact ⟨_,rfl,⟨rfl,.inl ⟨rfl,rfl⟩⟩,Mod.refl _ _⟩
 ·refine (Tryz.slices_Clone_int blk o L.length c (L.map fun i:Nat=>(i:Int)) w (by simp) (by omega) (fun j hj=>?_)).mono ?_
  ·rw [List.length_map] at hj;refine cell_ofA hh ?_;rw [hr j (by rw [List.length_map];exact hj)];simp [intV,hj]
  ·rintro e w' ⟨v',rfl,hown,-,hb⟩;refine ⟨v',rfl,?_,Mod.of_below hb⟩
   rw [List.take_of_length_le (by simp),List.map_map] at hown;exact hown
def BestPost (w:World) (g:Sg) (e:Ending) (w':World):Prop:=∃ (ib:Nat) (names:List (List UInt8)) (acc:Pick),e=.returned (.tuple #[.map (some ib),.nilIface])/\NMp w' ib (chV (Sol.pickL acc)) ∧
 Asc names/\(∀ y,y ∈ names ↔ y ∈ g.xl.map (·.name))/\solveL g.xl g.nl names=some acc/\SrFix w' g/\Mod (spF g w) w w'
theorem SrFix.rowsAt {w:World} {g:Sg} (h:SrFix w g) (hg:g.Ok):∀ x ∈ g.xs,RwAt w x:=fun x hx=>by
 obtain ⟨i,hi,rfl⟩:=List.getElem_of_mem hx;have e:rxAt g.xs i=g.xs[i]:=by unfold rxAt;simp [hi]
 have h1:=h.pre i hi;have h2:=h.nds i hi;obtain ⟨q1,q2,-⟩:=hg.nds i hi;rw [e] at h1 h2 q1;refine ⟨⟨hg.sum _ hx,hg.small _ hx,h1.shrink (fun _ _ f=>f.elim),?_⟩,⟨g.nx i,q1,fun y hy=>(h2.each y hy).no,?_⟩,?_⟩
 ·obtain ⟨a,c,e2⟩:=h2.sl.len;exact ⟨a,_,c,e2⟩
 ·have:=h2.sl.shrink (Y:=No) (fun _ _ f=>f.elim);rw [<- q1,List.length_map];exact this
 ·rw [<- q1,List.length_map];have:=q2.few;omega
theorem best_any {g:Sg} (hg:g.Ok) (hz:g.Far0) (c:Chs) (A:List UInt8->List SnX) (d:Chs) (ib:Nat) (w:World) (hw:SrAt w g (fun _=>none) c A) (herr:ErrTy w) (hib:NMp w ib (chV d)) (hbi:g.B<=ib) (hd:Sol.Sol (solI g.xl g.nl) d) :
  Calls prog 179 #[.pointer (some ⟨g.sb,0,none⟩),.map (some ib)] w (BestPost w g):=by
 refine calls_hide fun R hR=>?_
 have HNM:=zh (names_any g.xs (by have:=hg.few;omega) g.rv w (hw.fix.rowsAt hg) (hw.fix.rows.shrink (fun _ _ f=>f.elim)));have o0:=cell_ofA hw.fix.obj (i:=0) (v:=g.rv) rfl;have HG:=zh hg;have HZ:=zh hz;have HER:=zh herr;have HW:=zh hw;have HIB:=zh hib;have HSO:=zh hd;obtain ⟨i0,hi0,hz0,hz1,hz2⟩:=info_parts info_intS;have HI:=zh (And.intro hi0 (And.intro hz0 (And.intro hz1 hz2)));clear hg hz herr hw hib hd hi0 hz0 hz1 hz2;go_enter func179,ntmps179
 go_wp2_with fail
 with_reducible refine HNM.out.mono ?_
 rintro e w1 ⟨nv,names,rfl,hsl,hasc,hmem,hm1⟩;have hmem:∀ y,y ∈ names ↔ y ∈ g.xl.map (·.name):=fun y=>by rw [hmem y,List.map_map];rfl
 have HN:=zh (sol_names (needs:=g.nl) hasc hmem);have HASC:=zh hasc;have HMEM:=zh hmem;have HSL:=zh hsl;obtain ⟨na,nc,hnv⟩:=hsl.len;subst hnv;have HM1:=zh (Mod.spF (g:=g) (Mod.noSp hm1));have HW1:=zh (HW.out.no HG.out hm1);have HIB1:=zh (HIB.out.keep hm1 (fun f=>f));have hnl:names.length<=20:=by
  have h1:=nodup_le (asc_nodup hasc) (fun y hy=>(hmem y).1 hy);rw [List.length_map,List.length_map] at h1;have:=HG.out.few;omega
 have HDN:=zh (show names.drop 0=names from List.drop_zero);clear hsl hasc hmem hm1 HNM o0;go_wp2_with fail
 go_loopw [1,21] (fun q1 q21 wr=>∃ (k ib:Nat) (acc:Pick) (d c:Chs) (A:List UInt8->List SnX),k<=names.length/\q21=.int .i64 (k:Int)/\q1=.map (some ib)/\NMp wr ib (chV d)/\g.B<=ib/\Best g.xl g.nl names (names.drop k) acc d/\SrAt wr g (Sol.fixL acc) c A/\Sl wr No 9 (.slice na names.length nc) names.length (strs names)/\Mod (spF g w) w wr) (fun _ q _=>names.length - (intOf q).toNat)
 case atStart=>exact ⟨0,ib,[],d,c,A,by omega,rfl,rfl,HIB1.out,hbi,(by rw [HDN.out];exact Best.start HSO.out),HW1.out,HSL.out,HM1.out⟩
 case round =>
  clear HIB1 HW1 HSL HM1 HDN hbi HSO HIB;obtain ⟨k,ib,acc,d,c,A,hk,rfl,rfl,hib,hbi,hbest,hat,hsl,hmod⟩:=hrel;have HIB:=zh hib;have HBE:=zh hbest;have HAT:=zh hat;have HSL:=zh hsl;have HM:=zh hmod;have hk0:(0:Int)<=(k:Int):=Int.natCast_nonneg _;clear hib hbest hat hsl hmod;by_cases hlt:k < names.length
  ·have hk1:(k:Int) < (names.length:Int):=by omega
   obtain ⟨b,o,c2,hvs,_⟩:=HSL.out.shape (by omega);have hna:na=some ⟨b,o,none⟩:=by cases hvs;rfl
   subst hna;have hcell:=HSL.out.cellN (i:=k) (by unfold strs;rw [List.length_map];exact hlt);rw [show (strs names)[k]'(by unfold strs;rw [List.length_map];exact hlt)=strV names[k] from by unfold strs;simp] at hcell;have hdrop:names.drop k=names[k] :: names.drop (k+1):=List.drop_eq_getElem_cons hlt;have hbe:=HBE.out;rw [hdrop] at hbe;have HBE2:=zh hbe;have hxn:=(HMEM.out _).1 (List.getElem_mem hlt);have hnmlen:names[k].length<=1000000:=by
    obtain ⟨x,hx,e⟩:=List.mem_map.1 hxn;obtain ⟨y,hy,rfl⟩:=List.mem_map.1 hx;rw [<- e];exact HG.out.name y hy
   have hnacc:names[k] ∉ acc.map Prod.fst:=fun h=>by
    have h1:=HN.out.nodup;rw [<- hbe.cover] at h1;exact (List.nodup_append.1 h1).2.2 _ h _ (List.mem_cons_self ..) rfl
   have HKY:=zh (show ∀ a,Sol.fixL acc a ≠ none->a ∈ g.xl.map (·.name) from fun a ha=>by
    cases hf:Sol.fixL acc a with
    | none=>exact absurd hf ha
    | some o =>
     have h1:=Sol.fixL_mem hf;refine (HMEM.out a).1 ?_;rw [<- hbe.cover];exact List.mem_append_left _ (List.mem_map.2 ⟨_,h1,rfl⟩))
   have HXN:=zh hxn;have HNACC:=zh hnacc;have HNL:=zh hnmlen;have HRL:=zh (show ∀ (ib':Nat) (op:Option Nat) (d' c':Chs) (A':List UInt8->List SnX) (W:World),NMp W ib' (chV d')->g.B<=ib'->Best g.xl g.nl names (names.drop (k+1)) (acc++[(names[k],op)]) d'->SrAt W g (Sol.fixL (acc++[(names[k],op)])) c' A'->Sl W No 9 (.slice (some ⟨b,o,none⟩) names.length nc) names.length (strs names)->Mod (spF g w) w W →
    ∃ (k' ib:Nat) (acc:Pick) (d c:Chs) (A:List UInt8->List SnX),k'<=names.length/\(Value.int .i64 ((k:Int)+1))=.int .i64 (k':Int)/\(Value.map (some ib'))=.map (some ib)/\NMp W ib (chV d)/\g.B<=ib/\Best g.xl g.nl names (names.drop k') acc d/\SrAt W g (Sol.fixL acc) c A/\Sl W No 9 (.slice (some ⟨b,o,none⟩) names.length nc) names.length (strs names)/\Mod (spF g w) w W from
    fun _ _ _ _ _ _ h1 h2 h3 h4 h5 h6=>⟨k+1,_,_,_,_,_,by omega,rfl,rfl,h1,h2,h3,h4,h5,h6⟩)
   generalize hnm:names[k]=nm at *;have HSET:=zh (show ∀ (pre post:List (Option Nat)) (o:Option Nat) (d':Chs),(rowsN g.xl nm).map some++[none]=pre++o :: post->(∀ x ∈ pre,Sol.NoSol (solI g.xl g.nl) (Sol.fixL (acc++[(nm,x)])) (fun _=>none))->Sol.Sol (solI g.xl g.nl) d'->Sol.Con (Sol.fixL (acc++[(nm,o)])) d'->Best g.xl g.nl names (names.drop (k+1)) (acc++[(nm,o)]) d' from
    fun _ _ _ _ h1 h2 h3 h4=>HBE2.out.settle HN.out h1 h2 h3 h4)
   obtain ⟨bv,hby,hbs2⟩:=HAT.out.fix.byAt nm HNL.out;have hrle:=rowsN_le g.xl nm;rw [List.length_map] at hrle;have hfew:=HG.out.few;obtain ⟨L,hL⟩:∃ L,L=rowsN g.xl nm:=⟨_,rfl⟩
   rw [<- hL] at hbs2 hrle HSET;have HLE:=zh hL;obtain ⟨ba,bc,hbv⟩:=hbs2.len;have hlb:=hby wr (Mod.refl _ _);obtain ⟨NM,hNM⟩:∃ b:ByteArray,b=⟨nm.toArray⟩:=⟨_,rfl⟩
   unfold strV at hcell;rw [<- hNM] at hcell hlb;rw [hbv] at hlb;have HNMB:=zh hNM;have HCLN:=zh (cloneint (.slice ba L.length bc) L (by omega) wr (by rw [<- hbv];exact hbs2.shrink (fun _ _ f=>f.elim)));have o2:=cell_ofA HAT.out.fix.obj (i:=2) (v:=.map (some g.bb)) rfl;have HDO:=zh (show d nm=none\/∃ r,d nm=some r/\r ∈ L from by
    cases hdn:d nm with
    | none=>exact .inl rfl
    | some r=>exact .inr ⟨r,rfl,by rw [hL];exact HBE2.out.sol.mem nm r hdn⟩)
   have HLT:=zh (show ∀ r ∈ L,r < g.xs.length from fun r hr=>by rw [hL] at hr;have h:=(rowsN_mem.1 hr).1;rw [List.length_map] at h;exact h);clear hby hbs2 hbv hL hNM hnm hbe hdrop hxn hnmlen hnacc hvs HBE;go_wp2_with fail
   with_reducible refine HCLN.out.mono ?_
   rintro e w2 ⟨v2,rfl,hown2,hm2⟩;obtain ⟨va,vc,hv2⟩:=own_len hown2;subst hv2;have HO2:=zh hown2;have HM2:=zh hm2;clear hown2 hm2 HCLN hlb hcell o2;obtain ⟨hi0,hz0,hz1,hz2⟩:=HI.out;go_wp2_with (at_builtin;refine app_sl _ rfl _ _ 60 rfl wr.heap.size 3 i0 (.int .i64 0) 1 8 underlying60 hi0 hz0 hz1 hz2 rfl (by decide) _ L.length _ rfl (own_keepM HO2.out ((Mod.refl No w2).alloc _) (fun _ _ f=>f)) No 3 (.slice (some ⟨w2.heap.size,0,none⟩) 1 1) 1 [.int .i64 (-1)] rfl (.inr ⟨w2.heap.size,0,1,_,_,rfl,Nat.le_refl _,by unfold maxLen;omega,fun f=>f,heap_alloc_new w2 _,by simp,fun i hi=>by simp⟩) rfl (fun u hu=>by rw [List.mem_singleton.1 hu];rfl) (by unfold maxLen;omega) (by omega) (Nat.le_trans HM2.out.size ((Mod.refl No w2).alloc _).size) ?_;intro v3 w3 hown3 hg3 _;obtain ⟨oa,oc,hv3⟩:=own_len hown3;subst hv3;have HO3:=zh hown3;have HG3:=zh hg3;clear hown3 hg3)
   have hm3:Mod No wr w3:=(HM2.out.trans ((Mod.refl No w2).alloc (.cells #[.int .i64 (-1)] 3))).then (Mod.of_grown (S:=fun q=>wr.heap.size<=q) HG3.out (fun q e _=>own_baseS HO2.out e)) (fun q hq e=>Nat.lt_irrefl _ (Nat.lt_of_lt_of_le hq e));obtain ⟨ops,hops⟩:∃ ops:List (Option Nat),ops=L.map some++[none]:=⟨_,rfl⟩
   have hol:ops.length=L.length+1:=by rw [hops];simp
   have HOP:=zh (show Sl w3 No 3 (.slice oa (L.length+1) oc) (L.length+1) (ops.map encO) by
    have h:=Sl.of_own (X:=No) HO3.out (fun _ _ f=>f);rw [hops,List.map_append,List.map_map];exact h)
   have HAT3:=zh (HAT.out.no HG.out hm3);have HIB3:=zh (HIB.out.keep hm3 (fun f=>f));have HSL3:=zh (HSL.out.kn hm3);have HM3:=zh (HM.out.thenF (Mod.spF (Mod.noSp hm3)));have HOPS:=zh hops;have HOL:=zh hol;obtain ⟨on,hon⟩:∃ n,n=L.length+1:=⟨_,rfl⟩
   rw [<- hon] at HOP HOL ⊢;have hon20:on<=21:=by omega
   have HON:=zh hon;clear hm3 hops hol HO2 HM2 HO3 HG3 HAT HIB HSL HM hon;go_loopw [1,35] (fun q1 q35 wr=>∃ (j:Nat) (fx:Fix) (c:Chs) (A:List UInt8->List SnX),j<=on/\q35=.int .i64 (j:Int)/\q1=.map (some ib)/\NMp wr ib (chV d)/\(∀ a,a ≠ nm->fx a=Sol.fixL acc a)/\SrAt wr g fx c A/\(∀ i (hi:i < ops.length),i < j->Sol.NoSol (solI g.xl g.nl) (Sol.fixL (acc++[(nm,ops[i])])) (fun _=>none))/\Sl wr No 9 (.slice (some ⟨b,o,none⟩) names.length nc) names.length (strs names)/\Sl wr No 3 (.slice oa on oc) on (ops.map encO)/\Mod (spF g w) w wr) (fun _ q _=>on - (intOf q).toNat)
   case atStart=>exact ⟨0,Sol.fixL acc,c,A,by omega,rfl,rfl,HIB3.out,(fun _ _=>rfl),HAT3.out,(fun i _ h=>absurd h (by omega)),HSL3.out,HOP.out,HM3.out⟩
   case round =>
    clear HIB3 HAT3 HSL3 HOP HM3;obtain ⟨j,fx,c,A,hj,rfl,rfl,hib,hfx,hat,hno,hsl,hop,hmod⟩:=hrel;have HIB:=zh hib;have HFX:=zh hfx;have HAT:=zh hat;have HNO:=zh hno;have HSL:=zh hsl;have HOP:=zh hop;have HM:=zh hmod;have hj0:(0:Int)<=(j:Int):=Int.natCast_nonneg _;clear hib hfx hat hno hsl hop hmod;by_cases hltj:j < on
    ·have hj1:(j:Int) < (L.length:Int)+1:=by have:=HON.out;omega
     have hjl:j < ops.length:=by rw [HOL.out];exact hltj
     obtain ⟨b2,o2,c3,hvs,_⟩:=HOP.out.shape (by omega);have hoa:oa=some ⟨b2,o2,none⟩:=by cases hvs;rfl
     subst hoa;have hcell:=HOP.out.cellN (i:=j) (by rw [List.length_map];exact hjl);rw [List.getElem_map] at hcell;have HSP:=zh (show L.map some++[none]=ops.take j++ops[j] :: ops.drop (j+1) by rw [<- HOPS.out,<- List.drop_eq_getElem_cons hjl,List.take_append_drop]);have HPRE:=zh (show ∀ x ∈ ops.take j,Sol.NoSol (solI g.xl g.nl) (Sol.fixL (acc++[(nm,x)])) (fun _=>none) from fun x hx=>by
      obtain ⟨i,hi,rfl⟩:=List.getElem_of_mem hx;rw [List.length_take] at hi;rw [List.getElem_take];exact HNO.out i (by omega) (by omega))
     have HNO2:=zh (show Sol.NoSol (solI g.xl g.nl) (Sol.fixL (acc++[(nm,ops[j])])) (fun _=>none)->∀ i (hi:i < ops.length),i < j+1->Sol.NoSol (solI g.xl g.nl) (Sol.fixL (acc++[(nm,ops[i])])) (fun _=>none) from fun h i hi hij=>by
      rcases Nat.lt_or_ge i j with h3 | h3
      ·exact HNO.out i hi h3
      ·obtain rfl:i=j:=by omega
       exact h)
     generalize ops[j]=op at *;obtain ⟨fo,hfo,hf1,hf2⟩:∃ fo:Int,encO op=.int .i64 fo/\(op=none->fo = -1)/\∀ i:Nat,op=some i->fo=(i:Int):=by
      cases op with
      | none=>exact ⟨-1,rfl,(fun _=>rfl),(fun _ h=>by cases h)⟩
      | some i=>exact ⟨i,rfl,(fun h=>by cases h),(fun _ h=>by cases h;rfl)⟩
     rw [hfo] at hcell;have HFO:=zh hfo;have HF1:=zh hf1;have HF2:=zh hf2;have o3:=cell_ofA HAT.out.fix.obj (i:=3) (v:=.map (some g.fb)) rfl;clear hvs hfo hf1 hf2 HNO
     go_upto_region 8 with (refine wpList_nput rfl _ _ _ 282 3 rfl underlying282 rfl HAT.out.fixed (names:=g.xl.map (·.name)) (fun a ha=>by
      by_cases e:a=nm
      ·subst e;exact HXN.out
      ·refine HKY.out a (fun h=>ha ?_)
       rw [fixV_enc,HFX.out a e,h];rfl) (by rw [List.length_map,List.length_map];have:=HG.out.few;unfold maxLen;omega) nm (by have:=HNL.out;omega) (.int .i64 fo) (by show Value.string NM=_;rw [HNMB.out]) rfl ?_;intro w4 hnp hmm hsz)
     have HA4:=zh (HAT.out.refix HG.out (fx':=Sol.fixL (acc++[(nm,op)])) (by rw [<- fix_put op HNACC.out HFX.out,HFO.out];exact hnp) hmm);have hmf:Mod (spF g wr) wr w4:=hmm.weaken (fun _ _ e=>.inl e);have HM4:=zh (HM.out.thenF hmf);have HIB4:=zh (HIB.out.keepF HG.out hmf hbi);have HSL4:=zh (HSL.out.keepF hmf HAT.out (by decide));have HOP4:=zh (HOP.out.keepF hmf HAT.out (by decide));have hld:=HIB4.out.look (t:=282) (z:=.int .i64 0) underlying282 (by kernel_rfl) nm (by have:=HNL.out;omega);rw [<- HNMB.out] at hld;have HCON:=zh (show d nm=op->Sol.Con (Sol.fixL (acc++[(nm,op)])) d from fun h a o ha=>by
      rw [fixL_snoc HNACC.out] at ha;split at ha
      ·rename_i e;subst e;cases ha;exact h
      ·exact HBE2.out.con a o ha)
     have HFX5:=zh (show ∀ a,a ≠ nm->Sol.fixL (acc++[(nm,op)]) a=Sol.fixL acc a from fun a ha=>by rw [fixL_snoc HNACC.out,if_neg ha]);have HFLL:=zh (show ∀ a,Sol.fixL (acc++[(nm,op)]) a ≠ none->a.length<=1000000 from fun a ha=>by
      have h1:a ∈ g.xl.map (·.name):=by
       by_cases e:a=nm
       ·subst e;exact HXN.out
       ·rw [HFX5.out a e] at ha;exact HKY.out a ha
      obtain ⟨x,hx,e⟩:=List.mem_map.1 h1;obtain ⟨y,hy,rfl⟩:=List.mem_map.1 hx;rw [<- e];exact HG.out.name y hy)
     have HFN:=zh (find_any' HG.out HZ.out HFLL.out c A w4 HA4.out (HER.out.keepF HZ.out HM4.out));clear hnp hmm hsz hmf o3 hcell HAT HM HIB HSL HOP HFX;rcases cho_look d nm with ⟨d1,d2,d3⟩ | ⟨r,d1,d2,d3⟩
     ·rw [d2,d3] at hld;cases op with
      | none =>
       obtain rfl:fo = -1:=HF1.out rfl;have HDN:=zh d1;have HB:=zh (HSET.out _ _ _ _ HSP.out HPRE.out HBE2.out.sol (HCON.out HDN.out));clear d1 d2 d3 HFN;go_wp2_with fail
       exact ⟨HRL.out _ _ _ _ _ _ HIB4.out hbi HB.out HA4.out HSL4.out HM4.out,by show names.length - ((k:Int)+1).toNat < names.length - (k:Int).toNat;omega⟩
      | some i =>
       obtain rfl:fo=(i:Int):=HF2.out i rfl;have h1:((i:Int) == -1)=false:=by rw [beq_eq_false_iff_ne];omega
       clear d1 d2 d3;go_wp2_with fail
       with_reducible refine HFN.out.mono ?_
       rintro e w5 ⟨hm5,⟨mb,d',A',rfl,hmb,hnm5,hat5,hsol,hcon⟩ | ⟨fb,s1,s2,q,c',A',rfl,hfb0,hfb,hat5,hns⟩⟩
       ·have hgb:g.B<=mb:=Nat.le_trans HA4.out.fix.big hmb;have HM5:=zh (HM4.out.thenF hm5.spF);have HNM5:=zh hnm5;have HA5:=zh hat5;have HSL5:=zh (HSL4.out.keepF hm5.spF HA4.out (by decide));have HB:=zh (HSET.out _ _ _ _ HSP.out HPRE.out hsol hcon);clear hm5 hnm5 hat5 hsol hcon HFN hld hmb;go_upto_region 12 with fail
        generalize hw6:World.alloc w5 _=w6;have hm6:Mod No w5 w6:=by rw [<- hw6];exact (Mod.refl No w5).alloc _
        have HM6:=zh (HM5.out.thenF (Mod.spF (Mod.noSp hm6)));have HNM6:=zh (HNM5.out.keep hm6 (fun f=>f));have HA6:=zh (HA5.out.no HG.out hm6);have HSL6:=zh (HSL5.out.kn hm6);clear hw6 hm6;go_wp2_with fail
        exact ⟨HRL.out _ _ _ _ _ _ HNM6.out hgb HB.out HA6.out HSL6.out HM6.out,by show names.length - ((k:Int)+1).toNat < names.length - (k:Int).toNat;omega⟩
       ·have HM5:=zh (HM4.out.thenF hm5.spF);have HA5:=zh hat5;have HIB5:=zh (HIB4.out.keepF HG.out hm5.spF hbi);have HSL5:=zh (HSL4.out.keepF hm5.spF HA4.out (by decide));have HOP5:=zh (HOP4.out.keepF hm5.spF HA4.out (by decide));have HFB:=zh hfb;have HNZ:=zh (HNO2.out hns);clear hm5 hfb0 hfb hat5 hns HFN hld;unfold faultV;go_upto_region 12 with fail
        obtain ⟨eb,heb⟩:∃ q,q=w5.heap.size:=⟨_,rfl⟩
        rw [<- heb];generalize hw6:World.alloc w5 _=w6;have hm6:Mod No w5 w6:=by rw [<- hw6];exact (Mod.refl No w5).alloc _
        have hxb:w6.heap[eb]? = some (.cells #[.pointer none] 331 (0,0)):=by rw [<- hw6,heb];exact heap_alloc_new w5 _
        have HAS:=zh (as_faultl q fb eb s1 s2 w6 ((HER.out.keepF HZ.out HM5.out).keep hm6 (fun f=>f)) hxb (hm6.keep HFB.out (fun f=>f)));unfold faultV at HAS;have HM6:=zh hm6;have HEB:=zh heb;clear hw6 hm6 hxb heb;go_wp2_with fail
        with_reducible refine HAS.out.mono ?_
        rintro e w7 ⟨rfl,-,hm7⟩;have hm57:Mod No w5 w7:=HM6.out.then hm7 (fun x hx e=>by have e':x=eb:=e;have:=HEB.out;omega);have HA7:=zh (HA5.out.no HG.out hm57);have HM7:=zh (HM5.out.thenF (Mod.spF (Mod.noSp hm57)));have HIB7:=zh (HIB5.out.keep hm57 (fun f=>f));have HSL7:=zh (HSL5.out.kn hm57);have HOP7:=zh (HOP5.out.kn hm57);clear hm57 hm7 HAS;go_wp2_with fail
        exact ⟨⟨j+1,_,c',A',(by omega),rfl,rfl,HIB7.out,HFX5.out,HA7.out,HNZ.out,HSL7.out,HOP7.out,HM7.out⟩,by show on - ((j:Int)+1).toNat < on - (j:Int).toNat;omega⟩
     ·rw [d2,d3] at hld;cases op with
      | none =>
       obtain rfl:fo = -1:=HF1.out rfl;have h1:((r:Int) == -1)=false:=by rw [beq_eq_false_iff_ne];omega
       clear d1 d2 d3;go_wp2_with fail
       with_reducible refine HFN.out.mono ?_
       rintro e w5 ⟨hm5,⟨mb,d',A',rfl,hmb,hnm5,hat5,hsol,hcon⟩ | ⟨fb,s1,s2,q,c',A',rfl,hfb0,hfb,hat5,hns⟩⟩
       ·have hgb:g.B<=mb:=Nat.le_trans HA4.out.fix.big hmb;have HM5:=zh (HM4.out.thenF hm5.spF);have HNM5:=zh hnm5;have HA5:=zh hat5;have HSL5:=zh (HSL4.out.keepF hm5.spF HA4.out (by decide));have HB:=zh (HSET.out _ _ _ _ HSP.out HPRE.out hsol hcon);clear hm5 hnm5 hat5 hsol hcon HFN hld hmb;go_upto_region 12 with fail
        generalize hw6:World.alloc w5 _=w6;have hm6:Mod No w5 w6:=by rw [<- hw6];exact (Mod.refl No w5).alloc _
        have HM6:=zh (HM5.out.thenF (Mod.spF (Mod.noSp hm6)));have HNM6:=zh (HNM5.out.keep hm6 (fun f=>f));have HA6:=zh (HA5.out.no HG.out hm6);have HSL6:=zh (HSL5.out.kn hm6);clear hw6 hm6;go_wp2_with fail
        exact ⟨HRL.out _ _ _ _ _ _ HNM6.out hgb HB.out HA6.out HSL6.out HM6.out,by show names.length - ((k:Int)+1).toNat < names.length - (k:Int).toNat;omega⟩
       ·have HM5:=zh (HM4.out.thenF hm5.spF);have HA5:=zh hat5;have HIB5:=zh (HIB4.out.keepF HG.out hm5.spF hbi);have HSL5:=zh (HSL4.out.keepF hm5.spF HA4.out (by decide));have HOP5:=zh (HOP4.out.keepF hm5.spF HA4.out (by decide));have HFB:=zh hfb;have HNZ:=zh (HNO2.out hns);clear hm5 hfb0 hfb hat5 hns HFN hld;unfold faultV;go_upto_region 12 with fail
        obtain ⟨eb,heb⟩:∃ q,q=w5.heap.size:=⟨_,rfl⟩
        rw [<- heb];generalize hw6:World.alloc w5 _=w6;have hm6:Mod No w5 w6:=by rw [<- hw6];exact (Mod.refl No w5).alloc _
        have hxb:w6.heap[eb]? = some (.cells #[.pointer none] 331 (0,0)):=by rw [<- hw6,heb];exact heap_alloc_new w5 _
        have HAS:=zh (as_faultl q fb eb s1 s2 w6 ((HER.out.keepF HZ.out HM5.out).keep hm6 (fun f=>f)) hxb (hm6.keep HFB.out (fun f=>f)));unfold faultV at HAS;have HM6:=zh hm6;have HEB:=zh heb;clear hw6 hm6 hxb heb;go_wp2_with fail
        with_reducible refine HAS.out.mono ?_
        rintro e w7 ⟨rfl,-,hm7⟩;have hm57:Mod No w5 w7:=HM6.out.then hm7 (fun x hx e=>by have e':x=eb:=e;have:=HEB.out;omega);have HA7:=zh (HA5.out.no HG.out hm57);have HM7:=zh (HM5.out.thenF (Mod.spF (Mod.noSp hm57)));have HIB7:=zh (HIB5.out.keep hm57 (fun f=>f));have HSL7:=zh (HSL5.out.kn hm57);have HOP7:=zh (HOP5.out.kn hm57);clear hm57 hm7 HAS;go_wp2_with fail
        exact ⟨⟨j+1,_,c',A',(by omega),rfl,rfl,HIB7.out,HFX5.out,HA7.out,HNZ.out,HSL7.out,HOP7.out,HM7.out⟩,by show on - ((j:Int)+1).toNat < on - (j:Int).toNat;omega⟩
      | some i =>
       obtain rfl:fo=(i:Int):=HF2.out i rfl;by_cases hri:r=i
       ·subst hri;have HDN:=zh d1;have HB:=zh (HSET.out _ _ _ _ HSP.out HPRE.out HBE2.out.sol (HCON.out HDN.out));clear d1 d2 d3 HFN;go_wp2_with fail
        exact ⟨HRL.out _ _ _ _ _ _ HIB4.out hbi HB.out HA4.out HSL4.out HM4.out,by show names.length - ((k:Int)+1).toNat < names.length - (k:Int).toNat;omega⟩
       ·have h1:((r:Int) == (i:Int))=false:=by rw [beq_eq_false_iff_ne];omega
        have h2:((i:Int) == -1)=false:=by rw [beq_eq_false_iff_ne];omega
        clear d1 d2 d3;go_wp2_with fail
        with_reducible refine HFN.out.mono ?_
        rintro e w5 ⟨hm5,⟨mb,d',A',rfl,hmb,hnm5,hat5,hsol,hcon⟩ | ⟨fb,s1,s2,q,c',A',rfl,hfb0,hfb,hat5,hns⟩⟩
        ·have hgb:g.B<=mb:=Nat.le_trans HA4.out.fix.big hmb;have HM5:=zh (HM4.out.thenF hm5.spF);have HNM5:=zh hnm5;have HA5:=zh hat5;have HSL5:=zh (HSL4.out.keepF hm5.spF HA4.out (by decide));have HB:=zh (HSET.out _ _ _ _ HSP.out HPRE.out hsol hcon);clear hm5 hnm5 hat5 hsol hcon HFN hld hmb;go_upto_region 12 with fail
         generalize hw6:World.alloc w5 _=w6;have hm6:Mod No w5 w6:=by rw [<- hw6];exact (Mod.refl No w5).alloc _
         have HM6:=zh (HM5.out.thenF (Mod.spF (Mod.noSp hm6)));have HNM6:=zh (HNM5.out.keep hm6 (fun f=>f));have HA6:=zh (HA5.out.no HG.out hm6);have HSL6:=zh (HSL5.out.kn hm6);clear hw6 hm6;go_wp2_with fail
         exact ⟨HRL.out _ _ _ _ _ _ HNM6.out hgb HB.out HA6.out HSL6.out HM6.out,by show names.length - ((k:Int)+1).toNat < names.length - (k:Int).toNat;omega⟩
        ·have HM5:=zh (HM4.out.thenF hm5.spF);have HA5:=zh hat5;have HIB5:=zh (HIB4.out.keepF HG.out hm5.spF hbi);have HSL5:=zh (HSL4.out.keepF hm5.spF HA4.out (by decide));have HOP5:=zh (HOP4.out.keepF hm5.spF HA4.out (by decide));have HFB:=zh hfb;have HNZ:=zh (HNO2.out hns);clear hm5 hfb0 hfb hat5 hns HFN hld;unfold faultV;go_upto_region 12 with fail
         obtain ⟨eb,heb⟩:∃ q,q=w5.heap.size:=⟨_,rfl⟩
         rw [<- heb];generalize hw6:World.alloc w5 _=w6;have hm6:Mod No w5 w6:=by rw [<- hw6];exact (Mod.refl No w5).alloc _
         have hxb:w6.heap[eb]? = some (.cells #[.pointer none] 331 (0,0)):=by rw [<- hw6,heb];exact heap_alloc_new w5 _
         have HAS:=zh (as_faultl q fb eb s1 s2 w6 ((HER.out.keepF HZ.out HM5.out).keep hm6 (fun f=>f)) hxb (hm6.keep HFB.out (fun f=>f)));unfold faultV at HAS;have HM6:=zh hm6;have HEB:=zh heb;clear hw6 hm6 hxb heb;go_wp2_with fail
         with_reducible refine HAS.out.mono ?_
         rintro e w7 ⟨rfl,-,hm7⟩;have hm57:Mod No w5 w7:=HM6.out.then hm7 (fun x hx e=>by have e':x=eb:=e;have:=HEB.out;omega);have HA7:=zh (HA5.out.no HG.out hm57);have HM7:=zh (HM5.out.thenF (Mod.spF (Mod.noSp hm57)));have HIB7:=zh (HIB5.out.keep hm57 (fun f=>f));have HSL7:=zh (HSL5.out.kn hm57);have HOP7:=zh (HOP5.out.kn hm57);clear hm57 hm7 HAS;go_wp2_with fail
         exact ⟨⟨j+1,_,c',A',(by omega),rfl,rfl,HIB7.out,HFX5.out,HA7.out,HNZ.out,HSL7.out,HOP7.out,HM7.out⟩,by show on - ((j:Int)+1).toNat < on - (j:Int).toNat;omega⟩
    ·exfalso;have hje:j=on:=by omega
     have hmem:d nm ∈ ops:=by
      rw [HOPS.out];rcases HDO.out with h | ⟨r,h,hr⟩
      ·rw [h];simp
      ·rw [h];simp [hr]
     obtain ⟨i,hi,hie⟩:=List.getElem_of_mem hmem;have h1:=HNO.out i hi (by rw [HOL.out] at hi;omega);refine h1 d HBE2.out.sol ?_ Sol.ext_none
     rw [hie];intro a o ha;rw [fixL_snoc HNACC.out] at ha;split at ha
     ·rename_i e;subst e;cases ha;rfl
     ·exact HBE2.out.con a o ha
  ·have hke:k=names.length:=by omega
   have hk1:¬ ((k:Int) < (names.length:Int)):=by omega
   have hbe:=HBE.out;rw [List.drop_of_length_le (by omega)] at hbe;obtain ⟨h1,h2⟩:=hbe.done HN.out;have HE:=zh h1;have HIBF:=zh (show NMp wr ib (chV (Sol.pickL acc)) by rw [<- h2];exact HIB.out);clear hbe h1 h2;go_wp2_with fail
   exact fin hR ⟨ib,names,acc,rfl,HIBF.out,HASC.out,HMEM.out,HE.out,HAT.out.fix,HM.out⟩
end Go.Proofs.YticfcmdjplmaeaaGreatDoor
