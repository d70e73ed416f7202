/-
  Layers 0 to 14: helps of the laws of indexes. No statement is proved here; no condition.
-/
import Derived.Test.YticfcmdjplmaeaaGreatDoorX11
import Derived.Test.YticfcmdjplmaeaaGreatDoorX05
import Derived.Test.YticfcmdjplmaeaaGreatDoorX12
import Derived.Test.YticfcmdjplmaeaaGreatDoorX03
import Derived.Test.YticfcmdjplmaeaaGreatDoorX10
import Derived.Test.YticfcmdjplmaeaaGreatDoorX01
set_option maxRecDepth 100000
set_option maxHeartbeats 64000000
namespace Go.Proofs.YticfcmdjplmaeaaGreatDoor
open _root_.Go.Proofs.Tryz
open Go.RowKit Go.Shelf
attribute [local go_sem] Oper.semAt_some
structure SpI (w0:World) (B ob r2 r3 sb:Nat) (pre:List (List UInt8)) (W:World) (ov:Value) (xs:List OrX):Prop where
 all:allO listL pre=some (xs.map OrX.l)
 few:pre.length<=8
 out:W.heap[ob]? = some (.cells #[.bool false,ov] 96 (0,0))
 own:W.ownsRow B 175 1 ov xs.length (xs.map OrX.v)
 each:∀ x ∈ xs,BndsX (fun p=>p=sb) W x.v x.l
 res2:W.heap[r2]? = some (.cells #[.bool false,.slice none 0 0] 96 (0,0))
 res3:W.heap[r3]? = some (.cells #[.int .i64 0] 36 (0,0))
 mod:Mod No w0 W
 size:B<=W.heap.size
theorem own_block_heap {w:World} {base:Nat} {e:TypeId} {size:Nat} {v:Value} {n:Nat} {xs:List Value} (h:w.ownsRow base e size v n xs) {k:Nat} (hk:v.ownBlock=some k):base<=k/\∃ cur,w.heap[k]? = some (.cells cur e (0,0)):=by
 obtain ⟨_,⟨hv,_⟩ | ⟨g,cap,cur,hv,hg,hh,r⟩⟩:=h
 ·rw [hv] at hk;cases hk
 ·rw [hv] at hk;cases hk;exact ⟨hg,_,hh⟩
theorem SpI.turn {w0:World} {B ob r2 r3 sb:Nat} {pre:List (List UInt8)} {W W':World} {ov:Value} {xs:List OrX} (h:SpI w0 B ob r2 r3 sb pre W ov xs) (hm:Turn B sb W W')
  (h1:ob < B/\r2 < B/\r3 < B/\sb < B) (h2:ob ≠ sb/\r2 ≠ sb/\r3 ≠ sb) (h3:w0.heap.size<=sb/\w0.heap.size<=B):SpI w0 B ob r2 r3 sb pre W' ov xs:=by
 refine ⟨h.all,h.few,hm.keep h.out ?_,own_keepM h.own hm ?_,fun x hx=>(h.each x hx).keepX hm ?_,hm.keep h.res2 ?_,hm.keep h.res3 ?_,h.mod.then hm ?_,Nat.le_trans h.size hm.size⟩
 ·rintro (e | ⟨e,_⟩) <;> omega
 ·intro k hk hs;obtain ⟨hb,cur,hh⟩:=own_block_heap h.own hk;rcases hs with e | ⟨_,o,ho,hc⟩
  ·omega
  ·rw [hh] at ho;cases ho;cases hc
 ·intro k cur fz e hs hx hh;rcases hs with e | ⟨_,o,ho,hc⟩
  ·exact hx e
  ·rw [hh] at ho;cases ho;cases hc
 ·rintro (e | ⟨e,_⟩) <;> omega
 ·rintro (e | ⟨e,_⟩) <;> omega
 ·intro i hi hs;rcases hs with e | ⟨e,_⟩ <;> omega
structure Pl (z B ob r2 eb sb nb:Nat):Prop where
 p1:z<=r2
 p2:r2+1 < ob
 p3:ob < eb/\ob < sb/\ob < nb
 p4:eb < B/\sb < B/\nb < B
theorem BndsX.keepA {X S:Nat->Prop} {w w':World} {v:Value} {l:List Bnd} (h:BndsX X w v l) (hm:Mod S w w') (ha:Apart [9,237] S w):BndsX X w' v l:=by
 obtain ⟨xs,h1,h2,h3⟩:=h;exact ⟨xs,h1,fun x hx=>(h2 x hx).keep hm (fun k cur fz hk _ hc=>ha k cur fz _ hk hc (by simp)),h3.keep hm (fun k cur fz hk _ hc=>ha k cur fz _ hk hc (by simp))⟩
theorem SpI.more {w0:World} {B ob r2 eb sb nb:Nat} {pre:List (List UInt8)} {W WA W3:World} {ov nv v':Value} {xs:List OrX} {y:List UInt8} {l:List Bnd} (h:SpI w0 B ob r2 (r2+1) sb pre W ov xs) (hm:Mod No W WA)
  (hp:Pl w0.heap.size B ob r2 eb sb nb) (hy:listL y=some l) (hx:xs.length < 8) (hg:WA.grownBy W3 ov.ownBlock) (hown:W3.ownsRow B 175 1 v' (xs.length+1) (xs.map OrX.v++[nv])) (hnew:BndsX (fun p=>p=sb) WA nv l) :
  Rd B eb sb nb W (W3.setCell ⟨ob,1,none⟩ v')/\SpI w0 B ob r2 (r2+1) sb (pre++[y]) (W3.setCell ⟨ob,1,none⟩ v') v' (xs++[⟨l,nv⟩]):=by
 obtain ⟨p1,p2,⟨p3,p4,p5⟩,p6,p7,p8⟩:=hp;have hgm:Mod (fun q=>ov.ownBlock=some q) WA W3:=Mod.of_grown hg (fun q e _=>e);have hob:∀ q,ov.ownBlock=some q->B<=q/\(∃ cur,W.heap[q]? = some (.cells cur 175 (0,0))):=fun q e=>own_block_heap h.own e
 have hS2:Mod (fun p=>p=ob\/ov.ownBlock=some p) WA (W3.setCell ⟨ob,1,none⟩ v'):=(hgm.weaken (fun _ _ e=>.inr e)).setCell (fun _=>.inl rfl) _;have hS:Mod (fun p=>p=ob\/ov.ownBlock=some p) W (W3.setCell ⟨ob,1,none⟩ v'):=hm.no.trans hS2;have hno:∀ k,k < B->k ≠ ob->¬ (k=ob\/ov.ownBlock=some k):=fun k hk hk2 e=>by
  rcases e with e | e
  ·exact hk2 e
  ·have:=(hob k e).1;omega
 have hap:Apart [9,237] (fun p=>p=ob\/ov.ownBlock=some p) W:=fun k cur fz e hk hc hmem=>by
  rcases hk with rfl | hk
  ·rw [h.out] at hc;cases hc;simp at hmem
  ·obtain ⟨_,cur',hh⟩:=hob k hk;rw [hh] at hc;cases hc;simp at hmem
 have hap2:Apart [9,237] (fun p=>p=ob\/ov.ownBlock=some p) WA:=fun k cur fz e hk hc hmem=>by
  rcases hk with rfl | hk
  ·rw [hm.keep h.out (fun f=>f)] at hc;cases hc;simp at hmem
  ·obtain ⟨_,cur',hh⟩:=hob k hk;rw [hm.keep hh (fun f=>f)] at hc;cases hc;simp at hmem
 have ho3:=hgm.keep (hm.keep h.out (fun f=>f)) (fun e=>by have:=(hob ob e).1;omega);refine ⟨⟨fun k o hk ho hc=>hS.keep ho (fun e=>?_),fun z hz=>hz.keep hS (hno _ p6 (by omega)) (hno _ p7 (by omega)) (hno _ p8 (by omega))⟩,?_,?_,?_,?_,?_,?_,?_,?_,?_⟩
 ·rcases e with e | e
  ·omega
  ·obtain ⟨_,cur,hh⟩:=hob k e;rw [hh] at ho;cases ho;cases hc
 ·rw [allO_append,h.all];simp [allO,hy]
 ·have h1:=allO_length h.all;rw [List.length_map] at h1;rw [List.length_append,<- h1];simp;omega
 ·rw [heap_setCell ho3];rfl
 ·rw [List.length_append,List.map_append];exact own_keepM hown (Mod.cell1 W3 ob 1 v') (fun k e e2=>by have h2:=(own_block_heap hown e).1;have h3:k=ob:=e2;omega)
 ·intro x hx;rcases List.mem_append.1 hx with hx | hx
  ·exact (h.each x hx).keepA hS hap
  ·obtain rfl:x=⟨l,nv⟩:=by simpa using hx
   exact hnew.keepA hS2 hap2
 ·exact hS.keep h.res2 (hno _ (by omega) (by omega))
 ·exact hS.keep h.res3 (hno _ (by omega) (by omega))
 ·refine h.mod.then hS (fun i hi e=>?_)
  rcases e with e | e
  ·omega
  ·have:=(hob i e).1;omega
 ·exact Nat.le_trans h.size hS.size
def SpBad (pre:List (List UInt8)):Prop:=(∃ y ∈ pre,listL y=none)\/8 < pre.length
structure SpX (w0:World) (r2 r3:Nat) (pre:List (List UInt8)) (W:World):Prop where
 bad:SpBad pre
 res2:W.heap[r2]? = some (.cells #[.bool false,.slice none 0 0] 96 (0,0))
 res3:W.heap[r3]? = some (.cells #[.int .i64 61] 36 (0,0))
 mod:Mod No w0 W
theorem SpX.turn {w0:World} {B r2 r3 sb:Nat} {pre:List (List UInt8)} {W W':World} (h:SpX w0 r2 r3 pre W) (hm:Turn B sb W W') (h1:r2 < B/\r3 < B) (h2:r2 ≠ sb/\r3 ≠ sb) (h3:w0.heap.size<=sb/\w0.heap.size<=B):SpX w0 r2 r3 pre W':=by
 refine ⟨h.bad,hm.keep h.res2 ?_,hm.keep h.res3 ?_,h.mod.then hm ?_⟩
 ·rintro (e | ⟨e,_⟩) <;> omega
 ·rintro (e | ⟨e,_⟩) <;> omega
 ·intro i hi hs;rcases hs with e | ⟨e,_⟩ <;> omega
abbrev failW (W:World) (r2:Nat):World:=((W.setCell ⟨r2,0,none⟩ (.bool false)).setCell ⟨r2,1,none⟩ (.slice none 0 0)).setCell ⟨r2+1,0,none⟩ (.int .i64 61)
theorem SpI.fail {w0:World} {B ob r2 eb sb nb:Nat} {pre pre':List (List UInt8)} {W W1:World} {ov:Value} {xs:List OrX} (h:SpI w0 B ob r2 (r2+1) sb pre W ov xs) (hm:Mod No W W1)
  (hp:Pl w0.heap.size B ob r2 eb sb nb) (hbad:SpBad pre'):Rd B eb sb nb W (failW W1 r2)/\SpX w0 r2 (r2+1) pre' (failW W1 r2):=by
 obtain ⟨p1,p2,⟨p3,p4,p5⟩,p6,p7,p8⟩:=hp;have hS:Mod (fun p=>p=r2\/p=r2+1) W (failW W1 r2):=((hm.no.setCell (fun _=>.inl rfl) _).setCell (fun _=>.inl rfl) _).setCell (fun _=>.inr rfl) _;have k2:(failW W1 r2).heap[r2]? = some (.cells #[.bool false,.slice none 0 0] 96 (0,0)):=by
  rw [heap_setCell_ne _ (by dsimp only;omega),heap_setCell (heap_setCell (hm.keep h.res2 (fun f=>f)) _)];rfl
 have k3:(failW W1 r2).heap[r2+1]? = some (.cells #[.int .i64 61] 36 (0,0)):=by
  rw [heap_setCell ((heap_setCell_ne _ (by dsimp only;omega)).trans ((heap_setCell_ne _ (by dsimp only;omega)).trans (hm.keep h.res3 (fun f=>f))))];rfl
 refine ⟨⟨fun k o hk ho _=>hS.keep ho (by omega),fun z hz=>hz.keep hS (by omega) (by omega) (by omega)⟩,hbad,k2,k3,h.mod.then hS (fun i hi e=>by omega)⟩
abbrev doneW (W:World) (r2:Nat) (ov:Value):World:=((W.setCell ⟨r2,0,none⟩ (.bool false)).setCell ⟨r2,1,none⟩ ov).setCell ⟨r2+1,0,none⟩ (.int .i64 0)
theorem SpI.done {w0:World} {B ob r2 eb sb nb D:Nat} {pre:List (List UInt8)} {W:World} {ov:Value} {xs:List OrX} (h:SpI w0 B ob r2 (r2+1) sb pre W ov xs)
  (hp:Pl w0.heap.size B ob r2 eb sb nb) (hD:B<=D) (hK:W.heap[D]? = some (.deferred (some []))) :
  (doneW W r2 ov).heap[D]? = some (.deferred (some []))/\((doneW W r2 ov).putObj D (.deferred none)).heap[r2]? = some (.cells #[.bool false,ov] 96 (0,0)) ∧
  ((doneW W r2 ov).putObj D (.deferred none)).heap[r2+1]? = some (.cells #[.int .i64 0] 36 (0,0))/\OrsAt ((doneW W r2 ov).putObj D (.deferred none)) ov (xs.map OrX.l)/\Mod No w0 ((doneW W r2 ov).putObj D (.deferred none)):=by
 obtain ⟨p1,p2,⟨p3,p4,p5⟩,p6,p7,p8⟩:=hp;have hS0:Mod (fun p=>p=r2\/p=r2+1) W (doneW W r2 ov):=(((Mod.refl _ W).setCell (fun _=>.inl rfl) _).setCell (fun _=>.inl rfl) _).setCell (fun _=>.inr rfl) _;have k2:(doneW W r2 ov).heap[r2]? = some (.cells #[.bool false,ov] 96 (0,0)):=by
  rw [heap_setCell_ne _ (by dsimp only;omega),heap_setCell (heap_setCell h.res2 _)];rfl
 have k3:(doneW W r2 ov).heap[r2+1]? = some (.cells #[.int .i64 0] 36 (0,0)):=by
  rw [heap_setCell ((heap_setCell_ne _ (by dsimp only;omega)).trans ((heap_setCell_ne _ (by dsimp only;omega)).trans h.res3))];rfl
 have hS:Mod (fun p=>p=r2\/p=r2+1\/p=D) W ((doneW W r2 ov).putObj D (.deferred none)) :=
  (hS0.weaken (fun _ _ e=>by omega)).trans (Mod.putObj _ (.inr (.inr rfl)) _)
 have hap:∀ k cur fz e,(k=r2\/k=r2+1\/k=D)->W.heap[k]? = some (.cells cur e fz)->e=96\/e=36:=fun k cur fz e hk hc=>by
  rcases hk with rfl | rfl | rfl
  ·rw [h.res2] at hc;cases hc;exact .inl rfl
  ·rw [h.res3] at hc;cases hc;exact .inr rfl
  ·rw [hK] at hc;cases hc
 refine ⟨hS0.keep hK (by omega),(World.putObj_heap_other (by omega)).trans k2,(World.putObj_heap_other (by omega)).trans k3,⟨xs,rfl,fun x hx=>?_,?_⟩,h.mod.then hS (fun i hi e=>by omega)⟩
 ·refine BndsX.no ((h.each x hx).keepA hS fun k cur fz e hk hc hm=>?_)
  rcases hap k cur fz e hk hc with rfl | rfl <;> simp at hm
 ·rw [List.length_map];refine (Sl.of_own (X:=No) h.own (fun _ _ f=>f)).keep hS fun k cur fz hk _ hc=>?_
  rcases hap k cur fz _ hk hc with e | e <;> cases e
theorem SpX.done {w0:World} {B ob r2 eb sb nb D:Nat} {pre:List (List UInt8)} {W:World} (h:SpX w0 r2 (r2+1) pre W) (hp:Pl w0.heap.size B ob r2 eb sb nb) (hD:B<=D) :
  (W.putObj D (.deferred none)).heap[r2]? = some (.cells #[.bool false,.slice none 0 0] 96 (0,0)) ∧
  (W.putObj D (.deferred none)).heap[r2+1]? = some (.cells #[.int .i64 61] 36 (0,0))/\Mod No w0 (W.putObj D (.deferred none)):=by
 obtain ⟨p1,p2,⟨p3,p4,p5⟩,p6,p7,p8⟩:=hp;exact ⟨(World.putObj_heap_other (by omega)).trans h.res2,(World.putObj_heap_other (by omega)).trans h.res3,h.mod.then (Mod.putObj (S:=fun p=>p=D) _ rfl _) (fun i hi e=>by omega)⟩
theorem span_bad {l:List UInt8} {pre:List (List UInt8)} (hs:wordsL l ≠ [[42]]) (hp:pre <+: splitO l) (hb:SpBad pre):spanL l=none:=by
 unfold spanL;rw [if_neg hs];rcases hb with ⟨y,hy,hn⟩ | hb
 ·by_cases h8:8 < (splitO l).length
  ·rw [if_pos h8]
  ·rw [if_neg h8];obtain ⟨k,hk,rfl⟩:=List.getElem_of_mem (hp.subset hy);rw [allO_fail hk hn];rfl
 ·rw [if_pos (Nat.lt_of_lt_of_le hb hp.length_le)]
theorem span_good {l:List UInt8} {xs:List (List Bnd)} (hs:wordsL l ≠ [[42]]) (h8:(splitO l).length<=8) (h:allO listL (splitO l)=some xs):spanL l=some ⟨false,xs⟩:=by
 unfold spanL;rw [if_neg hs,if_neg (by omega),h];rfl
theorem load_span {w:World} {b:Nat} {v0 v1:Value} (h:w.heap[b]? = some (.cells #[v0,v1] 96 (0,0))) :
  (loadVar 96 ⟨b,0,none⟩).run prog w=.ok (.agg #[v0,v1]) w :=
 run_loadVar_row (P:=prog) w b 96 96 #[v0,v1] (0,0) _ h underlying96 rfl (by kernel_rfl)
theorem load_errno {w:World} {b:Nat} {x:Int} (h:w.heap[b]? = some (.cells #[.int .i64 x] 36 (0,0))) :
  (loadVar 36 ⟨b,0,none⟩).run prog w=.ok (.int .i64 x) w:=by
 have c:w.cell? ⟨b,0,none⟩=some (.int .i64 x):=cell_ofA h rfl;go_simp
theorem info_bound:(prog.info? 237).map (fun i=>(i.zero,i.size,i.bytes))=some (some (.agg #[.string ⟨#[]⟩,.int .i64 0,.int .i64 0,.int .i64 0,.slice none 0 0]),5,64):=by kernel_rfl
theorem info_bounds:(prog.info? 175).map (fun i=>(i.zero,i.size,i.bytes))=some (some (.slice none 0 0),1,24):=by kernel_rfl
theorem bnd_one {X:Nat->Prop} {w:World} {bs:List BndX} (h:∀ x ∈ bs,Sl w X 9 x.pv x.b.v.pre.length (strs x.b.v.pre)):∀ u ∈ bs.flatMap BndX.cells,u.oneCell'=true:=by
 intro u hu;obtain ⟨x,hx,hu⟩:=List.mem_flatMap.1 hu;obtain ⟨a,c,e⟩:=(h x hx).len;unfold BndX.cells verCs at hu;rw [e] at hu;simp only [List.mem_cons,List.not_mem_nil,or_false] at hu;rcases hu with rfl | rfl | rfl | rfl | rfl <;> rfl
theorem bounds_few {l:List UInt8} {bs:List Bnd} (h:boundsL l=some bs):0 < bs.length/\bs.length<=2:=by
 unfold boundsL at h;cases hv:verOf (l.drop (signL l).length) with
 | none=>rw [hv] at h;cases h
 | some v =>
  rw [hv] at h;obtain rfl:=Option.some.inj h;unfold boundsV;split
  ·simp
  ·split
   ·simp
   ·split <;> simp
theorem span_any (l:List UInt8) (hl:l.length<=1000000) (w:World) (hgl:Gl w) :
  Calls prog 115 #[strV l] w fun e w'=>((spanL l=none/\e=.returned (.tuple #[.agg #[.bool false,.slice none 0 0],.int .i64 61])) ∨
   ∃ s ov,spanL l=some s/\e=.returned (.tuple #[.agg #[.bool s.any,ov],.int .i64 0])/\OrsAt w' ov s.ors)/\Mod No w w':=by
 refine calls_hide fun R hR=>?_
 refine (callsIn_wide (n:=9)).1 ?_;refine callsIn_of_wp_marks func115 rfl trivial ?_;simp only [ntmps115,List.size_toArray,List.length_cons,List.length_nil,Nat.reduceAdd,Nat.reduceSub,Array.replicate_succ,Array.replicate_zero,List.push_toArray,List.append_toArray,List.nil_append,List.cons_append];have HT:=zh (trim_any l hl);have HTS:=zh (trim_star l);have HSQ:=zh (splitseq_any l);unfold strV at *;generalize hZ:(⟨l.toArray⟩:ByteArray)=Z at *;gi_wp2
 obtain ⟨r2,hr2⟩:∃ g,g=w.heap.size:=⟨_,rfl⟩
 rw [<- hr2];generalize hw1:World.alloc (World.alloc w _) _=w1;have h21:w1.heap[r2]? = some (.cells #[.bool false,.slice none 0 0] 96 (0,0)):=by rw [<- hw1,hr2];exact heap_alloc_old _ (heap_alloc_new w _)
 have h31:w1.heap[r2+1]? = some (.cells #[.int .i64 0] 36 (0,0)):=by
  rw [<- hw1,hr2];exact heap_at_new _ _ (by simp)
 have hm1:Mod No w w1:=by rw [<- hw1];exact ((Mod.refl No w).alloc _).alloc _
 clear hw1;refine ⟨trivial,(callsIn_wide.2 (HT.out w1)).mono ?_⟩
 rintro e w2 ⟨rfl,hm2⟩;have H22:=zh (hm2.keep h21 (fun f=>f));have H32:=zh (hm2.keep h31 (fun f=>f));have HM2:=zh (hm1.trans hm2);have HR2:=zh hr2;clear h21 h31 hm1 hm2 HT hr2 w1;have HTT:=zh (str_list (Lib.trimB l 32));by_cases hst:wordsL l=[[42]]
 ·have htt:(⟨(Lib.trimB l 32).toArray⟩:ByteArray).toList=[42]:=by rw [HTT.out];exact HTS.out.2 hst
  generalize (⟨(Lib.trimB l 32).toArray⟩:ByteArray)=T at *;have f2:=frozen_of 0 H22.out;have f2':=frozen_of 1 H22.out;have f3:=frozen_of 0 H32.out;have c2:=cell_ofA H22.out (i:=0) rfl;have c2':=cell_ofA H22.out (i:=1) rfl;have c3:=cell_ofA H32.out (i:=0) rfl;gi_wp2
  have k2:(((w2.setCell ⟨r2,0,none⟩ (.bool true)).setCell ⟨r2,1,none⟩ (.slice none 0 0)).setCell ⟨r2+1,0,none⟩ (.int .i64 0)).heap[r2]? = some (.cells #[.bool true,.slice none 0 0] 96 (0,0)):=by
   rw [heap_setCell_ne _ (by dsimp only;omega),heap_setCell (heap_setCell H22.out _)];rfl
  have k3:(((w2.setCell ⟨r2,0,none⟩ (.bool true)).setCell ⟨r2,1,none⟩ (.slice none 0 0)).setCell ⟨r2+1,0,none⟩ (.int .i64 0)).heap[r2+1]? = some (.cells #[.int .i64 0] 36 (0,0)):=by
   rw [heap_setCell ((heap_setCell_ne _ (by dsimp only;omega)).trans ((heap_setCell_ne _ (by dsimp only;omega)).trans H32.out))];rfl
  have HMz:=zh (show Mod No w (((w2.setCell ⟨r2,0,none⟩ (.bool true)).setCell ⟨r2,1,none⟩ (.slice none 0 0)).setCell ⟨r2+1,0,none⟩ (.int .i64 0)) from
   ((HM2.out.setCell (fun h=>by have:=HR2.out;dsimp only at h;omega) _).setCell (fun h=>by have:=HR2.out;dsimp only at h;omega) _).setCell (fun h=>by have:=HR2.out;dsimp only at h;omega) _)
  have hl2:=load_span k2;have hl3:=load_errno k3;exact ⟨.tuple #[.agg #[.bool true,.slice none 0 0],.int .i64 0],by simp [results,results115,asAddr,hl2,hl3],fin hR ⟨.inr ⟨⟨true,[]⟩,_,by unfold spanL;rw [if_pos hst],rfl,⟨[],rfl,by simp,.inl ⟨rfl,rfl,rfl⟩⟩⟩,HMz.out⟩⟩
 ·have htt:((⟨(Lib.trimB l 32).toArray⟩:ByteArray).toList == [42])=false:=by rw [HTT.out];simpa using fun h=>hst (HTS.out.1 h)
  generalize (⟨(Lib.trimB l 32).toArray⟩:ByteArray)=T at *;gi_wp2
  obtain ⟨ob,hob⟩:∃ g,g=w2.heap.size:=⟨_,rfl⟩
  rw [<- hob];generalize hw3:World.alloc w2 _=w3;have h23:w3.heap[r2]? = some (.cells #[.bool false,.slice none 0 0] 96 (0,0)):=by rw [<- hw3];exact heap_alloc_old _ H22.out
  have h33:w3.heap[r2+1]? = some (.cells #[.int .i64 0] 36 (0,0)):=by rw [<- hw3];exact heap_alloc_old _ H32.out
  have ho3:w3.heap[ob]? = some (.cells #[.bool false,.slice none 0 0] 96 (0,0)):=by rw [<- hw3,hob];exact heap_alloc_new w2 _
  have hm3:Mod No w w3:=by rw [<- hw3];exact HM2.out.alloc _
  have hlt:r2+1 < ob:=by rw [hob];exact lt_of_heap H32.out
  clear hw3 hob H22 H32 HM2;refine ⟨trivial,(callsIn_wide.2 (HSQ.out w3)).mono ?_⟩
  rintro e w4 ⟨eb,sb,nb,rfl,hB,hm4,hge⟩;have h24:=hm4.keep h23 (fun f=>f);have h34:=hm4.keep h33 (fun f=>f);have ho4:=hm4.keep ho3 (fun f=>f);have HM4:=zh (hm3.trans hm4);have hlo:=lt_of_heap ho3;have hs3:=hm3.size;have hs4:=hm4.size;have bs:=lt_of_heap hB.s;clear h23 h33 ho3 hm3 hm4 HSQ;have h0:∃ ov xs,SpI w w4.heap.size ob r2 (r2+1) sb [] w4 ov xs:=⟨_,[],rfl,by simp,ho4,⟨rfl,.inl ⟨rfl,rfl⟩⟩,(fun x hx=>by cases hx),h24,h34,HM4.out,Nat.le_refl _⟩
  have hr2w:=HR2.out;have hA:ob < w4.heap.size/\r2 < w4.heap.size/\r2+1 < w4.heap.size/\sb < w4.heap.size:=by omega
  have hC:ob ≠ sb/\r2 ≠ sb/\r2+1 ≠ sb:=by omega
  have hE:w.heap.size<=sb/\w.heap.size<=w4.heap.size:=by omega
  have HAL:=zh (And.intro hA (And.intro hC (And.intro hE hlt)));have HPL:=zh (show Pl w.heap.size w4.heap.size ob r2 eb sb nb from ⟨by omega,hlt,by omega,lt_of_heap hB.e,bs,lt_of_heap hB.n⟩);have HB:=zh hB;have H0:=zh h0;have HX:=zh (show ∀ W,Mod No w W->Gl W from fun W hm=>hgl.stay hm (fun f=>f));clear h24 h34 ho4 hlo hs3 hs4 bs hr2w hA hC hE hlt hge h0 HM4 hgl hB;gi_wp2
  refine range_box hl 9 rfl HB.out (fun pre W=>∃ ov xs,SpI w w4.heap.size ob r2 (r2+1) sb pre W ov xs) (fun pre W=>SpX w r2 (r2+1) pre W)
   (fun pre W W' ⟨ov,xs,h⟩ hm=>⟨ov,xs,h.turn hm HAL.out.1 HAL.out.2.1 HAL.out.2.2.1⟩)
   (fun pre W W' h hm=>h.turn hm ⟨HAL.out.1.2.1,HAL.out.1.2.2.1⟩ HAL.out.2.1.2 HAL.out.2.2.1)
   (fun pre W ⟨ov,xs,h⟩=>HX.out _ h.mod) H0.out
   (fun y=>{ tmps:=#[.string Z,undef,.pointer (some ⟨r2,0,none⟩),.pointer (some ⟨r2+1,0,none⟩),.pointer (some ⟨ob,0,none⟩),strV y,undef,undef,undef,undef,undef,undef,.string Z,.string T,.bool false,undef,.string Z,.func (.func 268) #[] #[.pointer (some ⟨eb,0,none⟩),.pointer (some ⟨sb,0,none⟩),.pointer (some ⟨nb,0,none⟩)],strV y,undef,undef,undef,undef,undef,undef,undef,undef,undef,undef,undef,undef,undef,undef,undef,undef,undef,undef,undef,undef,undef,undef,undef,undef,undef,undef,undef,undef,undef,undef,undef,undef,undef,undef,undef,undef,undef,undef,undef,undef,undef,undef],defers:=[] }) ?assign ?body ?done ?stop
  case assign =>
   intro lp x W K hK;gi_wp2
   exact hK
  case body =>
   rintro lp pre y W ⟨ov,xs,hs⟩ hpre;have hyl:y.length<=1000000:=Nat.le_trans (splitO_mem_le l y (hpre.subset (by simp))) hl;have HF:=zh (fields_any y hyl);have HWD:=zh (words_mem_le y);have HWL:=zh (words_le y);have HS:=zh hs;have HLL:=zh (show listL y=if wordsL y=[]\/8 < (wordsL y).length then none else (allO boundsL (wordsL y)).map List.flatten from rfl);clear hs hR HTS HTT htt H0 HR2;unfold strV at *;generalize (⟨y.toArray⟩:ByteArray)=Y at *;gi_wp2
   refine ⟨trivial,(CallsIn.inRound lp (callsIn_wide.2 (HF.out W))).mono ?_⟩
   rintro e W1 ⟨wv,rfl,hown,hm1⟩;have HW1:=zh (Sl.of_own (X:=No) hown (fun _ _ f=>f));obtain ⟨wa,wc,rfl⟩:=HW1.out.len;have HM1:=zh hm1;clear hown HF;generalize wordsL y=ws at *;have c2:=cell_ofA (HM1.out.keep HS.out.res2 (fun f=>f)) (i:=0) rfl;have c2':=cell_ofA (HM1.out.keep HS.out.res2 (fun f=>f)) (i:=1) rfl;have c3:=cell_ofA (HM1.out.keep HS.out.res3 (fun f=>f)) (i:=0) rfl;have f2:=frozen_of 0 (HM1.out.keep HS.out.res2 (fun f=>f));have f2':=frozen_of 1 (HM1.out.keep HS.out.res2 (fun f=>f));have f3:=frozen_of 0 (HM1.out.keep HS.out.res3 (fun f=>f));obtain ⟨oa,oc,rfl⟩:=own_len HS.out.own;have o1:=cell_ofA (HM1.out.keep HS.out.out (fun f=>f)) (i:=1) rfl;have HXL:=zh (show xs.length=pre.length by
    have:=allO_length HS.out.all;rw [List.length_map] at this;exact this)
   by_cases hbad:ws=[]\/8 < ws.length\/xs.length=8
   ·have HBD:=zh (show SpBad (pre++[y]) by
     rcases hbad with h | h | h
     ·exact .inl ⟨y,by simp,by rw [HLL.out,if_pos (.inl h)]⟩
     ·exact .inl ⟨y,by simp,by rw [HLL.out,if_pos (.inr h)]⟩
     ·exact .inr (by rw [List.length_append,<- HXL.out];simp;omega))
    have hb3:ws.length=0\/8 < ws.length\/(ws.length ≠ 0/\ws.length<=8/\xs.length=8):=by
     rcases hbad with h | h | h
     ·exact .inl (by rw [h];rfl)
     ·exact .inr (.inl h)
     ·omega
    have HFL:=zh (HS.out.fail HM1.out HPL.out HBD.out);clear hbad HXL HWL HWD HLL hm1 HBD;generalize ws.length=wn at *;generalize xs.length=xn at *;rcases hb3 with rfl | h | ⟨h1,h2,rfl⟩
    ·gi_wp2
     exact HFL.out
    ·have h1:(8:Int) < (wn:Int):=by omega
     have h2:((wn:Int) == 0)=false:=by simp;omega
     gi_wp2
     exact HFL.out
    ·have h3:(wn:Int)<=8:=by omega
     have h4:((wn:Int) == 0)=false:=by simpa using h1
     gi_wp2
     exact HFL.out
   ·have hg1:ws.length ≠ 0:=fun h=>hbad (.inl (List.eq_nil_of_length_eq_zero h))
    have hg2:(ws.length:Int)<=8:=by omega
    have hg3:((ws.length:Int) == 0)=false:=by simpa using hg1
    have hg4:((xs.length:Int) == 8)=false:=by simp;omega
    have HLL2:=zh (show listL y=(allO boundsL ws).map List.flatten by rw [HLL.out,if_neg (by rintro (h | h);exact hbad (.inl h);exact hbad (.inr (.inl h)))]);have hwl:ws.length<=8:=by omega
    have hx7:xs.length < 8:=by
     have:=HS.out.few;have:=HXL.out;have:xs.length ≠ 8:=fun h=>hbad (.inr (.inr h))
     omega
    clear hbad HLL HWL hm1 c2 c2' c3 f2 f2' f3 hg1;gi_wp2
    clear o1 hg2 hg3 hg4;gi_loopw [7,38] (fun u q wr=>∃ (k:Nat) (bs:List BndX) (bss:List (List Bnd)),k<=ws.length/\q=.int .i64 (k:Int)/\allO boundsL (ws.take k)=some bss/\bs.map BndX.b=bss.flatten/\bs.length<=2*k/\wr.ownsRow W1.heap.size 237 5 u bs.length (bs.flatMap BndX.cells) ∧
     (∀ x ∈ bs,Sl wr (fun p=>p=sb) 9 x.pv x.b.v.pre.length (strs x.b.v.pre))/\Mod No W1 wr) (fun _ q _=>ws.length - (intOf q).toNat)
    case atStart=>exact ⟨0,[],[],by omega,rfl,rfl,rfl,by simp,⟨rfl,.inl ⟨rfl,rfl⟩⟩,(fun x hx=>by cases hx),Mod.refl _ _⟩
    case round =>
     obtain ⟨k,bs,bss,hk,rfl,hall,hbs,hbl,hown,heach,hmod⟩:=hrel;have HO:=zh hown;have HE:=zh heach;have HM:=zh hmod;have HA:=zh hall;have HBS:=zh hbs;have hk0:(0:Int)<=(k:Int):=Int.natCast_nonneg _;obtain ⟨ua,uc,rfl⟩:=own_len HO.out;clear hown heach hmod hall hbs;by_cases hlt:k < ws.length
     ·have hk1:(k:Int) < (ws.length:Int):=by omega
      obtain ⟨fb,fo,fc,hvs,_⟩:=HW1.out.shape (by omega);cases hvs
      have hcell:=HM.out.cell (HW1.out.cellN (i:=k) (by rw [strs_length];exact hlt)) (fun f=>f);rw [show (strs ws)[k]'(by rw [strs_length];exact hlt)=strV ws[k] from by simp [strs]] at hcell;have hwk:=HWD.out _ (List.getElem_mem hlt);have HWO:=zh (word_any ws[k] (by omega));have HAT:=zh (show ∀ b,boundsL ws[k]=some b->allO boundsL (ws.take (k+1))=some (bss++[b]) from fun b hb=>allO_take hlt HA.out hb);have HAF:=zh (show boundsL ws[k]=none->allO boundsL ws=none from fun hb=>allO_fail hlt hb);have HGL:=zh (HX.out _ ((HS.out.mod.trans HM1.out).trans HM.out));unfold strV at *;generalize ws[k]=wk at *;gi_wp2
      refine ⟨trivial,(CallsIn.inRound lp (callsIn_wide.2 (HWO.out _ HGL.out))).mono ?_⟩
      rintro e W2 ⟨hv,hm2⟩;rcases hv with ⟨hn,rfl⟩ | ⟨bk,vv,hbk,rfl,hbx⟩
      ·have HBD:=zh (show SpBad (pre++[y]) from .inl ⟨y,by simp,by rw [HLL2.out,HAF.out hn];rfl⟩);have hmz:=(HM1.out.trans HM.out).trans hm2;have HFL:=zh (HS.out.fail hmz HPL.out HBD.out);have c2:=cell_ofA (hmz.keep HS.out.res2 (fun f=>f)) (i:=0) rfl;have c2':=cell_ofA (hmz.keep HS.out.res2 (fun f=>f)) (i:=1) rfl;have c3:=cell_ofA (hmz.keep HS.out.res3 (fun f=>f)) (i:=0) rfl;have f2:=frozen_of 0 (hmz.keep HS.out.res2 (fun f=>f));have f2':=frozen_of 1 (hmz.keep HS.out.res2 (fun f=>f));have f3:=frozen_of 0 (hmz.keep HS.out.res3 (fun f=>f));clear hn hm2 hmz HBD hcell HWO HAT HAF;gi_wp2
       exact HFL.out
      ·obtain ⟨ys,hy1,hy2,hy3⟩:=hbx;have HY2:=zh (show ∀ x ∈ ys,Sl W2 (fun p=>p=sb) 9 x.pv x.b.v.pre.length (strs x.b.v.pre) from fun x hx=>(hy2 x hx).shrink (fun p hp (e:p=sb)=>by
        have h1:=HPL.out.p4.2.1;have h2:=HM.out.size;have h3:=HM1.out.size;have h4:=HS.out.size;show p < wr.heap.size
        omega))
       obtain ⟨hb0,hb2⟩:=bounds_few hbk;have hyn:ys.length=bk.length:=by rw [<- hy1,List.length_map]
       have HY3:=zh (hy3.shrink (Y:=No) (fun _ _ f=>f.elim));obtain ⟨vb,vo,vc,hvs,_⟩:=HY3.out.shape (by omega);cases hvs
       have HAK:=zh (HAT.out _ hbk);have HO2:=zh (own_keepM HO.out hm2 (fun _ _ f=>f));have HE2:=zh (show ∀ x ∈ bs,Sl W2 (fun p=>p=sb) 9 x.pv x.b.v.pre.length (strs x.b.v.pre) from fun x hx=>(HE.out x hx).kn hm2);have HM2:=zh (HM.out.trans hm2);have HY1:=zh hy1;obtain ⟨i0,hi0,hz0,hz1,hz2⟩:=info_parts info_bound;have hlen5:(ys.flatMap BndX.cells).length=bk.length*5:=by rw [flat_length BndX.cells_length,hyn]
       have hbase:=HM2.out.size;clear hy1 hy2 hy3 hbk hm2 HAT HAF HWO hcell HO HE HM HGL hwk;gi_wp2_with (gi_at_builtin;refine wpListIn_append_own _ rfl _ _ 175 rfl W1.heap.size 237 i0 (.agg #[.string ⟨#[]⟩,.int .i64 0,.int .i64 0,.int .i64 0,.slice none 0 0]) 5 64 underlying175 hi0 hz0 hz1 hz2 rfl (by decide) _ _ _ rfl HO2.out ⟨vb,vo,none⟩ bk.length vc (ys.flatMap BndX.cells) rfl hlen5 (fun j u hu=>by
        rw [Addr.add_lit];have hj:j < (ys.flatMap BndX.cells).length:=(List.getElem?_eq_some_iff.1 hu).1;rw [Sl.cell HY3.out hj];exact hu) (bnd_one HY2.out) ?_ ?_ hbase ?_)
       ·unfold maxLen;omega
       ·omega
       intro v' W3 hown3 hg3 _;have HM3:=zh (show Mod (fun q=>(Value.slice ua bs.length uc).ownBlock=some q) W2 W3 from Mod.of_grown hg3 (fun q e _=>e));have HOB:=zh (fun q (e:(Value.slice ua bs.length uc).ownBlock=some q)=>own_block_heap HO2.out e);have HE3:=zh (show ∀ x ∈ bs++ys,Sl W3 (fun p=>p=sb) 9 x.pv x.b.v.pre.length (strs x.b.v.pre) from fun x hx=>by
        have hk:Sl W2 (fun p=>p=sb) 9 x.pv x.b.v.pre.length (strs x.b.v.pre):=(List.mem_append.1 hx).elim (HE2.out x) (HY2.out x);refine hk.keep HM3.out (fun q cur fz e _ hh=>?_)
        obtain ⟨_,cur',hh2⟩:=HOB.out q e;rw [hh] at hh2;cases hh2)
       have HM4:=zh (HM2.out.then HM3.out (S:=No) (fun i hi e=>by have:=(HOB.out i e).1;omega));have HO3:=zh hown3;clear hown3 hg3;obtain ⟨za,zc,rfl⟩:=own_len HO3.out;gi_wp2
       go_roundw
       case rel=>exact ⟨k+1,bs++ys,bss++[bk],by omega,rfl,HAK.out,by rw [List.map_append,HBS.out,HY1.out];simp,by rw [List.length_append];omega,by rw [List.length_append,hyn,List.flatMap_append];exact HO3.out,HE3.out,HM4.out⟩
       case measure=>show ws.length - ((k:Int)+1).toNat < ws.length - (k:Int).toNat;omega
     ·obtain rfl:k=ws.length:=by omega
      have hE:ws.take ws.length=ws:=List.take_length;rw [hE] at HA;have hk1:¬ (ws.length:Int) < (ws.length:Int):=by omega
      clear hE hlt;have HLY:=zh (show listL y=some bss.flatten by rw [HLL2.out,HA.out];rfl);have ho:=(HM1.out.trans HM.out).keep HS.out.out (fun f=>f);have o1:=cell_ofA ho (i:=1) rfl;have f1:=frozen_of 1 ho;have hmA:=(HM1.out.trans HM.out).alloc (.cells #[.slice ua bs.length uc] 175);have HOV:=zh (own_keepM HS.out.own hmA (fun _ _ f=>f));have HMA:=zh hmA;have hbase:w4.heap.size<=(wr.alloc (.cells #[.slice ua bs.length uc] 175)).heap.size:=Nat.le_trans HS.out.size hmA.size;have HNEW:=zh (show BndsX (fun p=>p=sb) (wr.alloc (.cells #[.slice ua bs.length uc] 175)) (.slice ua bs.length uc) bss.flatten from
       ⟨bs,HBS.out,fun x hx=>(HE.out x hx).keep (S:=No) ((Mod.refl No wr).alloc _) (fun _ _ _ f=>f.elim),by
        rw [<- HBS.out,List.length_map];refine Sl.keep (S:=No) (Sl.of_own (X:=fun p=>p=sb) HO.out (fun q hq e=>?_)) ((Mod.refl No wr).alloc _) (fun _ _ _ f=>f.elim)
        have h1:=HPL.out.p4.2.1;have h3:=HM1.out.size;have h4:=HS.out.size;omega⟩)
      obtain ⟨i1,hi1,hy0,hy1,hy2⟩:=info_parts info_bounds;clear hmA HO HE HBS HA;gi_wp2_with (gi_at_builtin;refine wpListIn_append_own _ rfl _ _ 94 rfl w4.heap.size 175 i1 (.slice none 0 0) 1 24 underlying94 hi1 hy0 hy1 hy2 rfl (by decide) _ _ _ rfl HOV.out ⟨wr.heap.size,0,none⟩ 1 1 [.slice ua bs.length uc] rfl rfl (fun j u hu=>by
        have hj:j < 1:=(List.getElem?_eq_some_iff.1 hu).1;obtain rfl:j=0:=by omega
        rw [Addr.add_lit];have:=heap_alloc_new wr (.cells #[.slice ua bs.length uc] 175);rw [cell_ofA this (i:=0) rfl];exact hu) (by simp [Value.oneCell']) ?_ ?_ hbase ?_)
      ·unfold maxLen;omega
      ·omega
      intro v' W3 hown3 hg3 _;have HFIN:=zh (fun v'' (e:v'=v'')=>HS.out.more (v':=v'') HMA.out HPL.out HLY.out hx7 hg3 (e ▸ hown3) HNEW.out);have ho3:W3.heap[ob]? = some (.cells #[.bool false,.slice oa xs.length oc] 96 (0,0)) :=
       (Mod.of_grown (S:=fun q=>(Value.slice oa xs.length oc).ownBlock=some q) hg3 (fun q e _=>e)).keep (heap_alloc_old _ ho) (fun e=>by have h1:=(own_block_heap HOV.out e).1;have h2:=HPL.out.p3.1;have h3:=HPL.out.p4.1;omega)
      have o3:=cell_ofA ho3 (i:=1) rfl;have f3:=frozen_of 1 ho3;obtain ⟨za,zc,hz⟩:=own_len hown3;have HF2:=zh (HFIN.out _ hz);clear HFIN hown3 hg3 ho3 o1 f1 ho HNEW HOV HMA hbase;subst hz;gi_wp2
      exact ⟨HF2.out.1,_,_,HF2.out.2⟩
  case done =>
   rintro D W hD ⟨ov,xs,hs⟩ hK;have HG:=zh (show spanL l=some ⟨false,xs.map OrX.l⟩ from span_good hst hs.few hs.all);obtain ⟨oa,oc,rfl⟩:=own_len hs.own;have HD:=zh (hs.done HPL.out hD hK);have c2:=cell_ofA hs.res2 (i:=0) rfl;have c2':=cell_ofA hs.res2 (i:=1) rfl;have c3:=cell_ofA hs.res3 (i:=0) rfl;have f2:=frozen_of 0 hs.res2;have f2':=frozen_of 1 hs.res2;have f3:=frozen_of 0 hs.res3;have o0:=cell_ofA hs.out (i:=0) rfl;have o1:=cell_ofA hs.out (i:=1) rfl;clear hs hK;gi_wp2
   refine ⟨by simp,.inl ⟨_,_,rfl,run_takeDeferred HD.out.1,?_⟩⟩
   have hl2:=load_span HD.out.2.1;have hl3:=load_errno HD.out.2.2.1;exact ⟨.tuple #[.agg #[.bool false,.slice oa xs.length oc],.int .i64 0],by simp [results,results115,asAddr,hl2,hl3],fin hR ⟨.inr ⟨_,_,HG.out,rfl,HD.out.2.2.2.1⟩,HD.out.2.2.2.2⟩⟩
  case stop =>
   rintro D pre W hD hpre hx hK;have HG:=zh (show spanL l=none from span_bad hst hpre hx.bad);have HD:=zh (hx.done HPL.out hD);have HK:=zh hK;clear hx hK;gi_wp2
   refine ⟨by simp,.inl ⟨_,_,rfl,run_takeDeferred HK.out,?_⟩⟩
   have hl2:=load_span HD.out.1;have hl3:=load_errno HD.out.2.1;exact ⟨.tuple #[.agg #[.bool false,.slice none 0 0],.int .i64 61],by simp [results,results115,asAddr,hl2,hl3],fin hR ⟨.inl ⟨HG.out,rfl⟩,HD.out.2.2⟩⟩
end Go.Proofs.YticfcmdjplmaeaaGreatDoor
namespace Go.Proofs.YticfcmdjplmaeaaGreatDoor
open _root_.Go.Proofs.Tryz
open Go.RowKit
end Go.Proofs.YticfcmdjplmaeaaGreatDoor
