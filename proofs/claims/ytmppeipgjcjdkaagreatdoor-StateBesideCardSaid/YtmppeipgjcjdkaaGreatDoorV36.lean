/-
  Layers 0 to 14: helps of the laws of indexes. No statement is proved here; no condition.
-/
import Derived.Test.YtmppeipgjcjdkaaGreatDoorV35
import Derived.Test.YtmppeipgjcjdkaaGreatDoorV05
import Derived.Test.YtmppeipgjcjdkaaGreatDoorV24
namespace Go.Proofs.YtmppeipgjcjdkaaGreatDoor
open _root_.Go.Proofs.Tryz
open Go.RowKit Go.Shelf
attribute [local go_sem] Oper.semAt_some
theorem info_strP:(prog.info? 9).map (fun i=>(i.zero,i.size,i.bytes))=some (some (.string ⟨#[]⟩),1,16):=by kernel_rfl
def wkE (l:List UInt8):List (List UInt8) ⊕ Nat:=if l.head? = some 47 then .inr 51 else match partsG [] (splitC 47 l) with
 | .inr e=>.inr e
 | .inl out=>if 12 < out.length then .inr 50 else .inl out
theorem own_cut {w:World} {base:Nat} {e:TypeId} {a:Option Addr} {n c j:Nat} {xs:List Value} (h:w.ownsRow base e 1 (.slice a n c) n xs) (hj:j<=n):w.ownsRow base e 1 (.slice a j c) j (xs.take j):=by
 obtain ⟨h1,⟨hv,hn⟩ | ⟨g,cap,cur,hv,hg,hh,r1,r2,r3,r4⟩⟩:=h
 ·cases hv
  obtain rfl:j=0:=by omega
  exact ⟨by simp,.inl ⟨rfl,rfl⟩⟩
 ·cases hv
  refine ⟨by rw [List.length_take,h1];omega,.inr ⟨g,_,cur,rfl,hg,hh,by omega,r2,r3,?_⟩⟩
  rw [<- r4,List.take_take]
  congr 1
  omega
structure WkI (w0:World) (B bl sb:Nat) (pre:List (List UInt8)) (W:World) (lv:Value) (xs:List (List UInt8)):Prop where
 all:∀ rest,partsG [] (pre++rest)=partsG xs rest
 few:xs.length<=pre.length
 box:W.heap[bl]? = some (.cells #[lv] 43 (0,0))
 own:W.ownsRow B 9 1 lv xs.length (strs xs)
 res4:W.heap[bl+1]? = some (.cells #[.slice none 0 0] 43 (0,0))
 res5:W.heap[bl+2]? = some (.cells #[.int .i64 0] 26 (0,0))
 stay:W.heap[bl+3]? = some (.cells #[.int .i64 0] 3 (0,0))
 mod:Mod No w0 W
 size:B<=W.heap.size
theorem own_block_heapP {w:World} {base:Nat} {e:TypeId} {size:Nat} {v:Value} {n:Nat} {xs:List Value} (h:w.ownsRow base e size v n xs) {k:Nat} (hk:v.ownBlock=some k):base<=k/\∃ cur,w.heap[k]? = some (.cells cur e (0,0)):=by
 obtain ⟨_,⟨hv,_⟩ | ⟨g,cap,cur,hv,hg,hh,r⟩⟩:=h
 ·rw [hv] at hk;cases hk
 ·rw [hv] at hk;cases hk;exact ⟨hg,_,hh⟩
theorem WkI.turn {w0:World} {B bl sb:Nat} {pre:List (List UInt8)} {W W':World} {lv:Value} {xs:List (List UInt8)} (h:WkI w0 B bl sb pre W lv xs) (hm:TurnS B sb W W')
  (h1:bl+3 < sb/\sb < B) (h3:w0.heap.size<=bl):WkI w0 B bl sb pre W' lv xs:=by
 refine ⟨h.all,h.few,hm.keep h.box ?_,own_keepM h.own hm ?_,hm.keep h.res4 ?_,hm.keep h.res5 ?_,hm.keep h.stay ?_,h.mod.then hm ?_,Nat.le_trans h.size hm.size⟩
 ·rintro (e | ⟨e,_⟩) <;> omega
 ·intro k hk hs
  obtain ⟨hb,cur,hh⟩:=own_block_heapP h.own hk
  rcases hs with e | ⟨_,o,ho,hc⟩
  ·omega
  ·rw [hh] at ho;cases ho;cases hc
 ·rintro (e | ⟨e,_⟩) <;> omega
 ·rintro (e | ⟨e,_⟩) <;> omega
 ·rintro (e | ⟨e,_⟩) <;> omega
 ·intro i hi hs
  rcases hs with e | ⟨e,_⟩ <;> omega
structure WkX (w0:World) (bl:Nat) (pre:List (List UInt8)) (W:World) (c:Nat):Prop where
 bad:∀ rest,partsG [] (pre++rest)=.inr c
 res4:W.heap[bl+1]? = some (.cells #[.slice none 0 0] 43 (0,0))
 res5:W.heap[bl+2]? = some (.cells #[.int .i64 (c:Int)] 26 (0,0))
 mod:Mod No w0 W
theorem WkX.turn {w0:World} {B bl sb c:Nat} {pre:List (List UInt8)} {W W':World} (h:WkX w0 bl pre W c) (hm:TurnS B sb W W') (h1:bl+3 < sb/\sb < B) (h3:w0.heap.size<=bl):WkX w0 bl pre W' c:=by
 refine ⟨h.bad,hm.keep h.res4 ?_,hm.keep h.res5 ?_,h.mod.then hm ?_⟩
 ·rintro (e | ⟨e,_⟩) <;> omega
 ·rintro (e | ⟨e,_⟩) <;> omega
 ·intro i hi hs
  rcases hs with e | ⟨e,_⟩ <;> omega
abbrev wkBad (W:World) (bl c:Nat):World:=(W.setCell ⟨bl+1,0,none⟩ (.slice none 0 0)).setCell ⟨bl+2,0,none⟩ (.int .i64 (c:Int))
theorem WkI.fail {w0:World} {B bl eb sb nb c:Nat} {pre pre':List (List UInt8)} {W:World} {lv:Value} {xs:List (List UInt8)} (h:WkI w0 B bl sb pre W lv xs)
  (hp:w0.heap.size<=bl/\bl+3 < eb/\bl+3 < sb/\bl+3 < nb/\sb < B) (hbad:∀ rest,partsG [] (pre'++rest)=.inr c):RdS B eb sb nb W (wkBad W bl c)/\WkX w0 bl pre' (wkBad W bl c) c:=by
 have hS:Mod (fun p=>p=bl+1\/p=bl+2) W (wkBad W bl c):=((Mod.refl _ W).setCell (fun _=>.inl rfl) _).setCell (fun _=>.inr rfl) _
 have k2:(wkBad W bl c).heap[bl+1]? = some (.cells #[.slice none 0 0] 43 (0,0)):=by
  rw [heap_setCell_ne _ (by dsimp only;omega),heap_setCell h.res4];rfl
 have k3:(wkBad W bl c).heap[bl+2]? = some (.cells #[.int .i64 (c:Int)] 26 (0,0)):=by
  rw [heap_setCell ((heap_setCell_ne _ (by dsimp only;omega)).trans h.res5)];rfl
 exact ⟨⟨fun k o hk ho _=>hS.keep ho (by omega),fun z hz=>hz.keep hS (by omega) (by omega) (by omega)⟩,hbad,k2,k3,h.mod.then hS (fun i hi e=>by omega)⟩
theorem WkI.skip {w0:World} {B bl sb:Nat} {pre:List (List UInt8)} {y:List UInt8} {W:World} {lv:Value} {xs:List (List UInt8)} (h:WkI w0 B bl sb pre W lv xs) (hy:y=[]\/y=[46]):WkI w0 B bl sb (pre++[y]) W lv xs :=
 ⟨fun rest=>by rw [List.append_assoc,h.all];show partsG xs (y :: rest)=_;rw [partsG,if_pos hy],by rw [List.length_append];have:=h.few;omega,h.box,h.own,h.res4,h.res5,h.stay,h.mod,h.size⟩
theorem WkI.back {w0:World} {B bl eb sb nb:Nat} {pre:List (List UInt8)} {W:World} {a:Option Addr} {cp:Nat} {xs:List (List UInt8)} (h:WkI w0 B bl sb pre W (.slice a xs.length cp) xs) (hx:xs ≠ [])
  (hp:w0.heap.size<=bl/\bl+3 < eb/\bl+3 < sb/\bl+3 < nb/\sb < B):RdS B eb sb nb W (W.setCell ⟨bl,0,none⟩ (.slice a (xs.length - 1) cp))/\WkI w0 B bl sb (pre++[[46,46]]) (W.setCell ⟨bl,0,none⟩ (.slice a (xs.length - 1) cp)) (.slice a (xs.length - 1) cp) xs.dropLast:=by
 have hS:Mod (fun p=>p=bl) W (W.setCell ⟨bl,0,none⟩ (.slice a (xs.length - 1) cp)):=Mod.cell1 W bl 0 _
 refine ⟨⟨fun k o hk ho _=>hS.keep ho (by omega),fun z hz=>hz.keep hS (by omega) (by omega) (by omega)⟩,⟨fun rest=>?_,?_,by rw [heap_setCell h.box];rfl,?_,hS.keep h.res4 (by omega),hS.keep h.res5 (by omega),hS.keep h.stay (by omega),h.mod.then hS (fun i hi e=>by omega),Nat.le_trans h.size hS.size⟩⟩
 ·rw [List.append_assoc,h.all]
  show partsG xs ([46,46] :: rest)=_
  rw [partsG,if_neg (by simp),if_pos rfl,if_neg hx]
 ·rw [List.length_dropLast,List.length_append];have:=h.few;omega
 ·have h1:=own_cut (j:=xs.length - 1) h.own (by omega)
  have e:(strs xs).take (xs.length - 1)=strs xs.dropLast:=by
   rw [List.dropLast_eq_take];unfold strs;rw [List.map_take]
  rw [e] at h1
  rw [List.length_dropLast]
  exact own_keepM h1 hS (fun k hk e2=>by have h2:=(own_block_heapP h1 hk).1;have h3:k=bl:=e2;omega)
theorem WkI.more {w0:World} {B bl eb sb nb:Nat} {pre:List (List UInt8)} {W WA W3:World} {lv v':Value} {xs:List (List UInt8)} {y:List UInt8} (h:WkI w0 B bl sb pre W lv xs) (hm:Mod No W WA)
  (hp:w0.heap.size<=bl/\bl+3 < eb/\bl+3 < sb/\bl+3 < nb/\sb < B) (he:eb < B/\nb < B) (h1:¬ (y=[]\/y=[46])) (h2:y ≠ [46,46]) (hy:partB y=true) (hg:WA.grownBy W3 lv.ownBlock) (hown:W3.ownsRow B 9 1 v' (xs.length+1) (strs xs++[strV y])) :
  RdS B eb sb nb W (W3.setCell ⟨bl,0,none⟩ v')/\WkI w0 B bl sb (pre++[y]) (W3.setCell ⟨bl,0,none⟩ v') v' (xs++[y]):=by
 have hgm:Mod (fun q=>lv.ownBlock=some q) WA W3:=Mod.of_grown hg (fun q e _=>e)
 have hob:∀ q,lv.ownBlock=some q->B<=q/\(∃ cur,W.heap[q]? = some (.cells cur 9 (0,0))):=fun q e=>own_block_heapP h.own e
 have hS:Mod (fun p=>p=bl\/lv.ownBlock=some p) W (W3.setCell ⟨bl,0,none⟩ v'):=hm.no.trans ((hgm.weaken (fun _ _ e=>.inr e)).setCell (fun _=>.inl rfl) _)
 have hno:∀ k,k < B->k ≠ bl->¬ (k=bl\/lv.ownBlock=some k):=fun k hk hk2 e=>by
  rcases e with e | e
  ·exact hk2 e
  ·have:=(hob k e).1;omega
 have hb3:=hgm.keep (hm.keep h.box (fun f=>f)) (fun e=>by have:=(hob bl e).1;omega)
 refine ⟨⟨fun k o hk ho hc=>hS.keep ho (fun e=>?_),fun z hz=>hz.keep hS (hno _ he.1 (by omega)) (hno _ (by omega) (by omega)) (hno _ he.2 (by omega))⟩,⟨fun rest=>?_,?_,by rw [heap_setCell hb3];rfl,?_,hS.keep h.res4 (hno _ (by omega) (by omega)),hS.keep h.res5 (hno _ (by omega) (by omega)),hS.keep h.stay (hno _ (by omega) (by omega)),h.mod.then hS (fun i hi e=>?_),Nat.le_trans h.size hS.size⟩⟩
 ·rcases e with e | e
  ·omega
  ·obtain ⟨_,cur,hh⟩:=hob k e
   rw [hh] at ho;cases ho;cases hc
 ·rw [List.append_assoc,h.all]
  show partsG xs (y :: rest)=_
  rw [partsG,if_neg h1,if_neg h2,if_pos hy]
 ·simp only [List.length_append,List.length_singleton];have:=h.few;omega
 ·rw [List.length_append,show strs (xs++[y])=strs xs++[strV y] by simp [strs]]
  exact own_keepM hown (Mod.cell1 W3 bl 0 v') (fun k e e2=>by have h2:=(own_block_heapP hown e).1;have h3:k=bl:=e2;omega)
 ·rcases e with e | e
  ·omega
  ·have:=(hob i e).1;omega
abbrev wkFin (W:World) (bl:Nat) (v:Value) (c:Int):World:=(W.setCell ⟨bl+1,0,none⟩ v).setCell ⟨bl+2,0,none⟩ (.int .i64 c)
theorem WkI.done {w0:World} {B bl sb D:Nat} {c:Int} {pre:List (List UInt8)} {W:World} {lv:Value} {xs:List (List UInt8)} (h:WkI w0 B bl sb pre W lv xs) (hB:w0.heap.size<=bl/\bl+3 < B) (hD:B<=D) (hK:W.heap[D]? = some (.deferred (some []))) (v:Value) :
  (wkFin W bl v c).heap[D]? = some (.deferred (some []))/\((wkFin W bl v c).putObj D (.deferred none)).heap[bl+1]? = some (.cells #[v] 43 (0,0)) ∧
  ((wkFin W bl v c).putObj D (.deferred none)).heap[bl+2]? = some (.cells #[.int .i64 c] 26 (0,0))/\Sl ((wkFin W bl v c).putObj D (.deferred none)) No 9 lv xs.length (strs xs)/\Mod No w0 ((wkFin W bl v c).putObj D (.deferred none)):=by
 have hS0:Mod (fun p=>p=bl+1\/p=bl+2) W (wkFin W bl v c):=((Mod.refl _ W).setCell (fun _=>.inl rfl) _).setCell (fun _=>.inr rfl) _
 have k2:(wkFin W bl v c).heap[bl+1]? = some (.cells #[v] 43 (0,0)):=by
  rw [heap_setCell_ne _ (by dsimp only;omega),heap_setCell h.res4];rfl
 have k3:(wkFin W bl v c).heap[bl+2]? = some (.cells #[.int .i64 c] 26 (0,0)):=by
  rw [heap_setCell ((heap_setCell_ne _ (by dsimp only;omega)).trans h.res5)];rfl
 have hS:Mod (fun p=>p=bl+1\/p=bl+2\/p=D) W ((wkFin W bl v c).putObj D (.deferred none)) :=
  (hS0.weaken (fun _ _ e=>by omega)).trans (Mod.putObjS (S:=fun p=>p=bl+1\/p=bl+2\/p=D) _ (.inr (.inr rfl)) _)
 refine ⟨hS0.keep hK (by omega),(World.putObj_heap_other (by omega)).trans k2,(World.putObj_heap_other (by omega)).trans k3,?_,h.mod.then hS (fun i hi e=>by omega)⟩
 refine (Sl.of_own (X:=No) h.own (fun _ _ f=>f)).keep hS fun k cur fz hk _ hc=>?_
 rcases hk with rfl | rfl | rfl
 ·rw [h.res4] at hc;cases hc
 ·rw [h.res5] at hc;cases hc
 ·rw [hK] at hc;cases hc
theorem WkX.done {w0:World} {B bl D c:Nat} {pre:List (List UInt8)} {W:World} (h:WkX w0 bl pre W c) (hB:w0.heap.size<=bl/\bl+3 < B) (hD:B<=D) :
  (W.putObj D (.deferred none)).heap[bl+1]? = some (.cells #[.slice none 0 0] 43 (0,0)) ∧
  (W.putObj D (.deferred none)).heap[bl+2]? = some (.cells #[.int .i64 (c:Int)] 26 (0,0))/\Mod No w0 (W.putObj D (.deferred none)) :=
 ⟨(World.putObj_heap_other (by omega)).trans h.res4,(World.putObj_heap_other (by omega)).trans h.res5,h.mod.then (Mod.putObjS (S:=fun p=>p=D) _ rfl _) (fun i hi e=>by omega)⟩
attribute [local go_sem] Oper.semAt_some
set_option maxRecDepth 100000 in
theorem load_strsV {w:World} {b:Nat} {v:Value} (h:w.heap[b]? = some (.cells #[v] 43 (0,0))) (hv:∃ a n c,v=.slice a n c) :
  (loadVar 43 ⟨b,0,none⟩).run prog w=.ok v w:=by
 obtain ⟨a,n,cp,rfl⟩:=hv
 have c:w.cell? ⟨b,0,none⟩=some (.slice a n cp):=cell_ofA h rfl
 go_simp
set_option maxRecDepth 100000 in
theorem load_errnoP {w:World} {b:Nat} {x:Int} (h:w.heap[b]? = some (.cells #[.int .i64 x] 26 (0,0))) :
  (loadVar 26 ⟨b,0,none⟩).run prog w=.ok (.int .i64 x) w:=by
 have c:w.cell? ⟨b,0,none⟩=some (.int .i64 x):=cell_ofA h rfl
 go_simp
def WkPost (w':World) (l:List UInt8) (e:Ending):Prop:=match wkE l with
 | .inr c=>e=.returned (.tuple #[.slice none 0 0,.int .i64 (c:Int)])
 | .inl out=>∃ v,e=.returned (.tuple #[v,.int .i64 0])/\Sl w' No 9 v out.length (strs out)
set_option maxRecDepth 100000 in
set_option maxHeartbeats 8000000 in
theorem walk_any (l:List UInt8) (hl:l.length<=1000000) (w:World) (hgl:Gl w) :
  Calls prog 182 #[.slice none 0 0,strV l] w fun e w'=>WkPost w' l e/\Mod No w w':=by
 refine calls_hide fun R hR=>?_
 refine (callsIn_wide (n:=9)).1 ?_
 refine callsIn_of_wp_marks func182 rfl trivial ?_
 simp only [ntmps182,List.size_toArray,List.length_cons,List.length_nil,Nat.reduceAdd,Nat.reduceSub,Array.replicate_succ,Array.replicate_zero,List.push_toArray,List.append_toArray,List.nil_append,List.cons_append]
 have HHP:=zh (fun W=>pref_any [47] l W)
 have HSQ:=zh (splitsqs_any l)
 unfold strV at *
 generalize hZ:(⟨l.toArray⟩:ByteArray)=Z at *
 gi_wp2
 obtain ⟨bl,hbl⟩:∃ g,g=w.heap.size:=⟨_,rfl⟩
 rw [<- hbl]
 rw [show bl+1+1+1=bl+3 from rfl,show bl+1+1=bl+2 from rfl]
 generalize hw1:World.alloc (World.alloc (World.alloc (World.alloc w _) _) _) _=w1
 have hb1:w1.heap[bl]? = some (.cells #[.slice none 0 0] 43 (0,0)):=by rw [<- hw1,hbl];exact heap_alloc_old _ (heap_alloc_old _ (heap_alloc_old _ (heap_alloc_new w _)))
 have hr4:w1.heap[bl+1]? = some (.cells #[.slice none 0 0] 43 (0,0)):=by rw [<- hw1,hbl];exact heap_alloc_old _ (heap_alloc_old _ (heap_at_new _ _ (by simp)))
 have hr5:w1.heap[bl+2]? = some (.cells #[.int .i64 0] 26 (0,0)):=by rw [<- hw1,hbl];exact heap_alloc_old _ (heap_at_new _ _ (by simp))
 have hsy:w1.heap[bl+3]? = some (.cells #[.int .i64 0] 3 (0,0)):=by rw [<- hw1,hbl];exact heap_at_new _ _ (by simp)
 have hm1:Mod No w w1:=by rw [<- hw1];exact ((((Mod.refl No w).alloc _).alloc _).alloc _).alloc _
 have hsz:w1.heap.size=bl+4:=by rw [<- hw1,hbl];simp
 clear hw1
 have HBL:=zh hbl
 have HM1:=zh hm1
 have HB1:=zh hb1
 have HR4:=zh hr4
 have HR5:=zh hr5
 have HSY:=zh hsy
 clear hbl hm1 hb1 hr4 hr5 hsy
 refine ⟨trivial,(callsIn_wide.2 (HHP.out w1)).mono ?_⟩
 rintro e w2 ⟨rfl,rfl⟩
 clear HHP
 have HWK:=zh (show wkE l=if l.head? = some 47 then .inr 51 else match partsG [] (splitC 47 l) with
  | .inr e=>.inr e
  | .inl out=>if 12 < out.length then .inr 50 else .inl out from rfl)
 rcases hpf:pref [47] l with _ | _
 ·have HNH:=zh (show ¬ l.head? = some 47 from fun e=>by
   unfold pref at hpf
   rw [decide_eq_false_iff_not] at hpf
   refine hpf ?_
   cases l with
   | nil=>cases e
   | cons c r=>simp at e;rw [e];rfl)
  clear hpf
  gi_wp2
  refine ⟨trivial,(callsIn_wide.2 (HSQ.out w2)).mono ?_⟩
  rintro e w3 ⟨eb,sb,nb,rfl,hB,hm3,hge⟩
  have HB:=zh hB
  have HM3:=zh hm3
  have HGE:=zh hge
  clear hB hm3 hge HSQ
  gi_wp2
  have HI0:=zh (show WkI w w3.heap.size bl sb [] w3 (.slice none 0 0) [] from ⟨fun rest=>rfl,by simp,HM3.out.keep HB1.out (fun f=>f),⟨rfl,.inl ⟨rfl,rfl⟩⟩,HM3.out.keep HR4.out (fun f=>f),HM3.out.keep HR5.out (fun f=>f),HM3.out.keep HSY.out (fun f=>f),HM1.out.trans HM3.out,Nat.le_refl _⟩)
  have HPL:=zh (show (w.heap.size<=bl/\bl+3 < eb/\bl+3 < sb/\bl+3 < nb/\sb < w3.heap.size)/\(eb < w3.heap.size/\nb < w3.heap.size) from
   ⟨⟨by have:=HBL.out;omega,by have:=HGE.out;omega,by have:=HGE.out;omega,by have:=HGE.out;omega,lt_of_heap HB.out.s⟩,lt_of_heap HB.out.e,lt_of_heap HB.out.n⟩)
  have HX:=zh (show ∀ W,Mod No w W->Gl W from fun W hm=>hgl.stay hm (fun f=>f))
  clear HB1 HR4 HR5 HSY HM1 HM3 HBL HGE hsz hgl
  refine range_sqs hl 9 rfl HB.out (fun pre W=>∃ lv xs,WkI w w3.heap.size bl sb pre W lv xs) (fun pre W=>∃ c,WkX w bl pre W c)
   (fun pre W W' ⟨lv,xs,h⟩ hm=>⟨lv,xs,h.turn hm ⟨HPL.out.1.2.2.1,HPL.out.1.2.2.2.2⟩ HPL.out.1.1⟩)
   (fun pre W W' ⟨c,h⟩ hm=>⟨c,h.turn hm ⟨HPL.out.1.2.2.1,HPL.out.1.2.2.2.2⟩ HPL.out.1.1⟩)
   (fun pre W ⟨lv,xs,h⟩=>HX.out _ h.mod) ⟨_,_,HI0.out⟩
   (fun y=>{ tmps:=#[.slice none 0 0,.string Z,.pointer (some ⟨bl,0,none⟩),undef,.pointer (some ⟨bl+1,0,none⟩),.pointer (some ⟨bl+2,0,none⟩),.pointer (some ⟨bl+3,0,none⟩),strV y,undef,.slice none 0 0,.int .i64 0,.string Z,.bool false,.string Z,.func (.func 309) #[] #[.pointer (some ⟨eb,0,none⟩),.pointer (some ⟨sb,0,none⟩),.pointer (some ⟨nb,0,none⟩)],strV y,undef,undef,undef,undef,undef,undef,undef,undef,undef,undef,undef,undef,undef,undef,undef,undef,undef,undef,undef,undef,undef,undef,undef,undef,undef,undef,undef,undef],defers:=[] }) ?assign ?body ?done ?stop
  case assign =>
   intro lp x W K hK
   gi_wp2
   exact hK
  case body =>
   rintro lp pre y W ⟨lv,xs,hs⟩ hpre
   have hyl:y.length<=1000000:=Nat.le_trans (splitC_mem_le 47 l y (hpre.subset (by simp))) hl
   have hpn:xs.length<=1000001:=by
    have h1:=hs.few
    have h2:=hpre.length_le
    have h3:=splitC_length_le 47 l
    rw [List.length_append] at h2
    omega
   have HS:=zh hs
   have hT:=str_list y
   have HPT:=zh (fun W=>part_any y hyl W)
   obtain ⟨la,lc,rfl⟩:=own_len hs.own
   have c0:=cell_ofA hs.box (i:=0) rfl
   have c4:=cell_ofA hs.res4 (i:=0) rfl
   have c5:=cell_ofA hs.res5 (i:=0) rfl
   have c6:=cell_ofA hs.stay (i:=0) rfl
   have f0:=frozen_of 0 hs.box
   have f4:=frozen_of 0 hs.res4
   have f5:=frozen_of 0 hs.res5
   clear hs hR HI0
   unfold strV at *
   generalize hYY:(⟨y.toArray⟩:ByteArray)=Y at *
   have HYY:=zh (show strV y=.string Y by unfold strV;rw [hYY])
   clear hYY
   by_cases hy0:y=[]
   ·have HSK:=zh (HS.out.skip (y:=y) (.inl hy0))
    subst hy0
    clear c4 c5 c6 f0 f4 f5 c0 HPT
    gi_wp2
    exact ⟨⟨fun k o _ ho _=>ho,fun z hz=>hz⟩,_,_,HSK.out⟩
   have q0:y.isEmpty=false:=by simpa using hy0
   by_cases hy1:y=[46]
   ·have HSK:=zh (HS.out.skip (y:=y) (.inr hy1))
    subst hy1
    clear c4 c5 c6 f0 f4 f5 c0 HPT
    gi_wp2
    exact ⟨⟨fun k o _ ho _=>ho,fun z hz=>hz⟩,_,_,HSK.out⟩
   have q1:(y == [46])=false:=by simpa using hy1
   by_cases hy2:y=[46,46]
   ·subst hy2
    by_cases hx:xs=[]
    ·have HFL:=zh (HS.out.fail (eb:=eb) (nb:=nb) (c:=51) (pre':=pre++[[46,46]]) HPL.out.1 (fun rest=>by
      rw [List.append_assoc,HS.out.all,hx]
      show partsG [] ([46,46] :: rest)=_
      rw [partsG,if_neg (by simp),if_pos rfl,if_pos rfl]))
     have hxn:xs.length=0:=by rw [hx];rfl
     rw [hxn] at c0
     clear hx hpn HPT
     gi_wp2
     exact ⟨HFL.out.1,51,HFL.out.2⟩
    ·have hxl:0 < xs.length:=List.length_pos_iff.2 hx
     have hz:((xs.length:Int) == 0)=false:=by simp;omega
     have hlc:xs.length<=lc:=by
      obtain ⟨-,⟨hv,hn⟩ | ⟨g,cap,cur,hv,-,-,h1,-⟩⟩:=HS.out.own
      ·omega
      ·cases hv;exact h1
     obtain ⟨lg,hlg⟩:∃ g,la=some ⟨g,0,none⟩:=by
      obtain ⟨-,⟨hv,hn⟩ | ⟨g,cap,cur,hv,-⟩⟩:=HS.out.own
      ·omega
      ·cases hv;exact ⟨g,rfl⟩
     subst hlg
     have HBK:=zh (HS.out.back (eb:=eb) (nb:=nb) hx HPL.out.1)
     obtain ⟨n,hn⟩:∃ n,xs.length=n+1:=⟨xs.length - 1,by omega⟩
     rw [hn] at c0 hz hlc HBK
     have h1:(0:Int)<=(n:Int):=Int.natCast_nonneg _
     have h2:(n:Int)<=(lc:Int):=by omega
     have h3:((n+1:Nat):Int) - 1=(n:Int):=by omega
     clear c4 c5 hx HPT hxl
     gi_wp2
     exact ⟨HBK.out.1,_,_,HBK.out.2⟩
   have q2:(y == [46,46])=false:=by simpa using hy2
   gi_wp2
   refine ⟨trivial,(CallsIn.inRound lp (callsIn_wide.2 (HPT.out W))).mono ?_⟩
   rintro e W1 ⟨rfl,rfl⟩
   clear HPT
   cases hpy:partB y with
   | false =>
    have HFL:=zh (HS.out.fail (eb:=eb) (nb:=nb) (c:=50) (pre':=pre++[y]) HPL.out.1 (fun rest=>by
     rw [List.append_assoc,HS.out.all]
     show partsG xs (y :: rest)=_
     rw [partsG,if_neg (by rintro (h | h);exact hy0 h;exact hy1 h),if_neg hy2,if_neg (by rw [hpy];decide)]))
    clear hpy c0 c6 f0 hT q0 q1 q2
    gi_wp2
    exact ⟨HFL.out.1,50,HFL.out.2⟩
   | true =>
    obtain ⟨i1,hi1,hz0,hz1,hz2⟩:=info_parts info_strP
    have hmA:Mod No W1 (W1.alloc (.cells #[.string Y] 9)):=(Mod.refl No W1).alloc _
    have HOV:=zh (own_keepM HS.out.own hmA (fun _ _ f=>f))
    have HMA:=zh hmA
    have hbase:w3.heap.size<=(W1.alloc (.cells #[.string Y] 9)).heap.size:=Nat.le_trans HS.out.size hmA.size
    have HYV:=zh (show strV y=.string Y from HYY.out)
    have HPY:=zh hpy
    clear hpy c4 c5 c6 f4 f5 hT q0 q1 q2 hmA
    gi_wp2_with (gi_at_builtin;refine wpListIn_append_own _ rfl _ _ 43 rfl w3.heap.size 9 i1 (.string ⟨#[]⟩) 1 16 underlying43 hi1 hz0 hz1 hz2 rfl (by decide) _ _ _ rfl HOV.out ⟨W1.heap.size,0,none⟩ 1 1 [.string Y] rfl rfl (fun j u hu=>by
        have hj:j < 1:=(List.getElem?_eq_some_iff.1 hu).1
        obtain rfl:j=0:=by omega
        rw [Addr.add_lit]
        have:=heap_alloc_new W1 (.cells #[.string Y] 9)
        rw [cell_ofA this (i:=0) rfl];exact hu) (by simp [Value.oneCell']) ?_ ?_ hbase ?_)
    ·unfold maxLen;omega
    ·omega
    intro v' W3 hown3 hg3 _
    have HFIN:=zh (fun v'' (e:v'=v'')=>HS.out.more (eb:=eb) (nb:=nb) (v':=v'') HMA.out HPL.out.1 HPL.out.2 (by rintro (h | h);exact hy0 h;exact hy1 h) hy2 HPY.out hg3 (by rw [HYV.out];exact e ▸ hown3))
    have hb3:W3.heap[bl]? = some (.cells #[.slice la xs.length lc] 43 (0,0)) :=
     (Mod.of_grown (S:=fun q=>(Value.slice la xs.length lc).ownBlock=some q) hg3 (fun q e _=>e)).keep (heap_alloc_old _ HS.out.box) (fun e=>by have h1:=(own_block_heapP HOV.out e).1;have h2:=HPL.out.1;omega)
    have c3:=cell_ofA hb3 (i:=0) rfl
    have f3:=frozen_of 0 hb3
    obtain ⟨za,zc,hz⟩:=own_len hown3
    have HF2:=zh (HFIN.out _ hz)
    clear HFIN hown3 hg3 hb3 c0 f0 HOV HMA hbase
    subst hz
    gi_wp2
    exact ⟨HF2.out.1,_,_,HF2.out.2⟩
  case done =>
   rintro D W hD ⟨lv,xs,hs⟩ hK
   have HG:=zh (show partsG [] (splitC 47 l)=.inl xs from by have h:=hs.all [];rw [List.append_nil] at h;rw [h];rfl)
   obtain ⟨la,lc,rfl⟩:=own_len hs.own
   have HS:=zh hs
   have HK:=zh hK
   have c0:=cell_ofA hs.box (i:=0) rfl
   have c4:=cell_ofA hs.res4 (i:=0) rfl
   have c5:=cell_ofA hs.res5 (i:=0) rfl
   have f4:=frozen_of 0 hs.res4
   have f5:=frozen_of 0 hs.res5
   clear hs hK HI0
   by_cases h12:12 < xs.length
   ·have h13:(12:Int) < (xs.length:Int):=by omega
    have HE:=zh (show wkE l=.inr 50 by rw [HWK.out,if_neg HNH.out,HG.out];show (if 12 < xs.length then _ else _)=_;rw [if_pos h12])
    have HD:=zh (HS.out.done (c:=50) ⟨HPL.out.1.1,by have:=HPL.out;omega⟩ hD HK.out (.slice none 0 0))
    gi_wp2
    refine ⟨by simp,.inl ⟨_,_,rfl,run_takeDeferred HD.out.1,?_⟩⟩
    have hl2:=load_strsV HD.out.2.1 ⟨_,_,_,rfl⟩
    have hl3:=load_errnoP HD.out.2.2.1
    exact ⟨.tuple #[.slice none 0 0,.int .i64 50],by simp [results,results182,asAddr,hl2,hl3],fin hR ⟨by unfold WkPost;rw [HE.out];rfl,HD.out.2.2.2.2⟩⟩
   ·have h13:¬ (12:Int) < (xs.length:Int):=by omega
    have HE:=zh (show wkE l=.inl xs by rw [HWK.out,if_neg HNH.out,HG.out];show (if 12 < xs.length then _ else _)=_;rw [if_neg h12])
    have HD:=zh (HS.out.done (c:=0) ⟨HPL.out.1.1,by have:=HPL.out;omega⟩ hD HK.out (.slice la xs.length lc))
    gi_wp2
    refine ⟨by simp,.inl ⟨_,_,rfl,run_takeDeferred HD.out.1,?_⟩⟩
    have hl2:=load_strsV HD.out.2.1 ⟨_,_,_,rfl⟩
    have hl3:=load_errnoP HD.out.2.2.1
    exact ⟨.tuple #[.slice la xs.length lc,.int .i64 0],by simp [results,results182,asAddr,hl2,hl3],fin hR ⟨by unfold WkPost;rw [HE.out];exact ⟨_,rfl,HD.out.2.2.2.1⟩,HD.out.2.2.2.2⟩⟩
  case stop =>
   rintro D pre W hD hpre ⟨c,hx⟩ hK
   have HE:=zh (show wkE l=.inr c by
    obtain ⟨rest,hrest⟩:=hpre
    rw [HWK.out,if_neg HNH.out,<- hrest,hx.bad rest])
   have HD:=zh (hx.done (B:=w3.heap.size) ⟨HPL.out.1.1,by have:=HPL.out;omega⟩ hD)
   have HK:=zh hK
   clear hx hK HI0
   gi_wp2
   refine ⟨by simp,.inl ⟨_,_,rfl,run_takeDeferred HK.out,?_⟩⟩
   have hl2:=load_strsV HD.out.1 ⟨_,_,_,rfl⟩
   have hl3:=load_errnoP HD.out.2.1
   exact ⟨.tuple #[.slice none 0 0,.int .i64 (c:Int)],by simp [results,results182,asAddr,hl2,hl3],fin hR ⟨by unfold WkPost;rw [HE.out],HD.out.2.2⟩⟩
 ·have HH:=zh (show l.head? = some 47 by
   unfold pref at hpf
   rw [decide_eq_true_eq] at hpf
   cases l with
   | nil=>cases hpf
   | cons c r=>simp at hpf;simp [hpf])
  have f4:=frozen_of 0 HR4.out
  have f5:=frozen_of 0 HR5.out
  have c4:=cell_ofA HR4.out (i:=0) rfl
  have c5:=cell_ofA HR5.out (i:=0) rfl
  have HL4:=zh (show ((w2.setCell ⟨bl+1,0,none⟩ (.slice none 0 0)).setCell ⟨bl+2,0,none⟩ (.int .i64 51)).heap[bl+1]? = some (.cells #[.slice none 0 0] 43 (0,0)) by
   rw [heap_setCell_ne _ (by dsimp only;omega),heap_setCell HR4.out];rfl)
  have HL5:=zh (show ((w2.setCell ⟨bl+1,0,none⟩ (.slice none 0 0)).setCell ⟨bl+2,0,none⟩ (.int .i64 51)).heap[bl+2]? = some (.cells #[.int .i64 51] 26 (0,0)) by
   rw [heap_setCell ((heap_setCell_ne _ (by dsimp only;omega)).trans HR5.out)];rfl)
  have HMz:=zh (show Mod No w ((w2.setCell ⟨bl+1,0,none⟩ (.slice none 0 0)).setCell ⟨bl+2,0,none⟩ (.int .i64 51)) from
   (HM1.out.setCell (fun h=>by have:=HBL.out;dsimp only at h;omega) _).setCell (fun h=>by have:=HBL.out;dsimp only at h;omega) _)
  clear hpf
  gi_wp2
  have hl2:=load_strsV HL4.out ⟨_,_,_,rfl⟩
  have hl3:=load_errnoP HL5.out
  exact ⟨.tuple #[.slice none 0 0,.int .i64 51],by simp [results,results182,asAddr,hl2,hl3],fin hR ⟨by unfold WkPost;rw [HWK.out,if_pos HH.out];rfl,HMz.out⟩⟩
end Go.Proofs.YtmppeipgjcjdkaaGreatDoor
