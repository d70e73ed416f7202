/-
  Layers 0 to 14: helps of the laws of indexes. No statement is proved here; no condition.
-/
import Derived.Test.YtmppeipgjcjdkaaGreatDoorW34
import Derived.Test.YtmppeipgjcjdkaaGreatDoorW05
import Derived.Test.YtmppeipgjcjdkaaGreatDoorW24
namespace Go.Proofs.YtmppeipgjcjdkaaGreatDoor
open _root_.Go.Proofs.Tryz
open Go.RowKit Go.Shelf
attribute [local go_sem] Oper.semAt_some
theorem info_strP:(prog.info? 9).map (fun i=>(i.zero,i.size,i.bytes))=some (some (.string ⟨#[]⟩),1,16):=by kernel_rfl
def wkE (l:List UInt8):List (List UInt8) ⊕ Nat:=if l.head? = some 47 then .inr 51 else match partsG [] (splitC 47 l) with
 | .inr e=>.inr e
 | .inl out=>if 12 < out.length then .inr 50 else .inl out
theorem own_cut {w:World} {base:Nat} {e:TypeId} {a:Option Addr} {n c j:Nat} {xs:List Value} (h:w.ownsRow base e 1 (.slice a n c) n xs) (hj:j<=n):w.ownsRow base e 1 (.slice a j c) j (xs.take j):=by
 obtain ⟨h1,⟨hv,hn⟩ | ⟨g,cap,cur,hv,hg,hh,r1,r2,r3,r4⟩⟩:=h
 ·cases hv
  obtain rfl:j=0:=by omega
  exact ⟨by simp,.inl ⟨rfl,rfl⟩⟩
 ·cases hv
  refine ⟨by rw [List.length_take,h1];omega,.inr ⟨g,_,cur,rfl,hg,hh,by omega,r2,r3,?_⟩⟩
  rw [<- r4,List.take_take]
  congr 1
  omega
structure WkI (w0:World) (B bl sb:Nat) (pre:List (List UInt8)) (W:World) (lv:Value) (xs:List (List UInt8)):Prop where
 all:∀ rest,partsG [] (pre++rest)=partsG xs rest
 few:xs.length<=pre.length
 box:W.heap[bl]? = some (.cells #[lv] 43 (0,0))
 own:W.ownsRow B 9 1 lv xs.length (strs xs)
 res4:W.heap[bl+1]? = some (.cells #[.slice none 0 0] 43 (0,0))
 res5:W.heap[bl+2]? = some (.cells #[.int .i64 0] 26 (0,0))
 stay:W.heap[bl+3]? = some (.cells #[.int .i64 0] 3 (0,0))
 mod:Mod No w0 W
 size:B<=W.heap.size
theorem own_block_heapP {w:World} {base:Nat} {e:TypeId} {size:Nat} {v:Value} {n:Nat} {xs:List Value} (h:w.ownsRow base e size v n xs) {k:Nat} (hk:v.ownBlock=some k):base<=k/\∃ cur,w.heap[k]? = some (.cells cur e (0,0)):=by
 obtain ⟨_,⟨hv,_⟩ | ⟨g,cap,cur,hv,hg,hh,r⟩⟩:=h
 ·rw [hv] at hk;cases hk
 ·rw [hv] at hk;cases hk;exact ⟨hg,_,hh⟩
theorem WkI.turn {w0:World} {B bl sb:Nat} {pre:List (List UInt8)} {W W':World} {lv:Value} {xs:List (List UInt8)} (h:WkI w0 B bl sb pre W lv xs) (hm:TurnS B sb W W')
  (h1:bl+3 < sb/\sb < B) (h3:w0.heap.size<=bl):WkI w0 B bl sb pre W' lv xs:=by
 refine ⟨h.all,h.few,hm.keep h.box ?_,own_keepM h.own hm ?_,hm.keep h.res4 ?_,hm.keep h.res5 ?_,hm.keep h.stay ?_,h.mod.then hm ?_,Nat.le_trans h.size hm.size⟩
 ·rintro (e | ⟨e,_⟩) <;> omega
 ·intro k hk hs
  obtain ⟨hb,cur,hh⟩:=own_block_heapP h.own hk
  rcases hs with e | ⟨_,o,ho,hc⟩
  ·omega
  ·rw [hh] at ho;cases ho;cases hc
 ·rintro (e | ⟨e,_⟩) <;> omega
 ·rintro (e | ⟨e,_⟩) <;> omega
 ·rintro (e | ⟨e,_⟩) <;> omega
 ·intro i hi hs
  rcases hs with e | ⟨e,_⟩ <;> omega
structure WkX (w0:World) (bl:Nat) (pre:List (List UInt8)) (W:World) (c:Nat):Prop where
 bad:∀ rest,partsG [] (pre++rest)=.inr c
 res4:W.heap[bl+1]? = some (.cells #[.slice none 0 0] 43 (0,0))
 res5:W.heap[bl+2]? = some (.cells #[.int .i64 (c:Int)] 26 (0,0))
 mod:Mod No w0 W
theorem WkX.turn {w0:World} {B bl sb c:Nat} {pre:List (List UInt8)} {W W':World} (h:WkX w0 bl pre W c) (hm:TurnS B sb W W') (h1:bl+3 < sb/\sb < B) (h3:w0.heap.size<=bl):WkX w0 bl pre W' c:=by
 refine ⟨h.bad,hm.keep h.res4 ?_,hm.keep h.res5 ?_,h.mod.then hm ?_⟩
 ·rintro (e | ⟨e,_⟩) <;> omega
 ·rintro (e | ⟨e,_⟩) <;> omega
 ·intro i hi hs
  rcases hs with e | ⟨e,_⟩ <;> omega
abbrev wkBad (W:World) (bl c:Nat):World:=(W.setCell ⟨bl+1,0,none⟩ (.slice none 0 0)).setCell ⟨bl+2,0,none⟩ (.int .i64 (c:Int))
theorem WkI.fail {w0:World} {B bl eb sb nb c:Nat} {pre pre':List (List UInt8)} {W:World} {lv:Value} {xs:List (List UInt8)} (h:WkI w0 B bl sb pre W lv xs)
  (hp:w0.heap.size<=bl/\bl+3 < eb/\bl+3 < sb/\bl+3 < nb/\sb < B) (hbad:∀ rest,partsG [] (pre'++rest)=.inr c):RdS B eb sb nb W (wkBad W bl c)/\WkX w0 bl pre' (wkBad W bl c) c:=by
 have hS:Mod (fun p=>p=bl+1\/p=bl+2) W (wkBad W bl c):=((Mod.refl _ W).setCell (fun _=>.inl rfl) _).setCell (fun _=>.inr rfl) _
 have k2:(wkBad W bl c).heap[bl+1]? = some (.cells #[.slice none 0 0] 43 (0,0)):=by
  rw [heap_setCell_ne _ (by dsimp only;omega),heap_setCell h.res4];rfl
 have k3:(wkBad W bl c).heap[bl+2]? = some (.cells #[.int .i64 (c:Int)] 26 (0,0)):=by
  rw [heap_setCell ((heap_setCell_ne _ (by dsimp only;omega)).trans h.res5)];rfl
 exact ⟨⟨fun k o hk ho _=>hS.keep ho (by omega),fun z hz=>hz.keep hS (by omega) (by omega) (by omega)⟩,hbad,k2,k3,h.mod.then hS (fun i hi e=>by omega)⟩
theorem WkI.skip {w0:World} {B bl sb:Nat} {pre:List (List UInt8)} {y:List UInt8} {W:World} {lv:Value} {xs:List (List UInt8)} (h:WkI w0 B bl sb pre W lv xs) (hy:y=[]\/y=[46]):WkI w0 B bl sb (pre++[y]) W lv xs :=
 ⟨fun rest=>by rw [List.append_assoc,h.all];show partsG xs (y :: rest)=_;rw [partsG,if_pos hy],by rw [List.length_append];have:=h.few;omega,h.box,h.own,h.res4,h.res5,h.stay,h.mod,h.size⟩
theorem WkI.back {w0:World} {B bl eb sb nb:Nat} {pre:List (List UInt8)} {W:World} {a:Option Addr} {cp:Nat} {xs:List (List UInt8)} (h:WkI w0 B bl sb pre W (.slice a xs.length cp) xs) (hx:xs ≠ [])
  (hp:w0.heap.size<=bl/\bl+3 < eb/\bl+3 < sb/\bl+3 < nb/\sb < B):RdS B eb sb nb W (W.setCell ⟨bl,0,none⟩ (.slice a (xs.length - 1) cp))/\WkI w0 B bl sb (pre++[[46,46]]) (W.setCell ⟨bl,0,none⟩ (.slice a (xs.length - 1) cp)) (.slice a (xs.length - 1) cp) xs.dropLast:=by
 have hS:Mod (fun p=>p=bl) W (W.setCell ⟨bl,0,none⟩ (.slice a (xs.length - 1) cp)):=Mod.cell1 W bl 0 _
 refine ⟨⟨fun k o hk ho _=>hS.keep ho (by omega),fun z hz=>hz.keep hS (by omega) (by omega) (by omega)⟩,⟨fun rest=>?_,?_,by rw [heap_setCell h.box];rfl,?_,hS.keep h.res4 (by omega),hS.keep h.res5 (by omega),hS.keep h.stay (by omega),h.mod.then hS (fun i hi e=>by omega),Nat.le_trans h.size hS.size⟩⟩
 ·rw [List.append_assoc,h.all]
  show partsG xs ([46,46] :: rest)=_
  rw [partsG,if_neg (by simp),if_pos rfl,if_neg hx]
 ·rw [List.length_dropLast,List.length_append];have:=h.few;omega
 ·have h1:=own_cut (j:=xs.length - 1) h.own (by omega)
  have e:(strs xs).take (xs.length - 1)=strs xs.dropLast:=by
   rw [List.dropLast_eq_take];unfold strs;rw [List.map_take]
  rw [e] at h1
  rw [List.length_dropLast]
  exact own_keepM h1 hS (fun k hk e2=>by have h2:=(own_block_heapP h1 hk).1;have h3:k=bl:=e2;omega)
theorem WkI.more {w0:World} {B bl eb sb nb:Nat} {pre:List (List UInt8)} {W WA W3:World} {lv v':Value} {xs:List (List UInt8)} {y:List UInt8} (h:WkI w0 B bl sb pre W lv xs) (hm:Mod No W WA)
  (hp:w0.heap.size<=bl/\bl+3 < eb/\bl+3 < sb/\bl+3 < nb/\sb < B) (he:eb < B/\nb < B) (h1:¬ (y=[]\/y=[46])) (h2:y ≠ [46,46]) (hy:partB y=true) (hg:WA.grownBy W3 lv.ownBlock) (hown:W3.ownsRow B 9 1 v' (xs.length+1) (strs xs++[strV y])) :
  RdS B eb sb nb W (W3.setCell ⟨bl,0,none⟩ v')/\WkI w0 B bl sb (pre++[y]) (W3.setCell ⟨bl,0,none⟩ v') v' (xs++[y]):=by
 have hgm:Mod (fun q=>lv.ownBlock=some q) WA W3:=Mod.of_grown hg (fun q e _=>e)
 have hob:∀ q,lv.ownBlock=some q->B<=q/\(∃ cur,W.heap[q]? = some (.cells cur 9 (0,0))):=fun q e=>own_block_heapP h.own e
 have hS:Mod (fun p=>p=bl\/lv.ownBlock=some p) W (W3.setCell ⟨bl,0,none⟩ v'):=hm.no.trans ((hgm.weaken (fun _ _ e=>.inr e)).setCell (fun _=>.inl rfl) _)
 have hno:∀ k,k < B->k ≠ bl->¬ (k=bl\/lv.ownBlock=some k):=fun k hk hk2 e=>by
  rcases e with e | e
  ·exact hk2 e
  ·have:=(hob k e).1;omega
 have hb3:=hgm.keep (hm.keep h.box (fun f=>f)) (fun e=>by have:=(hob bl e).1;omega)
 refine ⟨⟨fun k o hk ho hc=>hS.keep ho (fun e=>?_),fun z hz=>hz.keep hS (hno _ he.1 (by omega)) (hno _ (by omega) (by omega)) (hno _ he.2 (by omega))⟩,⟨fun rest=>?_,?_,by rw [heap_setCell hb3];rfl,?_,hS.keep h.res4 (hno _ (by omega) (by omega)),hS.keep h.res5 (hno _ (by omega) (by omega)),hS.keep h.stay (hno _ (by omega) (by omega)),h.mod.then hS (fun i hi e=>?_),Nat.le_trans h.size hS.size⟩⟩
 ·rcases e with e | e
  ·omega
  ·obtain ⟨_,cur,hh⟩:=hob k e
   rw [hh] at ho;cases ho;cases hc
 ·rw [List.append_assoc,h.all]
  show partsG xs (y :: rest)=_
  rw [partsG,if_neg h1,if_neg h2,if_pos hy]
 ·simp only [List.length_append,List.length_singleton];have:=h.few;omega
 ·rw [List.length_append,show strs (xs++[y])=strs xs++[strV y] by simp [strs]]
  exact own_keepM hown (Mod.cell1 W3 bl 0 v') (fun k e e2=>by have h2:=(own_block_heapP hown e).1;have h3:k=bl:=e2;omega)
 ·rcases e with e | e
  ·omega
  ·have:=(hob i e).1;omega
abbrev wkFin (W:World) (bl:Nat) (v:Value) (c:Int):World:=(W.setCell ⟨bl+1,0,none⟩ v).setCell ⟨bl+2,0,none⟩ (.int .i64 c)
theorem WkI.done {w0:World} {B bl sb D:Nat} {c:Int} {pre:List (List UInt8)} {W:World} {lv:Value} {xs:List (List UInt8)} (h:WkI w0 B bl sb pre W lv xs) (hB:w0.heap.size<=bl/\bl+3 < B) (hD:B<=D) (hK:W.heap[D]? = some (.deferred (some []))) (v:Value) :
  (wkFin W bl v c).heap[D]? = some (.deferred (some []))/\((wkFin W bl v c).putObj D (.deferred none)).heap[bl+1]? = some (.cells #[v] 43 (0,0)) ∧
  ((wkFin W bl v c).putObj D (.deferred none)).heap[bl+2]? = some (.cells #[.int .i64 c] 26 (0,0))/\Sl ((wkFin W bl v c).putObj D (.deferred none)) No 9 lv xs.length (strs xs)/\Mod No w0 ((wkFin W bl v c).putObj D (.deferred none)):=by
 have hS0:Mod (fun p=>p=bl+1\/p=bl+2) W (wkFin W bl v c):=((Mod.refl _ W).setCell (fun _=>.inl rfl) _).setCell (fun _=>.inr rfl) _
 have k2:(wkFin W bl v c).heap[bl+1]? = some (.cells #[v] 43 (0,0)):=by
  rw [heap_setCell_ne _ (by dsimp only;omega),heap_setCell h.res4];rfl
 have k3:(wkFin W bl v c).heap[bl+2]? = some (.cells #[.int .i64 c] 26 (0,0)):=by
  rw [heap_setCell ((heap_setCell_ne _ (by dsimp only;omega)).trans h.res5)];rfl
 have hS:Mod (fun p=>p=bl+1\/p=bl+2\/p=D) W ((wkFin W bl v c).putObj D (.deferred none)) :=
  (hS0.weaken (fun _ _ e=>by omega)).trans (Mod.putObjS (S:=fun p=>p=bl+1\/p=bl+2\/p=D) _ (.inr (.inr rfl)) _)
 refine ⟨hS0.keep hK (by omega),(World.putObj_heap_other (by omega)).trans k2,(World.putObj_heap_other (by omega)).trans k3,?_,h.mod.then hS (fun i hi e=>by omega)⟩
 refine (Sl.of_own (X:=No) h.own (fun _ _ f=>f)).keep hS fun k cur fz hk _ hc=>?_
 rcases hk with rfl | rfl | rfl
 ·rw [h.res4] at hc;cases hc
 ·rw [h.res5] at hc;cases hc
 ·rw [hK] at hc;cases hc
theorem WkX.done {w0:World} {B bl D c:Nat} {pre:List (List UInt8)} {W:World} (h:WkX w0 bl pre W c) (hB:w0.heap.size<=bl/\bl+3 < B) (hD:B<=D) :
  (W.putObj D (.deferred none)).heap[bl+1]? = some (.cells #[.slice none 0 0] 43 (0,0)) ∧
  (W.putObj D (.deferred none)).heap[bl+2]? = some (.cells #[.int .i64 (c:Int)] 26 (0,0))/\Mod No w0 (W.putObj D (.deferred none)) :=
 ⟨(World.putObj_heap_other (by omega)).trans h.res4,(World.putObj_heap_other (by omega)).trans h.res5,h.mod.then (Mod.putObjS (S:=fun p=>p=D) _ rfl _) (fun i hi e=>by omega)⟩
attribute [local go_sem] Oper.semAt_some
set_option maxRecDepth 100000 in
theorem load_strsV {w:World} {b:Nat} {v:Value} (h:w.heap[b]? = some (.cells #[v] 43 (0,0))) (hv:∃ a n c,v=.slice a n c) :
  (loadVar 43 ⟨b,0,none⟩).run prog w=.ok v w:=by
 obtain ⟨a,n,cp,rfl⟩:=hv
 have c:w.cell? ⟨b,0,none⟩=some (.slice a n cp):=cell_ofA h rfl
 go_simp
set_option maxRecDepth 100000 in
theorem load_errnoP {w:World} {b:Nat} {x:Int} (h:w.heap[b]? = some (.cells #[.int .i64 x] 26 (0,0))) :
  (loadVar 26 ⟨b,0,none⟩).run prog w=.ok (.int .i64 x) w:=by
 have c:w.cell? ⟨b,0,none⟩=some (.int .i64 x):=cell_ofA h rfl
 go_simp
def WkPost (w':World) (l:List UInt8) (e:Ending):Prop:=match wkE l with
 | .inr c=>e=.returned (.tuple #[.slice none 0 0,.int .i64 (c:Int)])
 | .inl out=>∃ v,e=.returned (.tuple #[v,.int .i64 0])/\Sl w' No 9 v out.length (strs out)
set_option maxRecDepth 100000 in
set_option maxHeartbeats 8000000 in
theorem walk_any (l:List UInt8) (hl:l.length<=1000000) (w:World) (hgl:Gl w) :
  Calls prog 182 #[.slice none 0 0,strV l] w fun e w'=>WkPost w' l e/\Mod No w w':=by
 refine calls_hide fun R hR=>?_
 refine (callsIn_wide (n:=9)).1 ?_
 refine callsIn_of_wp_marks func182 rfl trivial ?_
 simp only [ntmps182,List.size_toArray,List.length_cons,List.length_nil,Nat.reduceAdd,Nat.reduceSub,Array.replicate_succ,Array.replicate_zero,List.push_toArray,List.append_toArray,List.nil_append,List.cons_append]
 have HHP:=zh (fun W=>pref_any [47] l W)
 have HSQ:=zh (splitsqs_any l)
 unfold strV at *
 generalize hZ:(⟨l.toArray⟩:ByteArray)=Z at *
 gi_wp2
 obtain ⟨bl,hbl⟩:∃ g,g=w.heap.size:=⟨_,rfl⟩
 rw [<- hbl]
 rw [show bl+1+1+1=bl+3 from rfl,show bl+1+1=bl+2 from rfl]
 generalize hw1:World.alloc (World.alloc (World.alloc (World.alloc w _) _) _) _=w1
 have hb1:w1.heap[bl]? = some (.cells #[.slice none 0 0] 43 (0,0)):=by rw [<- hw1,hbl];exact heap_alloc_old _ (heap_alloc_old _ (heap_alloc_old _ (heap_alloc_new w _)))
 have hr4:w1.heap[bl+1]? = some (.cells #[.slice none 0 0] 43 (0,0)):=by rw [<- hw1,hbl];exact heap_alloc_old _ (heap_alloc_old _ (heap_at_new _ _ (by simp)))
 have hr5:w1.heap[bl+2]? = some (.cells #[.int .i64 0] 26 (0,0)):=by rw [<- hw1,hbl];exact heap_alloc_old _ (heap_at_new _ _ (by simp))
 have hsy:w1.heap[bl+3]? = some (.cells #[.int .i64 0] 3 (0,0)):=by rw [<- hw1,hbl];exact heap_at_new _ _ (by simp)
 have hm1:Mod No w w1:=by rw [<- hw1];exact ((((Mod.refl No w).alloc _).alloc _).alloc _).alloc _
 have hsz:w1.heap.size=bl+4:=by rw [<- hw1,hbl];simp
 clear hw1
 have HBL:=zh hbl
 have HM1:=zh hm1
 have HB1:=zh hb1
 have HR4:=zh hr4
 have HR5:=zh hr5
 have HSY:=zh hsy
 clear hbl hm1 hb1 hr4 hr5 hsy
 refine ⟨trivial,(callsIn_wide.2 (HHP.out w1)).mono ?_⟩
 rintro e w2 ⟨rfl,rfl⟩
 clear HHP
 have HWK:=zh (show wkE l=if l.head? = some 47 then .inr 51 else match partsG [] (splitC 47 l) with
  | .inr e=>.inr e
  | .inl out=>if 12 < out.length then .inr 50 else .inl out from rfl)
 rcases hpf:pref [47] l with _ | _
 ·have HNH:=zh (show ¬ l.head? = some 47 from fun e=>by
   unfold pref at hpf
   rw [decide_eq_false_iff_not] at hpf
   refine hpf ?_
   cases l with
   | nil=>cases e
   | cons c r=>simp at e;rw [e];rfl)
  clear hpf
  gi_wp2
  refine ⟨trivial,(callsIn_wide.2 (HSQ.out w2)).mono ?_⟩
  rintro e w3 ⟨eb,sb,nb,rfl,hB,hm3,hge⟩
  have HB:=zh hB
  have HM3:=zh hm3
  have HGE:=zh hge
  clear hB hm3 hge HSQ
  gi_wp2
  have HI0:=zh (show WkI w w3.heap.size bl sb [] w3 (.slice none 0 0) [] from ⟨fun rest=>rfl,by simp,HM3.out.keep HB1.out (fun f=>f),⟨rfl,.inl ⟨rfl,rfl⟩⟩,HM3.out.keep HR4.out (fun f=>f),HM3.out.keep HR5.out (fun f=>f),HM3.out.keep HSY.out (fun f=>f),HM1.out.trans HM3.out,Nat.le_refl _⟩)
  have HPL:=zh (show (w.heap.size<=bl/\bl+3 < eb/\bl+3 < sb/\bl+3 < nb/\sb < w3.heap.size)/\(eb < w3.heap.size/\nb < w3.heap.size) from
   ⟨⟨by have:=HBL.out;omega,by have:=HGE.out;omega,by have:=HGE.out;omega,by have:=HGE.out;omega,lt_of_heap HB.out.s⟩,lt_of_heap HB.out.e,lt_of_heap HB.out.n⟩)
  have HX:=zh (show ∀ W,Mod No w W->Gl W from fun W hm=>hgl.stay hm (fun f=>f))
  clear HB1 HR4 HR5 HSY HM1 HM3 HBL HGE hsz hgl
  refine range_sqs hl 9 rfl HB.out (fun pre W=>∃ lv xs,WkI w w3.heap.size bl sb pre W lv xs) (fun pre W=>∃ c,WkX w bl pre W c)
   (fun pre W W' ⟨lv,xs,h⟩ hm=>⟨lv,xs,h.turn hm ⟨HPL.out.1.2.2.1,HPL.out.1.2.2.2.2⟩ HPL.out.1.1⟩)
   (fun pre W W' ⟨c,h⟩ hm=>⟨c,h.turn hm ⟨HPL.out.1.2.2.1,HPL.out.1.2.2.2.2⟩ HPL.out.1.1⟩)
   (fun pre W ⟨lv,xs,h⟩=>HX.out _ h.mod) ⟨_,_,HI0.out⟩
   (fun y=>{ tmps:=#[.slice none 0 0,.string Z,.pointer (some ⟨bl,0,none⟩),undef,.pointer (some ⟨bl+1,0,none⟩),.pointer (some ⟨bl+2,0,none⟩),.pointer (some ⟨bl+3,0,none⟩),strV y,undef,.slice none 0 0,.int .i64 0,.string Z,.bool false,.string Z,.func (.func 309) #[] #[.pointer (some ⟨eb,0,none⟩),.pointer (some ⟨sb,0,none⟩),.pointer (some ⟨nb,0,none⟩)],strV y,undef,undef,undef,undef,undef,undef,undef,undef,undef,undef,undef,undef,undef,undef,undef,undef,undef,undef,undef,undef,undef,undef,undef,undef,undef,undef,undef,undef],defers:=[] }) ?assign ?body ?done ?stop
  case assign =>
   intro lp x W K hK
   gi_wp2
   exact hK
  case body =>
   rintro lp pre y W ⟨lv,xs,hs⟩ hpre
   have hyl:y.length<=1000000:=Nat.le_trans (splitC_mem_le 47 l y (hpre.subset (by simp))) hl
   have hpn:xs.length<=1000001:=by
    have h1:=hs.few
    have h2:=hpre.length_le
    have h3:=splitC_length_le 47 l
    rw [List.length_append] at h2
    omega
   have HS:=zh hs
   have hT:=str_list y
   have HPT:=zh (fun W=>part_any y hyl W)
   obtain ⟨la,lc,rfl⟩:=own_len hs.own
   have c0:=cell_ofA hs.box (i:=0) rfl
   have c4:=cell_ofA hs.res4 (i:=0) rfl
   have c5:=cell_ofA hs.res5 (i:=0) rfl
   have c6:=cell_ofA hs.stay (i:=0) rfl
   have f0:=frozen_of 0 hs.box
   have f4:=frozen_of 0 hs.res4
   have f5:=frozen_of 0 hs.res5
   clear hs hR HI0
   unfold strV at *
   generalize hYY:(⟨y.toArray⟩:ByteArray)=Y at *
   have HYY:=zh (show strV y=.string Y by unfold strV;rw [hYY])
   clear hYY
   by_cases hy0:y=[]
   ·have HSK:=zh (HS.out.skip (y:=y) (.inl hy0))
    subst hy0
    clear c4 c5 c6 f0 f4 f5 c0 HPT
    gi_wp2
    exact ⟨⟨fun k o _ ho _=>ho,fun z hz=>hz⟩,_,_,HSK.out⟩
   have q0:y.isEmpty=false:=by simpa using hy0
   by_cases hy1:y=[46]
   ·have HSK:=zh (HS.out.skip (y:=y) (.inr hy1))
    subst hy1
    clear c4 c5 c6 f0 f4 f5 c0 HPT
    gi_wp2
    exact ⟨⟨fun k o _ ho _=>ho,fun z hz=>hz⟩,_,_,HSK.out⟩
   have q1:(y == [46])=false:=by simpa using hy1
   by_cases hy2:y=[46,46]
   ·subst hy2
    by_cases hx:xs=[]
    ·have HFL:=zh (HS.out.fail (eb:=eb) (nb:=nb) (c:=51) (pre':=pre++[[46,46]]) HPL.out.1 (fun rest=>by
      rw [List.append_assoc,HS.out.all,hx]
      show partsG [] ([46,46] :: rest)=_
      rw [partsG,if_neg (by simp),if_pos rfl,if_pos rfl]))
     have hxn:xs.length=0:=by rw [hx];rfl
     rw [hxn] at c0
     clear hx hpn HPT
     gi_wp2
     exact ⟨HFL.out.1,51,HFL.out.2⟩
    ·have hxl:0 < xs.length:=List.length_pos_iff.2 hx
     have hz:((xs.length:Int) == 0)=false:=by simp;omega
     have hlc:xs.length<=lc:=by
      obtain ⟨-,⟨hv,hn⟩ | ⟨g,cap,cur,hv,-,-,h1,-⟩⟩:=HS.out.own
      ·omega
      ·cases hv;exact h1
     obtain ⟨lg,hlg⟩:∃ g,la=some ⟨g,0,none⟩:=by
      obtain ⟨-,⟨hv,hn⟩ | ⟨g,cap,cur,hv,-⟩⟩:=HS.out.own
      ·omega
      ·cases hv;exact ⟨g,rfl⟩
     subst hlg
     have HBK:=zh (HS.out.back (eb:=eb) (nb:=nb) hx HPL.out.1)
     obtain ⟨n,hn⟩:∃ n,xs.length=n+1:=⟨xs.length - 1,by omega⟩
     rw [hn] at c0 hz hlc HBK
     have h1:(0:Int)<=(n:Int):=Int.natCast_nonneg _
     have h2:(n:Int)<=(lc:Int):=by omega
     have h3:((n+1:Nat):Int) - 1=(n:Int):=by omega
     clear c4 c5 hx HPT hxl
     gi_wp2
     exact ⟨HBK.out.1,_,_,HBK.out.2⟩
   have q2:(y == [46,46])=false:=by simpa using hy2
   gi_wp2
   refine ⟨trivial,(CallsIn.inRound lp (callsIn_wide.2 (HPT.out W))).mono ?_⟩
   rintro e W1 ⟨rfl,rfl⟩
   clear HPT
   cases hpy:partB y with
   | false =>
    have HFL:=zh (HS.out.fail (eb:=eb) (nb:=nb) (c:=50) (pre':=pre++[y]) HPL.out.1 (fun rest=>by
     rw [List.append_assoc,HS.out.all]
     show partsG xs (y :: rest)=_
     rw [partsG,if_neg (by rintro (h | h);exact hy0 h;exact hy1 h),if_neg hy2,if_neg (by rw [hpy];decide)]))
    clear hpy c0 c6 f0 hT q0 q1 q2
    gi_wp2
    exact ⟨HFL.out.1,50,HFL.out.2⟩
   | true =>
    obtain ⟨i1,hi1,hz0,hz1,hz2⟩:=info_parts info_strP
    have hmA:Mod No W1 (W1.alloc (.cells #[.string Y] 9)):=(Mod.refl No W1).alloc _
    have HOV:=zh (own_keepM HS.out.own hmA (fun _ _ f=>f))
    have HMA:=zh hmA
    have hbase:w3.heap.size<=(W1.alloc (.cells #[.string Y] 9)).heap.size:=Nat.le_trans HS.out.size hmA.size
    have HYV:=zh (show strV y=.string Y from HYY.out)
    have HPY:=zh hpy
    clear hpy c4 c5 c6 f4 f5 hT q0 q1 q2 hmA
    gi_wp2_with (gi_at_builtin;refine wpListIn_append_own _ rfl _ _ 43 rfl w3.heap.size 9 i1 (.string ⟨#[]⟩) 1 16 underlying43 hi1 hz0 hz1 hz2 rfl (by decide) _ _ _ rfl HOV.out ⟨W1.heap.size,0,none⟩ 1 1 [.string Y] rfl rfl (fun j u hu=>by
        have hj:j < 1:=(List.getElem?_eq_some_iff.1 hu).1
        obtain rfl:j=0:=by omega
        rw [Addr.add_lit]
        have:=heap_alloc_new W1 (.cells #[.string Y] 9)
        rw [cell_ofA this (i:=0) rfl];exact hu) (by simp [Value.oneCell']) ?_ ?_ hbase ?_)
    ·unfold maxLen;omega
    ·omega
    intro v' W3 hown3 hg3 _
    have HFIN:=zh (fun v'' (e:v'=v'')=>HS.out.more (eb:=eb) (nb:=nb) (v':=v'') HMA.out HPL.out.1 HPL.out.2 (by rintro (h | h);exact hy0 h;exact hy1 h) hy2 HPY.out hg3 (by rw [HYV.out];exact e ▸ hown3))
    have hb3:W3.heap[bl]? = some (.cells #[.slice la xs.length lc] 43 (0,0)) :=
     (Mod.of_grown (S:=fun q=>(Value.slice la xs.length lc).ownBlock=some q) hg3 (fun q e _=>e)).keep (heap_alloc_old _ HS.out.box) (fun e=>by have h1:=(own_block_heapP HOV.out e).1;have h2:=HPL.out.1;omega)
    have c3:=cell_ofA hb3 (i:=0) rfl
    have f3:=frozen_of 0 hb3
    obtain ⟨za,zc,hz⟩:=own_len hown3
    have HF2:=zh (HFIN.out _ hz)
    clear HFIN hown3 hg3 hb3 c0 f0 HOV HMA hbase
    subst hz
    gi_wp2
    exact ⟨HF2.out.1,_,_,HF2.out.2⟩
  case done =>
   rintro D W hD ⟨lv,xs,hs⟩ hK
   have HG:=zh (show partsG [] (splitC 47 l)=.inl xs from by have h:=hs.all [];rw [List.append_nil] at h;rw [h];rfl)
   obtain ⟨la,lc,rfl⟩:=own_len hs.own
   have HS:=zh hs
   have HK:=zh hK
   have c0:=cell_ofA hs.box (i:=0) rfl
   have c4:=cell_ofA hs.res4 (i:=0) rfl
   have c5:=cell_ofA hs.res5 (i:=0) rfl
   have f4:=frozen_of 0 hs.res4
   have f5:=frozen_of 0 hs.res5
   clear hs hK HI0
   by_cases h12:12 < xs.length
   ·have h13:(12:Int) < (xs.length:Int):=by omega
    have HE:=zh (show wkE l=.inr 50 by rw [HWK.out,if_neg HNH.out,HG.out];show (if 12 < xs.length then _ else _)=_;rw [if_pos h12])
    have HD:=zh (HS.out.done (c:=50) ⟨HPL.out.1.1,by have:=HPL.out;omega⟩ hD HK.out (.slice none 0 0))
    gi_wp2
    refine ⟨by simp,.inl ⟨_,_,rfl,run_takeDeferred HD.out.1,?_⟩⟩
    have hl2:=load_strsV HD.out.2.1 ⟨_,_,_,rfl⟩
    have hl3:=load_errnoP HD.out.2.2.1
    exact ⟨.tuple #[.slice none 0 0,.int .i64 50],by simp [results,results182,asAddr,hl2,hl3],fin hR ⟨by unfold WkPost;rw [HE.out];rfl,HD.out.2.2.2.2⟩⟩
   ·have h13:¬ (12:Int) < (xs.length:Int):=by omega
    have HE:=zh (show wkE l=.inl xs by rw [HWK.out,if_neg HNH.out,HG.out];show (if 12 < xs.length then _ else _)=_;rw [if_neg h12])
    have HD:=zh (HS.out.done (c:=0) ⟨HPL.out.1.1,by have:=HPL.out;omega⟩ hD HK.out (.slice la xs.length lc))
    gi_wp2
    refine ⟨by simp,.inl ⟨_,_,rfl,run_takeDeferred HD.out.1,?_⟩⟩
    have hl2:=load_strsV HD.out.2.1 ⟨_,_,_,rfl⟩
    have hl3:=load_errnoP HD.out.2.2.1
    exact ⟨.tuple #[.slice la xs.length lc,.int .i64 0],by simp [results,results182,asAddr,hl2,hl3],fin hR ⟨by unfold WkPost;rw [HE.out];exact ⟨_,rfl,HD.out.2.2.2.1⟩,HD.out.2.2.2.2⟩⟩
  case stop =>
   rintro D pre W hD hpre ⟨c,hx⟩ hK
   have HE:=zh (show wkE l=.inr c by
    obtain ⟨rest,hrest⟩:=hpre
    rw [HWK.out,if_neg HNH.out,<- hrest,hx.bad rest])
   have HD:=zh (hx.done (B:=w3.heap.size) ⟨HPL.out.1.1,by have:=HPL.out;omega⟩ hD)
   have HK:=zh hK
   clear hx hK HI0
   gi_wp2
   refine ⟨by simp,.inl ⟨_,_,rfl,run_takeDeferred HK.out,?_⟩⟩
   have hl2:=load_strsV HD.out.1 ⟨_,_,_,rfl⟩
   have hl3:=load_errnoP HD.out.2.1
   exact ⟨.tuple #[.slice none 0 0,.int .i64 (c:Int)],by simp [results,results182,asAddr,hl2,hl3],fin hR ⟨by unfold WkPost;rw [HE.out],HD.out.2.2⟩⟩
 ·have HH:=zh (show l.head? = some 47 by
   unfold pref at hpf
   rw [decide_eq_true_eq] at hpf
   cases l with
   | nil=>cases hpf
   | cons c r=>simp at hpf;simp [hpf])
  have f4:=frozen_of 0 HR4.out
  have f5:=frozen_of 0 HR5.out
  have c4:=cell_ofA HR4.out (i:=0) rfl
  have c5:=cell_ofA HR5.out (i:=0) rfl
  have HL4:=zh (show ((w2.setCell ⟨bl+1,0,none⟩ (.slice none 0 0)).setCell ⟨bl+2,0,none⟩ (.int .i64 51)).heap[bl+1]? = some (.cells #[.slice none 0 0] 43 (0,0)) by
   rw [heap_setCell_ne _ (by dsimp only;omega),heap_setCell HR4.out];rfl)
  have HL5:=zh (show ((w2.setCell ⟨bl+1,0,none⟩ (.slice none 0 0)).setCell ⟨bl+2,0,none⟩ (.int .i64 51)).heap[bl+2]? = some (.cells #[.int .i64 51] 26 (0,0)) by
   rw [heap_setCell ((heap_setCell_ne _ (by dsimp only;omega)).trans HR5.out)];rfl)
  have HMz:=zh (show Mod No w ((w2.setCell ⟨bl+1,0,none⟩ (.slice none 0 0)).setCell ⟨bl+2,0,none⟩ (.int .i64 51)) from
   (HM1.out.setCell (fun h=>by have:=HBL.out;dsimp only at h;omega) _).setCell (fun h=>by have:=HBL.out;dsimp only at h;omega) _)
  clear hpf
  gi_wp2
  have hl2:=load_strsV HL4.out ⟨_,_,_,rfl⟩
  have hl3:=load_errnoP HL5.out
  exact ⟨.tuple #[.slice none 0 0,.int .i64 51],by simp [results,results182,asAddr,hl2,hl3],fin hR ⟨by unfold WkPost;rw [HWK.out,if_pos HH.out];rfl,HMz.out⟩⟩
end Go.Proofs.YtmppeipgjcjdkaaGreatDoor
namespace Go.Proofs.YtmppeipgjcjdkaaGreatDoor
open _root_.Go.Proofs.Tryz
open Go.RowKit
theorem parts_snoc_dot {l out:List (List UInt8)} {k:Nat} (hk:k < l.length) (h:l[k]=[]\/l[k]=[46]):partsG out (l.drop k)=partsG out (l.drop (k+1)):=by
 rw [List.drop_eq_getElem_cons hk,partsG,if_pos h]
theorem parts_snoc_up {l out:List (List UInt8)} {k:Nat} (hk:k < l.length) (h:l[k]=[46,46]):partsG out (l.drop k)=if out=[] then .inr 51 else partsG out.dropLast (l.drop (k+1)):=by
 rw [List.drop_eq_getElem_cons hk,h,partsG,if_neg (by simp),if_pos rfl]
theorem parts_snoc {l out:List (List UInt8)} {k:Nat} (hk:k < l.length) (h0:l[k] ≠ []) (h1:l[k] ≠ [46]) (h2:l[k] ≠ [46,46]):partsG out (l.drop k)=if partB l[k] then partsG (out++[l[k]]) (l.drop (k+1)) else .inr 50:=by
 rw [List.drop_eq_getElem_cons hk,partsG,if_neg (by rintro (e | e);exact h0 e;exact h1 e),if_neg h2]
set_option maxRecDepth 100000 in
set_option maxHeartbeats 8000000 in
theorem rclean_any (l:List UInt8) (hl:l.length<=1000000) (w:World) :
  Calls prog 117 #[strV l,.slice none 0 0] w fun e w'=>e=.returned (.tuple #[strV (cleanP l).1,.int .i64 ((cleanP l).2:Int)])/\Mod No w w':=by
 refine calls_hide fun R hR=>?_
 obtain ⟨i0,hi0,hz0,hz1,hz2⟩:=info_parts info_strR
 have HX:=zh (run_at l)
 have HSP:=zh (fun W=>rsplit_any l hl W)
 have HBD:=zh rbad_any
 have HCP:=zh (show cleanP l=if 200 < l.length then ([],50) else if l.head? = some 47 then ([],51) else match partsG [] (splitC 47 l) with
  | .inr e=>([],e)
  | .inl out=>if 12 < out.length then ([],50) else (glueP out,0) from rfl)
 have HSW:=zh (show wtP (splitC 47 l)=l.length+1 from split_wt 47 l)
 have HZ:=zh (str_len3 l)
 have hsl:=splitC_length_le 47 l
 have HME:=zh (splitC_mem_le 47 l)
 obtain ⟨cp,hcp⟩:∃ cp,cp=cleanP l:=⟨_,rfl⟩
 rw [<- hcp] at HCP hR
 clear hcp
 unfold strV at *
 generalize (⟨l.toArray⟩:ByteArray)=Z at *
 have hZs:(Z.size:Int)=(l.length:Int):=by rw [HZ.out]
 go_enter func117,ntmps117
 by_cases h200:(200:Int) < (l.length:Int)
 ·have HE:=zh (show cp=([],50) by rw [HCP.out,if_pos (by omega)])
  clear HCP
  go_wp2_with fail
  refine fin hR ⟨?_,Mod.refl _ _⟩
  rw [HE.out];rfl
 have HC1:=zh (show cp=if l.head? = some 47 then ([],51) else match partsG [] (splitC 47 l) with
  | .inr e=>([],e)
  | .inl out=>if 12 < out.length then ([],50) else (glueP out,0) by rw [HCP.out,if_neg (by omega)])
 clear HCP
 have key:(l.head? = some 47/\(0:Int) < (l.length:Int)/\((∀ W:World,(Instr.index 9 (.string Z) (.int .i64 0)).run prog W=.ok (.int .u8 47) W)))\/(l.head? ≠ some 47/\(¬ (0:Int) < (l.length:Int)\/∃ x:Nat,(0:Int) < (l.length:Int)/\((x:Int) == 47)=false/\∀ W:World,(Instr.index 9 (.string Z) (.int .i64 0)).run prog W=.ok (.int .u8 (x:Int)) W)):=by
  have h:=HX.out
  cases l with
  | nil=>exact .inr ⟨by simp,.inl (by simp)⟩
  | cons c r =>
   have h0:=h 0 (by simp)
   by_cases hc:c=47
   ·subst hc
    exact .inl ⟨rfl,by simp only [List.length_cons];omega,fun W=>by have:=h0 W;simpa using this⟩
   ·refine .inr ⟨by simpa using hc,.inr ⟨c.toNat,by simp only [List.length_cons];omega,?_,fun W=>by have:=h0 W;simpa using this⟩⟩
    rw [beq_eq_false_iff_ne]
    intro e
    exact hc (UInt8.toNat_inj.1 (by have:(47:UInt8).toNat=47:=rfl;omega))
 rcases key with ⟨hh,hp,hx⟩ | ⟨hh,hk⟩
 ·have HE:=zh (show cp=([],51) by rw [HC1.out,if_pos hh])
  clear HC1 hh
  go_wp2_with fail
  refine fin hR ⟨?_,Mod.refl _ _⟩
  rw [HE.out];rfl
 have HC2:=zh (show cp=match partsG [] (splitC 47 l) with
  | .inr e=>([],e)
  | .inl out=>if 12 < out.length then ([],50) else (glueP out,0) by rw [HC1.out,if_neg hh])
 clear HC1 hh
 rcases hk with hk | ⟨x,hp,hx,hrx⟩
 all_goals
  go_wp2_with fail
  with_reducible refine (HSP.out w).mono ?_
  rintro e w1 ⟨sv,rfl,hown,hm1⟩
  obtain ⟨sp,hsp⟩:∃ sp,sp=splitC 47 l:=⟨_,rfl⟩
  rw [<- hsp] at hown HC2 HSW HME hsl
  have HSV:=zh (Sl.of_own (X:=No) hown (fun _ _ f=>f))
  have HM1:=zh hm1
  obtain ⟨sa,sc,rfl⟩:=own_len hown
  obtain ⟨B,hB⟩:∃ B,B=w1.heap.size:=⟨_,rfl⟩
  have HB:=zh hB
  clear hown hm1 HSP hsp hB
  go_wp2_with fail
  go_loopw [6,8] (fun o q wr=>∃ (k:Nat) (outs:List (List UInt8)),k<=sp.length/\q=.int .i64 (k:Int)/\wr.ownsRow B 9 1 o outs.length (strs outs)/\Mod No w1 wr/\outs.length<=k/\partsG [] sp=partsG outs (sp.drop k)) (fun _ q _=>sp.length - (intOf q).toNat)
  case atStart=>exact ⟨0,[],by omega,rfl,⟨rfl,.inl ⟨rfl,rfl⟩⟩,Mod.refl _ _,by simp,rfl⟩
  case round =>
   obtain ⟨k,outs,hk,rfl,hown,hmod,hol,hpa⟩:=hrel
   have hk0:(0:Int)<=(k:Int):=Int.natCast_nonneg _
   have HO:=zh hown
   have HM:=zh hmod
   have HPA:=zh hpa
   have hbase:B<=wr.heap.size:=Nat.le_trans (Nat.le_of_eq HB.out) hmod.size
   obtain ⟨oa,oc,rfl⟩:=own_len hown
   clear hown hmod hpa
   by_cases hlt:k < sp.length
   ·have hk1:(k:Int) < (sp.length:Int):=by omega
    have HSR:=zh (HSV.out.kn HM.out)
    obtain ⟨b,o,c,hvs,-⟩:=HSR.out.shape (by omega)
    have hsa:sa=some ⟨b,o,none⟩:=by cases hvs;rfl
    subst hsa
    clear hvs
    have hcell:=HSR.out.cellN (i:=k) (by rw [strs_length];exact hlt)
    have e0:(strs sp)[k]'(by rw [strs_length];exact hlt)=strV sp[k]:=by simp [strs]
    rw [e0] at hcell
    have HD0:=zh (fun h=>HPA.out.trans (parts_snoc_dot (out:=outs) hlt h))
    have HD1:=zh (fun h=>HPA.out.trans (parts_snoc_up (out:=outs) hlt h))
    have HD2:=zh (fun h0 h1 h2=>HPA.out.trans (parts_snoc (out:=outs) hlt h0 h1 h2))
    have hyl:sp[k].length<=1000000:=Nat.le_trans (HME.out _ (List.getElem_mem hlt)) hl
    generalize sp[k]=y at *
    have hT:=str_list y
    have HBY:=zh (fun W=>HBD.out y hyl W)
    unfold strV at *
    generalize hYY:(⟨y.toArray⟩:ByteArray)=Y at *
    have HYY:=zh (show strV y=.string Y by unfold strV;rw [hYY])
    clear hYY e0
    by_cases hy0:y=[]
    ·have HN:=zh (HD0.out (.inl hy0))
     subst hy0
     clear HBY
     go_wp2_with fail
     exact ⟨⟨k+1,outs,by omega,rfl,HO.out,HM.out,by omega,HN.out⟩,by show sp.length - ((k:Int)+1).toNat < sp.length - (k:Int).toNat;omega⟩
    have q0:y.isEmpty=false:=by simpa using hy0
    by_cases hy1:y=[46]
    ·have HN:=zh (HD0.out (.inr hy1))
     subst hy1
     clear HBY
     go_wp2_with fail
     exact ⟨⟨k+1,outs,by omega,rfl,HO.out,HM.out,by omega,HN.out⟩,by show sp.length - ((k:Int)+1).toNat < sp.length - (k:Int).toNat;omega⟩
    have q1:(y == [46])=false:=by simpa using hy1
    by_cases hy2:y=[46,46]
    ·have HN:=zh (HD1.out hy2)
     subst hy2
     clear HBY
     by_cases hx0:outs=[]
     ·have HE:=zh (show cp=([],51) by rw [HC2.out,HN.out,if_pos hx0])
      have hxn:outs.length=0:=by rw [hx0];rfl
      rw [hxn]
      clear hx0
      go_wp2_with fail
      refine fin hR ⟨?_,HM1.out.trans HM.out⟩
      rw [HE.out];rfl
     ·have HN2:=zh (show partsG [] sp=partsG outs.dropLast (sp.drop (k+1)) by rw [HN.out,if_neg hx0])
      have hxl:0 < outs.length:=List.length_pos_iff.2 hx0
      have hlc:outs.length<=oc:=by
       obtain ⟨-,⟨hv,hn⟩ | ⟨g,cap,cur,hv,-,-,h1,-⟩⟩:=HO.out
       ·omega
       ·cases hv;exact h1
      obtain ⟨lg,hlg⟩:∃ g,oa=some ⟨g,0,none⟩:=by
       obtain ⟨-,⟨hv,hn⟩ | ⟨g,cap,cur,hv,-⟩⟩:=HO.out
       ·omega
       ·cases hv;exact ⟨g,rfl⟩
      subst hlg
      obtain ⟨n,hn⟩:∃ n,outs.length=n+1:=⟨outs.length - 1,by omega⟩
      have HCU:=zh (show wr.ownsRow B 9 1 (.slice (some ⟨lg,0,none⟩) n oc) outs.dropLast.length (strs outs.dropLast) from by
       have h:=own_cut HO.out (j:=n) (by omega)
       rw [show (strs outs).take n=strs outs.dropLast by rw [List.dropLast_eq_take,hn];simp [strs,List.map_take]] at h
       rw [List.length_dropLast,hn]
       exact h)
      have HLD:=zh (show outs.dropLast.length<=k+1 by rw [List.length_dropLast];omega)
      have h1:(0:Int)<=(n:Int):=Int.natCast_nonneg _
      have h2:(n:Int)<=(oc:Int):=by omega
      have h3:((n+1:Nat):Int) - 1=(n:Int):=by omega
      have h4:¬ ((n+1:Nat):Int)<=0:=by omega
      have h5:wrap64 (n:Int)=(n:Int):=by unfold wrap64;omega
      rw [hn]
      clear hn hx0 hxl hlc
      go_wp2_with fail
      exact ⟨⟨k+1,outs.dropLast,by omega,rfl,HCU.out,HM.out,HLD.out,HN2.out⟩,by show sp.length - ((k:Int)+1).toNat < sp.length - (k:Int).toNat;omega⟩
    have q2:(y == [46,46])=false:=by simpa using hy2
    have HN:=zh (HD2.out hy0 hy1 hy2)
    go_wp2_with fail
    with_reducible refine (HBY.out wr).mono ?_
    rintro e w3 ⟨rfl,rfl⟩
    clear HBY
    cases hpy:partB y with
    | false =>
     have HE:=zh (show cp=([],50) by rw [HC2.out,HN.out,hpy];rfl)
     clear hT q0 q1 q2 hpy
     go_wp2_with fail
     refine fin hR ⟨?_,HM1.out.trans HM.out⟩
     rw [HE.out];rfl
    | true =>
     have HN2:=zh (show partsG [] sp=partsG (outs++[y]) (sp.drop (k+1)) by rw [HN.out,hpy,if_pos rfl])
     clear hT q0 q1 q2 hpy
     have HMA:=zh ((Mod.refl No w3).alloc (.cells #[.string Y] 9))
     have HOA:=zh (own_keepM HO.out HMA.out (fun _ _ f=>f))
     have HSA:=zh (show Sl (w3.alloc (.cells #[.string Y] 9)) No 9 (.slice (some ⟨w3.heap.size,0,none⟩) 1 1) 1 [.string Y] from .inr ⟨w3.heap.size,0,1,_,(0,0),rfl,Nat.le_refl _,by decide,fun f=>f,heap_alloc_new w3 _,by simp,fun i hi=>by
      have h0:i=0:=by simp at hi;exact hi
      subst h0;rfl⟩)
     have hbA:B<=(w3.alloc (.cells #[.string Y] 9)).heap.size:=Nat.le_trans hbase HMA.out.size
     go_wp2_with (at_builtin;refine app_sl _ rfl _ _ 43 rfl B 9 i0 (.string ⟨#[]⟩) 1 16 underlying43 hi0 hz0 hz1 hz2 rfl (by decide) _ _ _ rfl HOA.out No 9 _ 1 [.string Y] rfl HSA.out rfl (by simp [Value.oneCell']) ?_ ?_ hbA ?_)
     ·unfold maxLen;omega
     ·omega
     intro v' w2 hown2 hg2 _
     have HO2:=zh hown2
     have HM2:=zh ((HM.out.trans HMA.out).then (Mod.of_grown (S:=fun q=>B<=q) hg2 (fun q e _=>(HOA.out.lt _ e).1)) (fun i hi hq=>absurd hi (by have:=HB.out;omega)))
     clear hown2 hg2
     obtain ⟨va,vc,rfl⟩:=own_len HO2.out
     go_wp2_with fail
     refine ⟨⟨k+1,outs++[y],by omega,rfl,?_,HM2.out,by simp;omega,HN2.out⟩,by show sp.length - ((k:Int)+1).toNat < sp.length - (k:Int).toNat;omega⟩
     rw [List.length_append,strs_append]
     have h:=HO2.out
     rw [show strs [y]=[.string Y] from by show [strV y]=_;rw [HYY.out]]
     exact h
   ·have hk1:¬ (k:Int) < (sp.length:Int):=by omega
    have HE0:=zh (show partsG [] sp=.inl outs by rw [HPA.out,List.drop_of_length_le (by omega)];rfl)
    by_cases h12:(12:Int) < (outs.length:Int)
    ·have HE:=zh (show cp=([],50) by rw [HC2.out,HE0.out];show (if 12 < outs.length then _ else _)=_;rw [if_pos (by omega)])
     go_wp2_with fail
     refine fin hR ⟨?_,HM1.out.trans HM.out⟩
     rw [HE.out];rfl
    ·have HE:=zh (show cp=(glueP outs,0) by rw [HC2.out,HE0.out];show (if 12 < outs.length then _ else _)=_;rw [if_neg (by omega)])
     have HGL:=zh (rglue_any outs (by
      have h1:=parts_wt sp [] outs HE0.out
      have h2:=HSW.out
      have h3:wtP []=0:=rfl
      omega) _ wr (Sl.of_own (X:=No) HO.out (fun _ _ f=>f)))
     clear HPA
     go_wp2_with fail
     with_reducible refine HGL.out.mono ?_
     rintro e w3 ⟨rfl,rfl⟩
     unfold strV
     go_wp2_with fail
     refine fin hR ⟨?_,HM1.out.trans HM.out⟩
     rw [HE.out];rfl
set_option maxRecDepth 100000 in
theorem rclean2_any (l:List UInt8) (hl:l.length<=1000000) (w:World) :
  Calls prog 55 #[strV l] w fun e w'=>e=.returned (.tuple #[strV (cleanP l).1,.int .i64 ((cleanP l).2:Int)])/\Mod No w w':=by
 refine calls_hide fun R hR=>?_
 have HC:=zh (rclean_any l hl w)
 generalize cleanP l=cp at *
 unfold strV at *
 generalize (⟨l.toArray⟩:ByteArray)=Z at *
 generalize (⟨cp.1.toArray⟩:ByteArray)=PZ at *
 go_enter func55,ntmps55
 go_wp2_with fail
 with_reducible refine HC.out.mono ?_
 rintro e w2 ⟨rfl,hm⟩
 have HM:=zh hm
 clear hm
 go_wp2_with fail
 exact fin hR ⟨rfl,HM.out⟩
end Go.Proofs.YtmppeipgjcjdkaaGreatDoor
