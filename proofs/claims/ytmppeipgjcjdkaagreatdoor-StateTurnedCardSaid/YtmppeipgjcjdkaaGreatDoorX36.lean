/-
  Layers 0 to 14: helps of the laws of indexes. No statement is proved here; no condition.
-/
import Derived.Test.YtmppeipgjcjdkaaGreatDoorX35
import Derived.Test.YtmppeipgjcjdkaaGreatDoorX05
import Derived.Test.YtmppeipgjcjdkaaGreatDoorX22
import Derived.Test.YtmppeipgjcjdkaaGreatDoorX01
import Derived.Test.YtmppeipgjcjdkaaGreatDoorX33
import Derived.Lib.LastIndexByte
import Derived.Lib.Join
namespace Go.Proofs.YtmppeipgjcjdkaaGreatDoor
open _root_.Go.Proofs.Tryz
open Go.RowKit Go.Shelf
attribute [local go_sem] Oper.semAt_some
theorem info_strP:(prog.info? 9).map (fun i=>(i.zero,i.size,i.bytes))=some (some (.string ⟨#[]⟩),1,16):=by kernel_rfl
def wkE (l:List UInt8):List (List UInt8) ⊕ Nat:=if l.head? = some 47 then .inr 51 else match partsG [] (splitC 47 l) with
 | .inr e=>.inr e
 | .inl out=>if 12 < out.length then .inr 50 else .inl out
theorem own_cut {w:World} {base:Nat} {e:TypeId} {a:Option Addr} {n c j:Nat} {xs:List Value} (h:w.ownsRow base e 1 (.slice a n c) n xs) (hj:j<=n):w.ownsRow base e 1 (.slice a j c) j (xs.take j):=by
 obtain ⟨h1,⟨hv,hn⟩ | ⟨g,cap,cur,hv,hg,hh,r1,r2,r3,r4⟩⟩:=h
 ·cases hv
  obtain rfl:j=0:=by omega
  exact ⟨by simp,.inl ⟨rfl,rfl⟩⟩
 ·cases hv
  refine ⟨by rw [List.length_take,h1];omega,.inr ⟨g,_,cur,rfl,hg,hh,by omega,r2,r3,?_⟩⟩
  rw [<- r4,List.take_take]
  congr 1
  omega
structure WkI (w0:World) (B bl sb:Nat) (pre:List (List UInt8)) (W:World) (lv:Value) (xs:List (List UInt8)):Prop where
 all:∀ rest,partsG [] (pre++rest)=partsG xs rest
 few:xs.length<=pre.length
 box:W.heap[bl]? = some (.cells #[lv] 43 (0,0))
 own:W.ownsRow B 9 1 lv xs.length (strs xs)
 res4:W.heap[bl+1]? = some (.cells #[.slice none 0 0] 43 (0,0))
 res5:W.heap[bl+2]? = some (.cells #[.int .i64 0] 26 (0,0))
 stay:W.heap[bl+3]? = some (.cells #[.int .i64 0] 3 (0,0))
 mod:Mod No w0 W
 size:B<=W.heap.size
theorem own_block_heapP {w:World} {base:Nat} {e:TypeId} {size:Nat} {v:Value} {n:Nat} {xs:List Value} (h:w.ownsRow base e size v n xs) {k:Nat} (hk:v.ownBlock=some k):base<=k/\∃ cur,w.heap[k]? = some (.cells cur e (0,0)):=by
 obtain ⟨_,⟨hv,_⟩ | ⟨g,cap,cur,hv,hg,hh,r⟩⟩:=h
 ·rw [hv] at hk;cases hk
 ·rw [hv] at hk;cases hk;exact ⟨hg,_,hh⟩
theorem WkI.turn {w0:World} {B bl sb:Nat} {pre:List (List UInt8)} {W W':World} {lv:Value} {xs:List (List UInt8)} (h:WkI w0 B bl sb pre W lv xs) (hm:TurnS B sb W W')
  (h1:bl+3 < sb/\sb < B) (h3:w0.heap.size<=bl):WkI w0 B bl sb pre W' lv xs:=by
 refine ⟨h.all,h.few,hm.keep h.box ?_,own_keepM h.own hm ?_,hm.keep h.res4 ?_,hm.keep h.res5 ?_,hm.keep h.stay ?_,h.mod.then hm ?_,Nat.le_trans h.size hm.size⟩
 ·rintro (e | ⟨e,_⟩) <;> omega
 ·intro k hk hs
  obtain ⟨hb,cur,hh⟩:=own_block_heapP h.own hk
  rcases hs with e | ⟨_,o,ho,hc⟩
  ·omega
  ·rw [hh] at ho;cases ho;cases hc
 ·rintro (e | ⟨e,_⟩) <;> omega
 ·rintro (e | ⟨e,_⟩) <;> omega
 ·rintro (e | ⟨e,_⟩) <;> omega
 ·intro i hi hs
  rcases hs with e | ⟨e,_⟩ <;> omega
structure WkX (w0:World) (bl:Nat) (pre:List (List UInt8)) (W:World) (c:Nat):Prop where
 bad:∀ rest,partsG [] (pre++rest)=.inr c
 res4:W.heap[bl+1]? = some (.cells #[.slice none 0 0] 43 (0,0))
 res5:W.heap[bl+2]? = some (.cells #[.int .i64 (c:Int)] 26 (0,0))
 mod:Mod No w0 W
theorem WkX.turn {w0:World} {B bl sb c:Nat} {pre:List (List UInt8)} {W W':World} (h:WkX w0 bl pre W c) (hm:TurnS B sb W W') (h1:bl+3 < sb/\sb < B) (h3:w0.heap.size<=bl):WkX w0 bl pre W' c:=by
 refine ⟨h.bad,hm.keep h.res4 ?_,hm.keep h.res5 ?_,h.mod.then hm ?_⟩
 ·rintro (e | ⟨e,_⟩) <;> omega
 ·rintro (e | ⟨e,_⟩) <;> omega
 ·intro i hi hs
  rcases hs with e | ⟨e,_⟩ <;> omega
abbrev wkBad (W:World) (bl c:Nat):World:=(W.setCell ⟨bl+1,0,none⟩ (.slice none 0 0)).setCell ⟨bl+2,0,none⟩ (.int .i64 (c:Int))
theorem WkI.fail {w0:World} {B bl eb sb nb c:Nat} {pre pre':List (List UInt8)} {W:World} {lv:Value} {xs:List (List UInt8)} (h:WkI w0 B bl sb pre W lv xs)
  (hp:w0.heap.size<=bl/\bl+3 < eb/\bl+3 < sb/\bl+3 < nb/\sb < B) (hbad:∀ rest,partsG [] (pre'++rest)=.inr c):RdS B eb sb nb W (wkBad W bl c)/\WkX w0 bl pre' (wkBad W bl c) c:=by
 have hS:Mod (fun p=>p=bl+1\/p=bl+2) W (wkBad W bl c):=((Mod.refl _ W).setCell (fun _=>.inl rfl) _).setCell (fun _=>.inr rfl) _
 have k2:(wkBad W bl c).heap[bl+1]? = some (.cells #[.slice none 0 0] 43 (0,0)):=by
  rw [heap_setCell_ne _ (by dsimp only;omega),heap_setCell h.res4];rfl
 have k3:(wkBad W bl c).heap[bl+2]? = some (.cells #[.int .i64 (c:Int)] 26 (0,0)):=by
  rw [heap_setCell ((heap_setCell_ne _ (by dsimp only;omega)).trans h.res5)];rfl
 exact ⟨⟨fun k o hk ho _=>hS.keep ho (by omega),fun z hz=>hz.keep hS (by omega) (by omega) (by omega)⟩,hbad,k2,k3,h.mod.then hS (fun i hi e=>by omega)⟩
theorem WkI.skip {w0:World} {B bl sb:Nat} {pre:List (List UInt8)} {y:List UInt8} {W:World} {lv:Value} {xs:List (List UInt8)} (h:WkI w0 B bl sb pre W lv xs) (hy:y=[]\/y=[46]):WkI w0 B bl sb (pre++[y]) W lv xs :=
 ⟨fun rest=>by rw [List.append_assoc,h.all];show partsG xs (y :: rest)=_;rw [partsG,if_pos hy],by rw [List.length_append];have:=h.few;omega,h.box,h.own,h.res4,h.res5,h.stay,h.mod,h.size⟩
theorem WkI.back {w0:World} {B bl eb sb nb:Nat} {pre:List (List UInt8)} {W:World} {a:Option Addr} {cp:Nat} {xs:List (List UInt8)} (h:WkI w0 B bl sb pre W (.slice a xs.length cp) xs) (hx:xs ≠ [])
  (hp:w0.heap.size<=bl/\bl+3 < eb/\bl+3 < sb/\bl+3 < nb/\sb < B):RdS B eb sb nb W (W.setCell ⟨bl,0,none⟩ (.slice a (xs.length - 1) cp))/\WkI w0 B bl sb (pre++[[46,46]]) (W.setCell ⟨bl,0,none⟩ (.slice a (xs.length - 1) cp)) (.slice a (xs.length - 1) cp) xs.dropLast:=by
 have hS:Mod (fun p=>p=bl) W (W.setCell ⟨bl,0,none⟩ (.slice a (xs.length - 1) cp)):=Mod.cell1 W bl 0 _
 refine ⟨⟨fun k o hk ho _=>hS.keep ho (by omega),fun z hz=>hz.keep hS (by omega) (by omega) (by omega)⟩,⟨fun rest=>?_,?_,by rw [heap_setCell h.box];rfl,?_,hS.keep h.res4 (by omega),hS.keep h.res5 (by omega),hS.keep h.stay (by omega),h.mod.then hS (fun i hi e=>by omega),Nat.le_trans h.size hS.size⟩⟩
 ·rw [List.append_assoc,h.all]
  show partsG xs ([46,46] :: rest)=_
  rw [partsG,if_neg (by simp),if_pos rfl,if_neg hx]
 ·rw [List.length_dropLast,List.length_append];have:=h.few;omega
 ·have h1:=own_cut (j:=xs.length - 1) h.own (by omega)
  have e:(strs xs).take (xs.length - 1)=strs xs.dropLast:=by
   rw [List.dropLast_eq_take];unfold strs;rw [List.map_take]
  rw [e] at h1
  rw [List.length_dropLast]
  exact own_keepM h1 hS (fun k hk e2=>by have h2:=(own_block_heapP h1 hk).1;have h3:k=bl:=e2;omega)
theorem WkI.more {w0:World} {B bl eb sb nb:Nat} {pre:List (List UInt8)} {W WA W3:World} {lv v':Value} {xs:List (List UInt8)} {y:List UInt8} (h:WkI w0 B bl sb pre W lv xs) (hm:Mod No W WA)
  (hp:w0.heap.size<=bl/\bl+3 < eb/\bl+3 < sb/\bl+3 < nb/\sb < B) (he:eb < B/\nb < B) (h1:¬ (y=[]\/y=[46])) (h2:y ≠ [46,46]) (hy:partB y=true) (hg:WA.grownBy W3 lv.ownBlock) (hown:W3.ownsRow B 9 1 v' (xs.length+1) (strs xs++[strV y])) :
  RdS B eb sb nb W (W3.setCell ⟨bl,0,none⟩ v')/\WkI w0 B bl sb (pre++[y]) (W3.setCell ⟨bl,0,none⟩ v') v' (xs++[y]):=by
 have hgm:Mod (fun q=>lv.ownBlock=some q) WA W3:=Mod.of_grown hg (fun q e _=>e)
 have hob:∀ q,lv.ownBlock=some q->B<=q/\(∃ cur,W.heap[q]? = some (.cells cur 9 (0,0))):=fun q e=>own_block_heapP h.own e
 have hS:Mod (fun p=>p=bl\/lv.ownBlock=some p) W (W3.setCell ⟨bl,0,none⟩ v'):=hm.no.trans ((hgm.weaken (fun _ _ e=>.inr e)).setCell (fun _=>.inl rfl) _)
 have hno:∀ k,k < B->k ≠ bl->¬ (k=bl\/lv.ownBlock=some k):=fun k hk hk2 e=>by
  rcases e with e | e
  ·exact hk2 e
  ·have:=(hob k e).1;omega
 have hb3:=hgm.keep (hm.keep h.box (fun f=>f)) (fun e=>by have:=(hob bl e).1;omega)
 refine ⟨⟨fun k o hk ho hc=>hS.keep ho (fun e=>?_),fun z hz=>hz.keep hS (hno _ he.1 (by omega)) (hno _ (by omega) (by omega)) (hno _ he.2 (by omega))⟩,⟨fun rest=>?_,?_,by rw [heap_setCell hb3];rfl,?_,hS.keep h.res4 (hno _ (by omega) (by omega)),hS.keep h.res5 (hno _ (by omega) (by omega)),hS.keep h.stay (hno _ (by omega) (by omega)),h.mod.then hS (fun i hi e=>?_),Nat.le_trans h.size hS.size⟩⟩
 ·rcases e with e | e
  ·omega
  ·obtain ⟨_,cur,hh⟩:=hob k e
   rw [hh] at ho;cases ho;cases hc
 ·rw [List.append_assoc,h.all]
  show partsG xs (y :: rest)=_
  rw [partsG,if_neg h1,if_neg h2,if_pos hy]
 ·simp only [List.length_append,List.length_singleton];have:=h.few;omega
 ·rw [List.length_append,show strs (xs++[y])=strs xs++[strV y] by simp [strs]]
  exact own_keepM hown (Mod.cell1 W3 bl 0 v') (fun k e e2=>by have h2:=(own_block_heapP hown e).1;have h3:k=bl:=e2;omega)
 ·rcases e with e | e
  ·omega
  ·have:=(hob i e).1;omega
abbrev wkFin (W:World) (bl:Nat) (v:Value) (c:Int):World:=(W.setCell ⟨bl+1,0,none⟩ v).setCell ⟨bl+2,0,none⟩ (.int .i64 c)
theorem WkI.done {w0:World} {B bl sb D:Nat} {c:Int} {pre:List (List UInt8)} {W:World} {lv:Value} {xs:List (List UInt8)} (h:WkI w0 B bl sb pre W lv xs) (hB:w0.heap.size<=bl/\bl+3 < B) (hD:B<=D) (hK:W.heap[D]? = some (.deferred (some []))) (v:Value) :
  (wkFin W bl v c).heap[D]? = some (.deferred (some []))/\((wkFin W bl v c).putObj D (.deferred none)).heap[bl+1]? = some (.cells #[v] 43 (0,0)) ∧
  ((wkFin W bl v c).putObj D (.deferred none)).heap[bl+2]? = some (.cells #[.int .i64 c] 26 (0,0))/\Sl ((wkFin W bl v c).putObj D (.deferred none)) No 9 lv xs.length (strs xs)/\Mod No w0 ((wkFin W bl v c).putObj D (.deferred none)):=by
 have hS0:Mod (fun p=>p=bl+1\/p=bl+2) W (wkFin W bl v c):=((Mod.refl _ W).setCell (fun _=>.inl rfl) _).setCell (fun _=>.inr rfl) _
 have k2:(wkFin W bl v c).heap[bl+1]? = some (.cells #[v] 43 (0,0)):=by
  rw [heap_setCell_ne _ (by dsimp only;omega),heap_setCell h.res4];rfl
 have k3:(wkFin W bl v c).heap[bl+2]? = some (.cells #[.int .i64 c] 26 (0,0)):=by
  rw [heap_setCell ((heap_setCell_ne _ (by dsimp only;omega)).trans h.res5)];rfl
 have hS:Mod (fun p=>p=bl+1\/p=bl+2\/p=D) W ((wkFin W bl v c).putObj D (.deferred none)) :=
  (hS0.weaken (fun _ _ e=>by omega)).trans (Mod.putObjS (S:=fun p=>p=bl+1\/p=bl+2\/p=D) _ (.inr (.inr rfl)) _)
 refine ⟨hS0.keep hK (by omega),(World.putObj_heap_other (by omega)).trans k2,(World.putObj_heap_other (by omega)).trans k3,?_,h.mod.then hS (fun i hi e=>by omega)⟩
 refine (Sl.of_own (X:=No) h.own (fun _ _ f=>f)).keep hS fun k cur fz hk _ hc=>?_
 rcases hk with rfl | rfl | rfl
 ·rw [h.res4] at hc;cases hc
 ·rw [h.res5] at hc;cases hc
 ·rw [hK] at hc;cases hc
theorem WkX.done {w0:World} {B bl D c:Nat} {pre:List (List UInt8)} {W:World} (h:WkX w0 bl pre W c) (hB:w0.heap.size<=bl/\bl+3 < B) (hD:B<=D) :
  (W.putObj D (.deferred none)).heap[bl+1]? = some (.cells #[.slice none 0 0] 43 (0,0)) ∧
  (W.putObj D (.deferred none)).heap[bl+2]? = some (.cells #[.int .i64 (c:Int)] 26 (0,0))/\Mod No w0 (W.putObj D (.deferred none)) :=
 ⟨(World.putObj_heap_other (by omega)).trans h.res4,(World.putObj_heap_other (by omega)).trans h.res5,h.mod.then (Mod.putObjS (S:=fun p=>p=D) _ rfl _) (fun i hi e=>by omega)⟩
attribute [local go_sem] Oper.semAt_some
set_option maxRecDepth 100000 in
theorem load_strsV {w:World} {b:Nat} {v:Value} (h:w.heap[b]? = some (.cells #[v] 43 (0,0))) (hv:∃ a n c,v=.slice a n c) :
  (loadVar 43 ⟨b,0,none⟩).run prog w=.ok v w:=by
 obtain ⟨a,n,cp,rfl⟩:=hv
 have c:w.cell? ⟨b,0,none⟩=some (.slice a n cp):=cell_ofA h rfl
 go_simp
set_option maxRecDepth 100000 in
theorem load_errnoP {w:World} {b:Nat} {x:Int} (h:w.heap[b]? = some (.cells #[.int .i64 x] 26 (0,0))) :
  (loadVar 26 ⟨b,0,none⟩).run prog w=.ok (.int .i64 x) w:=by
 have c:w.cell? ⟨b,0,none⟩=some (.int .i64 x):=cell_ofA h rfl
 go_simp
def WkPost (w':World) (l:List UInt8) (e:Ending):Prop:=match wkE l with
 | .inr c=>e=.returned (.tuple #[.slice none 0 0,.int .i64 (c:Int)])
 | .inl out=>∃ v,e=.returned (.tuple #[v,.int .i64 0])/\Sl w' No 9 v out.length (strs out)
set_option maxRecDepth 100000 in
set_option maxHeartbeats 8000000 in
theorem walk_any (l:List UInt8) (hl:l.length<=1000000) (w:World) (hgl:Gl w) :
  Calls prog 182 #[.slice none 0 0,strV l] w fun e w'=>WkPost w' l e/\Mod No w w':=by
 refine calls_hide fun R hR=>?_
 refine (callsIn_wide (n:=9)).1 ?_
 refine callsIn_of_wp_marks func182 rfl trivial ?_
 simp only [ntmps182,List.size_toArray,List.length_cons,List.length_nil,Nat.reduceAdd,Nat.reduceSub,Array.replicate_succ,Array.replicate_zero,List.push_toArray,List.append_toArray,List.nil_append,List.cons_append]
 have HHP:=zh (fun W=>pref_any [47] l W)
 have HSQ:=zh (splitsqs_any l)
 unfold strV at *
 generalize hZ:(⟨l.toArray⟩:ByteArray)=Z at *
 gi_wp2
 obtain ⟨bl,hbl⟩:∃ g,g=w.heap.size:=⟨_,rfl⟩
 rw [<- hbl]
 rw [show bl+1+1+1=bl+3 from rfl,show bl+1+1=bl+2 from rfl]
 generalize hw1:World.alloc (World.alloc (World.alloc (World.alloc w _) _) _) _=w1
 have hb1:w1.heap[bl]? = some (.cells #[.slice none 0 0] 43 (0,0)):=by rw [<- hw1,hbl];exact heap_alloc_old _ (heap_alloc_old _ (heap_alloc_old _ (heap_alloc_new w _)))
 have hr4:w1.heap[bl+1]? = some (.cells #[.slice none 0 0] 43 (0,0)):=by rw [<- hw1,hbl];exact heap_alloc_old _ (heap_alloc_old _ (heap_at_new _ _ (by simp)))
 have hr5:w1.heap[bl+2]? = some (.cells #[.int .i64 0] 26 (0,0)):=by rw [<- hw1,hbl];exact heap_alloc_old _ (heap_at_new _ _ (by simp))
 have hsy:w1.heap[bl+3]? = some (.cells #[.int .i64 0] 3 (0,0)):=by rw [<- hw1,hbl];exact heap_at_new _ _ (by simp)
 have hm1:Mod No w w1:=by rw [<- hw1];exact ((((Mod.refl No w).alloc _).alloc _).alloc _).alloc _
 have hsz:w1.heap.size=bl+4:=by rw [<- hw1,hbl];simp
 clear hw1
 have HBL:=zh hbl
 have HM1:=zh hm1
 have HB1:=zh hb1
 have HR4:=zh hr4
 have HR5:=zh hr5
 have HSY:=zh hsy
 clear hbl hm1 hb1 hr4 hr5 hsy
 refine ⟨trivial,(callsIn_wide.2 (HHP.out w1)).mono ?_⟩
 rintro e w2 ⟨rfl,rfl⟩
 clear HHP
 have HWK:=zh (show wkE l=if l.head? = some 47 then .inr 51 else match partsG [] (splitC 47 l) with
  | .inr e=>.inr e
  | .inl out=>if 12 < out.length then .inr 50 else .inl out from rfl)
 rcases hpf:pref [47] l with _ | _
 ·have HNH:=zh (show ¬ l.head? = some 47 from fun e=>by
   unfold pref at hpf
   rw [decide_eq_false_iff_not] at hpf
   refine hpf ?_
   cases l with
   | nil=>cases e
   | cons c r=>simp at e;rw [e];rfl)
  clear hpf
  gi_wp2
  refine ⟨trivial,(callsIn_wide.2 (HSQ.out w2)).mono ?_⟩
  rintro e w3 ⟨eb,sb,nb,rfl,hB,hm3,hge⟩
  have HB:=zh hB
  have HM3:=zh hm3
  have HGE:=zh hge
  clear hB hm3 hge HSQ
  gi_wp2
  have HI0:=zh (show WkI w w3.heap.size bl sb [] w3 (.slice none 0 0) [] from ⟨fun rest=>rfl,by simp,HM3.out.keep HB1.out (fun f=>f),⟨rfl,.inl ⟨rfl,rfl⟩⟩,HM3.out.keep HR4.out (fun f=>f),HM3.out.keep HR5.out (fun f=>f),HM3.out.keep HSY.out (fun f=>f),HM1.out.trans HM3.out,Nat.le_refl _⟩)
  have HPL:=zh (show (w.heap.size<=bl/\bl+3 < eb/\bl+3 < sb/\bl+3 < nb/\sb < w3.heap.size)/\(eb < w3.heap.size/\nb < w3.heap.size) from
   ⟨⟨by have:=HBL.out;omega,by have:=HGE.out;omega,by have:=HGE.out;omega,by have:=HGE.out;omega,lt_of_heap HB.out.s⟩,lt_of_heap HB.out.e,lt_of_heap HB.out.n⟩)
  have HX:=zh (show ∀ W,Mod No w W->Gl W from fun W hm=>hgl.stay hm (fun f=>f))
  clear HB1 HR4 HR5 HSY HM1 HM3 HBL HGE hsz hgl
  refine range_sqs hl 9 rfl HB.out (fun pre W=>∃ lv xs,WkI w w3.heap.size bl sb pre W lv xs) (fun pre W=>∃ c,WkX w bl pre W c)
   (fun pre W W' ⟨lv,xs,h⟩ hm=>⟨lv,xs,h.turn hm ⟨HPL.out.1.2.2.1,HPL.out.1.2.2.2.2⟩ HPL.out.1.1⟩)
   (fun pre W W' ⟨c,h⟩ hm=>⟨c,h.turn hm ⟨HPL.out.1.2.2.1,HPL.out.1.2.2.2.2⟩ HPL.out.1.1⟩)
   (fun pre W ⟨lv,xs,h⟩=>HX.out _ h.mod) ⟨_,_,HI0.out⟩
   (fun y=>{ tmps:=#[.slice none 0 0,.string Z,.pointer (some ⟨bl,0,none⟩),undef,.pointer (some ⟨bl+1,0,none⟩),.pointer (some ⟨bl+2,0,none⟩),.pointer (some ⟨bl+3,0,none⟩),strV y,undef,.slice none 0 0,.int .i64 0,.string Z,.bool false,.string Z,.func (.func 309) #[] #[.pointer (some ⟨eb,0,none⟩),.pointer (some ⟨sb,0,none⟩),.pointer (some ⟨nb,0,none⟩)],strV y,undef,undef,undef,undef,undef,undef,undef,undef,undef,undef,undef,undef,undef,undef,undef,undef,undef,undef,undef,undef,undef,undef,undef,undef,undef,undef,undef,undef],defers:=[] }) ?assign ?body ?done ?stop
  case assign =>
   intro lp x W K hK
   gi_wp2
   exact hK
  case body =>
   rintro lp pre y W ⟨lv,xs,hs⟩ hpre
   have hyl:y.length<=1000000:=Nat.le_trans (splitC_mem_le 47 l y (hpre.subset (by simp))) hl
   have hpn:xs.length<=1000001:=by
    have h1:=hs.few
    have h2:=hpre.length_le
    have h3:=splitC_length_le 47 l
    rw [List.length_append] at h2
    omega
   have HS:=zh hs
   have hT:=str_list y
   have HPT:=zh (fun W=>part_any y hyl W)
   obtain ⟨la,lc,rfl⟩:=own_len hs.own
   have c0:=cell_ofA hs.box (i:=0) rfl
   have c4:=cell_ofA hs.res4 (i:=0) rfl
   have c5:=cell_ofA hs.res5 (i:=0) rfl
   have c6:=cell_ofA hs.stay (i:=0) rfl
   have f0:=frozen_of 0 hs.box
   have f4:=frozen_of 0 hs.res4
   have f5:=frozen_of 0 hs.res5
   clear hs hR HI0
   unfold strV at *
   generalize hYY:(⟨y.toArray⟩:ByteArray)=Y at *
   have HYY:=zh (show strV y=.string Y by unfold strV;rw [hYY])
   clear hYY
   by_cases hy0:y=[]
   ·have HSK:=zh (HS.out.skip (y:=y) (.inl hy0))
    subst hy0
    clear c4 c5 c6 f0 f4 f5 c0 HPT
    gi_wp2
    exact ⟨⟨fun k o _ ho _=>ho,fun z hz=>hz⟩,_,_,HSK.out⟩
   have q0:y.isEmpty=false:=by simpa using hy0
   by_cases hy1:y=[46]
   ·have HSK:=zh (HS.out.skip (y:=y) (.inr hy1))
    subst hy1
    clear c4 c5 c6 f0 f4 f5 c0 HPT
    gi_wp2
    exact ⟨⟨fun k o _ ho _=>ho,fun z hz=>hz⟩,_,_,HSK.out⟩
   have q1:(y == [46])=false:=by simpa using hy1
   by_cases hy2:y=[46,46]
   ·subst hy2
    by_cases hx:xs=[]
    ·have HFL:=zh (HS.out.fail (eb:=eb) (nb:=nb) (c:=51) (pre':=pre++[[46,46]]) HPL.out.1 (fun rest=>by
      rw [List.append_assoc,HS.out.all,hx]
      show partsG [] ([46,46] :: rest)=_
      rw [partsG,if_neg (by simp),if_pos rfl,if_pos rfl]))
     have hxn:xs.length=0:=by rw [hx];rfl
     rw [hxn] at c0
     clear hx hpn HPT
     gi_wp2
     exact ⟨HFL.out.1,51,HFL.out.2⟩
    ·have hxl:0 < xs.length:=List.length_pos_iff.2 hx
     have hz:((xs.length:Int) == 0)=false:=by simp;omega
     have hlc:xs.length<=lc:=by
      obtain ⟨-,⟨hv,hn⟩ | ⟨g,cap,cur,hv,-,-,h1,-⟩⟩:=HS.out.own
      ·omega
      ·cases hv;exact h1
     obtain ⟨lg,hlg⟩:∃ g,la=some ⟨g,0,none⟩:=by
      obtain ⟨-,⟨hv,hn⟩ | ⟨g,cap,cur,hv,-⟩⟩:=HS.out.own
      ·omega
      ·cases hv;exact ⟨g,rfl⟩
     subst hlg
     have HBK:=zh (HS.out.back (eb:=eb) (nb:=nb) hx HPL.out.1)
     obtain ⟨n,hn⟩:∃ n,xs.length=n+1:=⟨xs.length - 1,by omega⟩
     rw [hn] at c0 hz hlc HBK
     have h1:(0:Int)<=(n:Int):=Int.natCast_nonneg _
     have h2:(n:Int)<=(lc:Int):=by omega
     have h3:((n+1:Nat):Int) - 1=(n:Int):=by omega
     clear c4 c5 hx HPT hxl
     gi_wp2
     exact ⟨HBK.out.1,_,_,HBK.out.2⟩
   have q2:(y == [46,46])=false:=by simpa using hy2
   gi_wp2
   refine ⟨trivial,(CallsIn.inRound lp (callsIn_wide.2 (HPT.out W))).mono ?_⟩
   rintro e W1 ⟨rfl,rfl⟩
   clear HPT
   cases hpy:partB y with
   | false =>
    have HFL:=zh (HS.out.fail (eb:=eb) (nb:=nb) (c:=50) (pre':=pre++[y]) HPL.out.1 (fun rest=>by
     rw [List.append_assoc,HS.out.all]
     show partsG xs (y :: rest)=_
     rw [partsG,if_neg (by rintro (h | h);exact hy0 h;exact hy1 h),if_neg hy2,if_neg (by rw [hpy];decide)]))
    clear hpy c0 c6 f0 hT q0 q1 q2
    gi_wp2
    exact ⟨HFL.out.1,50,HFL.out.2⟩
   | true =>
    obtain ⟨i1,hi1,hz0,hz1,hz2⟩:=info_parts info_strP
    have hmA:Mod No W1 (W1.alloc (.cells #[.string Y] 9)):=(Mod.refl No W1).alloc _
    have HOV:=zh (own_keepM HS.out.own hmA (fun _ _ f=>f))
    have HMA:=zh hmA
    have hbase:w3.heap.size<=(W1.alloc (.cells #[.string Y] 9)).heap.size:=Nat.le_trans HS.out.size hmA.size
    have HYV:=zh (show strV y=.string Y from HYY.out)
    have HPY:=zh hpy
    clear hpy c4 c5 c6 f4 f5 hT q0 q1 q2 hmA
    gi_wp2_with (gi_at_builtin;refine wpListIn_append_own _ rfl _ _ 43 rfl w3.heap.size 9 i1 (.string ⟨#[]⟩) 1 16 underlying43 hi1 hz0 hz1 hz2 rfl (by decide) _ _ _ rfl HOV.out ⟨W1.heap.size,0,none⟩ 1 1 [.string Y] rfl rfl (fun j u hu=>by
        have hj:j < 1:=(List.getElem?_eq_some_iff.1 hu).1
        obtain rfl:j=0:=by omega
        rw [Addr.add_lit]
        have:=heap_alloc_new W1 (.cells #[.string Y] 9)
        rw [cell_ofA this (i:=0) rfl];exact hu) (by simp [Value.oneCell']) ?_ ?_ hbase ?_)
    ·unfold maxLen;omega
    ·omega
    intro v' W3 hown3 hg3 _
    have HFIN:=zh (fun v'' (e:v'=v'')=>HS.out.more (eb:=eb) (nb:=nb) (v':=v'') HMA.out HPL.out.1 HPL.out.2 (by rintro (h | h);exact hy0 h;exact hy1 h) hy2 HPY.out hg3 (by rw [HYV.out];exact e ▸ hown3))
    have hb3:W3.heap[bl]? = some (.cells #[.slice la xs.length lc] 43 (0,0)) :=
     (Mod.of_grown (S:=fun q=>(Value.slice la xs.length lc).ownBlock=some q) hg3 (fun q e _=>e)).keep (heap_alloc_old _ HS.out.box) (fun e=>by have h1:=(own_block_heapP HOV.out e).1;have h2:=HPL.out.1;omega)
    have c3:=cell_ofA hb3 (i:=0) rfl
    have f3:=frozen_of 0 hb3
    obtain ⟨za,zc,hz⟩:=own_len hown3
    have HF2:=zh (HFIN.out _ hz)
    clear HFIN hown3 hg3 hb3 c0 f0 HOV HMA hbase
    subst hz
    gi_wp2
    exact ⟨HF2.out.1,_,_,HF2.out.2⟩
  case done =>
   rintro D W hD ⟨lv,xs,hs⟩ hK
   have HG:=zh (show partsG [] (splitC 47 l)=.inl xs from by have h:=hs.all [];rw [List.append_nil] at h;rw [h];rfl)
   obtain ⟨la,lc,rfl⟩:=own_len hs.own
   have HS:=zh hs
   have HK:=zh hK
   have c0:=cell_ofA hs.box (i:=0) rfl
   have c4:=cell_ofA hs.res4 (i:=0) rfl
   have c5:=cell_ofA hs.res5 (i:=0) rfl
   have f4:=frozen_of 0 hs.res4
   have f5:=frozen_of 0 hs.res5
   clear hs hK HI0
   by_cases h12:12 < xs.length
   ·have h13:(12:Int) < (xs.length:Int):=by omega
    have HE:=zh (show wkE l=.inr 50 by rw [HWK.out,if_neg HNH.out,HG.out];show (if 12 < xs.length then _ else _)=_;rw [if_pos h12])
    have HD:=zh (HS.out.done (c:=50) ⟨HPL.out.1.1,by have:=HPL.out;omega⟩ hD HK.out (.slice none 0 0))
    gi_wp2
    refine ⟨by simp,.inl ⟨_,_,rfl,run_takeDeferred HD.out.1,?_⟩⟩
    have hl2:=load_strsV HD.out.2.1 ⟨_,_,_,rfl⟩
    have hl3:=load_errnoP HD.out.2.2.1
    exact ⟨.tuple #[.slice none 0 0,.int .i64 50],by simp [results,results182,asAddr,hl2,hl3],fin hR ⟨by unfold WkPost;rw [HE.out];rfl,HD.out.2.2.2.2⟩⟩
   ·have h13:¬ (12:Int) < (xs.length:Int):=by omega
    have HE:=zh (show wkE l=.inl xs by rw [HWK.out,if_neg HNH.out,HG.out];show (if 12 < xs.length then _ else _)=_;rw [if_neg h12])
    have HD:=zh (HS.out.done (c:=0) ⟨HPL.out.1.1,by have:=HPL.out;omega⟩ hD HK.out (.slice la xs.length lc))
    gi_wp2
    refine ⟨by simp,.inl ⟨_,_,rfl,run_takeDeferred HD.out.1,?_⟩⟩
    have hl2:=load_strsV HD.out.2.1 ⟨_,_,_,rfl⟩
    have hl3:=load_errnoP HD.out.2.2.1
    exact ⟨.tuple #[.slice la xs.length lc,.int .i64 0],by simp [results,results182,asAddr,hl2,hl3],fin hR ⟨by unfold WkPost;rw [HE.out];exact ⟨_,rfl,HD.out.2.2.2.1⟩,HD.out.2.2.2.2⟩⟩
  case stop =>
   rintro D pre W hD hpre ⟨c,hx⟩ hK
   have HE:=zh (show wkE l=.inr c by
    obtain ⟨rest,hrest⟩:=hpre
    rw [HWK.out,if_neg HNH.out,<- hrest,hx.bad rest])
   have HD:=zh (hx.done (B:=w3.heap.size) ⟨HPL.out.1.1,by have:=HPL.out;omega⟩ hD)
   have HK:=zh hK
   clear hx hK HI0
   gi_wp2
   refine ⟨by simp,.inl ⟨_,_,rfl,run_takeDeferred HK.out,?_⟩⟩
   have hl2:=load_strsV HD.out.1 ⟨_,_,_,rfl⟩
   have hl3:=load_errnoP HD.out.2.1
   exact ⟨.tuple #[.slice none 0 0,.int .i64 (c:Int)],by simp [results,results182,asAddr,hl2,hl3],fin hR ⟨by unfold WkPost;rw [HE.out],HD.out.2.2⟩⟩
 ·have HH:=zh (show l.head? = some 47 by
   unfold pref at hpf
   rw [decide_eq_true_eq] at hpf
   cases l with
   | nil=>cases hpf
   | cons c r=>simp at hpf;simp [hpf])
  have f4:=frozen_of 0 HR4.out
  have f5:=frozen_of 0 HR5.out
  have c4:=cell_ofA HR4.out (i:=0) rfl
  have c5:=cell_ofA HR5.out (i:=0) rfl
  have HL4:=zh (show ((w2.setCell ⟨bl+1,0,none⟩ (.slice none 0 0)).setCell ⟨bl+2,0,none⟩ (.int .i64 51)).heap[bl+1]? = some (.cells #[.slice none 0 0] 43 (0,0)) by
   rw [heap_setCell_ne _ (by dsimp only;omega),heap_setCell HR4.out];rfl)
  have HL5:=zh (show ((w2.setCell ⟨bl+1,0,none⟩ (.slice none 0 0)).setCell ⟨bl+2,0,none⟩ (.int .i64 51)).heap[bl+2]? = some (.cells #[.int .i64 51] 26 (0,0)) by
   rw [heap_setCell ((heap_setCell_ne _ (by dsimp only;omega)).trans HR5.out)];rfl)
  have HMz:=zh (show Mod No w ((w2.setCell ⟨bl+1,0,none⟩ (.slice none 0 0)).setCell ⟨bl+2,0,none⟩ (.int .i64 51)) from
   (HM1.out.setCell (fun h=>by have:=HBL.out;dsimp only at h;omega) _).setCell (fun h=>by have:=HBL.out;dsimp only at h;omega) _)
  clear hpf
  gi_wp2
  have hl2:=load_strsV HL4.out ⟨_,_,_,rfl⟩
  have hl3:=load_errnoP HL5.out
  exact ⟨.tuple #[.slice none 0 0,.int .i64 51],by simp [results,results182,asAddr,hl2,hl3],fin hR ⟨by unfold WkPost;rw [HWK.out,if_pos HH.out];rfl,HMz.out⟩⟩
end Go.Proofs.YtmppeipgjcjdkaaGreatDoor
namespace Go.Proofs.YtmppeipgjcjdkaaGreatDoor
open _root_.Go.Proofs.Tryz
open Go.RowKit
theorem drop_none:∀ {l:List UInt8},(∀ c ∈ l,c ≠ 47)->l.dropWhile (· != 47)=[]
 | [],_=>rfl
 | c :: l,h=>by
  have hc:(c != 47)=true:=by simpa using h c (by simp)
  rw [List.dropWhile_cons,if_pos hc]
  exact drop_none fun d hd=>h d (by simp [hd])
theorem drop_hit {a:List UInt8}:∀ {l:List UInt8},(∀ c ∈ l,c ≠ 47)->(l++47 :: a).dropWhile (· != 47)=47 :: a
 | [],_=>by simp
 | c :: l,h=>by
  have hc:(c != 47)=true:=by simpa using h c (by simp)
  rw [List.cons_append,List.dropWhile_cons,if_pos hc]
  exact drop_hit fun d hd=>h d (by simp [hd])
theorem parent_none {p:List UInt8} (h:∀ c ∈ p,c ≠ 47):parentP p=[]:=by
 unfold parentP
 rw [drop_none fun c hc=>h c (List.mem_reverse.1 hc)]
 rfl
theorem parent_hit {a b:List UInt8} (h:∀ c ∈ b,c ≠ 47):parentP (a++47 :: b)=a:=by
 unfold parentP
 rw [List.reverse_append,List.reverse_cons,List.append_assoc]
 show ((b.reverse++47 :: a.reverse).dropWhile _ |>.drop 1).reverse=a
 rw [drop_hit fun c hc=>h c (List.mem_reverse.1 hc)]
 simp
theorem parent_last (p:List UInt8):∃ n:Nat,n<=p.length/\parentP p=p.take n/\(if Lib.lastIndexByte ⟨p.toArray⟩ 47 < 0 then 0 else Lib.lastIndexByte ⟨p.toArray⟩ 47)=(n:Int):=by
 rcases Lib.lastIndexByte_spec ⟨p.toArray⟩ 47 with ⟨h1,h2⟩ | ⟨i,hi,h1,h2,h3⟩
 ·refine ⟨0,Nat.zero_le _,?_,by rw [h1];rfl⟩
  rw [parent_none fun c hc=>?_]
  ·rfl
  ·obtain ⟨k,hk,rfl⟩:=List.getElem_of_mem hc
   intro e
   refine h2 k (by rw [str_len3];exact hk) ?_
   have:(p.toArray)[k]! = p[k]:=by simp [hk]
   show (((p.toArray)[k]!).toNat:Int)=47
   rw [this,e];rfl
 ·rw [str_len3] at hi h3
  have hget:∀ k (hk:k < p.length),(p.toArray)[k]! = p[k]:=fun k hk=>by simp [hk]
  refine ⟨i,by omega,?_,by rw [h1,if_neg (by omega)]⟩
  have e0:p=p.take i++47 :: p.drop (i+1):=by
   have h4:(((p.toArray)[i]!).toNat:Int)=47:=h2
   rw [hget i hi] at h4
   have h5:p[i]=47:=UInt8.toNat_inj.1 (by show _=47;omega)
   rw [<- h5,<- List.drop_eq_getElem_cons hi,List.take_append_drop]
  conv=>lhs;rw [e0]
  refine parent_hit fun c hc e=>?_
  obtain ⟨k,hk,rfl⟩:=List.getElem_of_mem hc
  rw [List.length_drop] at hk
  rw [List.getElem_drop] at e
  refine h3 (i+1+k) (by omega) (by omega) ?_
  show (((p.toArray)[i+1+k]!).toNat:Int)=47
  rw [hget _ (by omega),e];rfl
theorem glue_join:∀ l:List (List UInt8),glueP l=Lib.join l [47]
 | []=>rfl
 | [x]=>(Lib.join_one x [47]).symm
 | x :: y :: l=>by
  rw [glueP,glue_join (y :: l),Lib.join_cons,Lib.join_cons]
  simp [Lib.joinTail]
set_option maxRecDepth 100000 in
theorem parent_any (p:List UInt8) (hp:p.length<=1000000) (w:World):Calls prog 185 #[strV p] w fun e w'=>e=.returned (strV (parentP p))/\Mod No w w':=by
 refine calls_hide fun R hR=>?_
 have HL:=zh (Tryz.strings_LastIndexByte ⟨p.toArray⟩ 47 (by rw [str_len3];omega))
 obtain ⟨n,hn,hpn,hz⟩:=parent_last p
 have HP:=zh hpn
 have hto:=str_to p n
 have hzs:=str_len3 p
 unfold strV
 generalize Lib.lastIndexByte ⟨p.toArray⟩ 47=z at *
 generalize (⟨p.toArray⟩:ByteArray)=Z at *
 clear hpn
 go_enter func185,ntmps185
 go_wp2_with fail
 with_reducible refine (HL.out w).mono ?_
 rintro e w1 ⟨rfl,rfl⟩
 go_wp2_with fail
 refine fin hR ⟨?_,Mod.refl _ _⟩
 show Ending.returned (.string (Z.extract 0 (max z 0).toNat))=_
 rw [show (max z 0).toNat=n by
  have h:=hz
  split at h <;> omega,hto,HP.out]
theorem parts_nil (w:World):Calls prog 183 #[.string ⟨#[]⟩] w fun e w'=>e=.returned (.slice none 0 0)/\w'=w:=by
 refine calls_hide fun R hR=>?_
 go_enter func183,ntmps183
 go_wp2_with fail
 exact fin hR ⟨rfl,rfl⟩
theorem parts_code:∀ (l out:List (List UInt8)) (c:Nat),partsG out l=.inr c->c=50\/c=51
 | [],out,c,h=>by unfold partsG at h;cases h
 | x :: l,out,c,h=>by
  unfold partsG at h
  split at h
  ·exact parts_code l _ _ h
  ·split at h
   ·split at h
    ·cases h;exact .inr rfl
    ·exact parts_code l _ _ h
   ·split at h
    ·exact parts_code l _ _ h
    ·cases h;exact .inl rfl
theorem wk_code {l:List UInt8} {c:Nat} (h:wkE l=.inr c):c=50\/c=51:=by
 unfold wkE at h
 split at h
 ·cases h;exact .inr rfl
 ·split at h
  ·rename_i h2
   cases h
   exact parts_code _ _ _ h2
  ·split at h
   ·cases h;exact .inl rfl
   ·cases h
theorem join_strs (out:List (List UInt8)) (v:Value) (w:World) (hv:Sl w No 9 v out.length (strs out)) (hn:out.length<=1000000) (hg:(glueP out).length<=1000000) :
  Calls prog 184 #[v,.string ⟨#[47]⟩] w fun e w'=>e=.returned (strV (glueP out))/\Mod No w w':=by
 rcases Nat.eq_zero_or_pos out.length with h0 | h0
 ·obtain rfl:out=[]:=List.eq_nil_of_length_eq_zero h0
  obtain ⟨a,c,rfl⟩:=hv.len
  exact (Tryz.strings_Join_none a c ⟨#[47]⟩ w).mono fun e w' ⟨he,hw⟩=>⟨he,by rw [hw];exact Mod.refl _ _⟩
 ·obtain ⟨b,o,c,rfl,hc,-⟩:=hv.shape h0
  have hcell:∀ (j:Nat) x,(out.map fun s=>(⟨s.toArray⟩:ByteArray))[j]? = some x->w.cell? ⟨b,o+j,none⟩=some (.string x):=fun j x hj=>by
   rw [List.getElem?_map] at hj
   obtain ⟨y,hy,rfl⟩:=Option.map_eq_some_iff.1 hj
   obtain ⟨hj2,rfl⟩:=List.getElem?_eq_some_iff.1 hy
   rw [hv.cellN (i:=j) (by rw [strs_length];exact hj2)]
   simp [strs,strV]
  have hb:b < w.heap.size:=by
   have h1:=hv.cellN (i:=0) (by rw [strs_length];exact h0)
   rcases Nat.lt_or_ge b w.heap.size with h | h
   ·exact h
   ·simp [World.cell?,Array.getElem?_eq_none h] at h1
  have hdl:(out.map fun s=>(⟨s.toArray⟩:ByteArray)).map (·.data.toList)=out:=by rw [List.map_map];exact List.map_id _
  have hlen:(out.map fun s=>(⟨s.toArray⟩:ByteArray)).length=out.length:=List.length_map ..
  have h:=Tryz.strings_Join b o c (out.map fun s=>(⟨s.toArray⟩:ByteArray)) ⟨#[47]⟩ w hcell hb (by omega) (by omega) (by rw [hdl];show (Lib.join out [47]).length<=_;rw [<- glue_join];omega)
  rw [hdl,hlen] at h
  refine h.mono fun e w' ⟨he,hw⟩=>⟨?_,Mod.of_below hw⟩
  rw [he,glue_join]
theorem clean_wk (l:List UInt8):cleanP l=if 200 < l.length then ([],50) else match wkE l with
  | .inr e=>([],e)
  | .inl out=>(glueP out,0):=by
 unfold cleanP wkE
 split
 ·rfl
 ·split
  ·rfl
  ·split
   ·rename_i h;rw [h]
   ·rename_i out h
    rw [h]
    dsimp only
    split <;> rfl
set_option maxRecDepth 100000 in
set_option maxHeartbeats 4000000 in
theorem join_any (l:List UInt8) (hl:l.length<=1000000) (w:World) (hgl:Gl w):Calls prog 135 #[.string ⟨#[]⟩,strV l] w fun e w'=>e=.returned (.tuple #[strV (cleanP l).1,.int .i64 ((cleanP l).2:Int)])/\Mod No w w':=by
 refine calls_hide fun R hR=>?_
 have HWA:=zh (walk_any l hl w hgl)
 have HCW:=zh (clean_wk l)
 have HZ:=zh (str_len3 l)
 unfold strV at *
 generalize (⟨l.toArray⟩:ByteArray)=Z at *
 have hZs:(Z.size:Int)=(l.length:Int):=by rw [HZ.out]
 go_enter func135,ntmps135
 by_cases h200:200 < l.length
 ·have h1:(200:Int) < (l.length:Int):=by omega
  go_wp2_with fail
  refine fin hR ⟨?_,Mod.refl _ _⟩
  rw [HCW.out,if_pos h200]
  rfl
 ·have h1:¬ (200:Int) < (l.length:Int):=by omega
  have HPN:=zh (parts_nil w)
  rw [if_neg h200] at HCW
  go_wp2_with fail
  with_reducible refine HPN.out.mono ?_
  rintro e w1 ⟨rfl,rfl⟩
  clear HPN
  go_wp2_with fail
  with_reducible refine HWA.out.mono ?_
  rintro e w2 ⟨hp,hm⟩
  have HM:=zh hm
  clear hm HWA
  unfold WkPost at hp
  cases hwk:wkE l with
  | inr c =>
   rw [hwk] at hp HCW
   have HC2:=zh (show cleanP l=([],c) from HCW.out)
   have hc:=wk_code hwk
   have hc0:((c:Int) == 0)=false:=by rw [beq_eq_false_iff_ne];omega
   clear HCW hwk hc
   have hp:e=.returned (.tuple #[.slice none 0 0,.int .i64 (c:Int)]):=hp
   subst hp
   go_wp2_with fail
   refine fin hR ⟨?_,HM.out⟩
   rw [HC2.out]
   rfl
  | inl out =>
   rw [hwk] at hp HCW
   have HC2:=zh (show cleanP l=(glueP out,0) from HCW.out)
   have ho:out.length<=1000000:=by
    unfold wkE at hwk
    split at hwk
    ·cases hwk
    ·split at hwk
     ·cases hwk
     ·split at hwk
      ·cases hwk
      ·cases hwk;omega
   obtain ⟨v,rfl,hsl⟩:=hp
   have hgl2:=(clean_all l).1
   rw [HC2.out] at hgl2
   have HJ:=zh (join_strs out v w2 hsl ho (by dsimp only at hgl2;omega))
   obtain ⟨va,vc,rfl⟩:=hsl.len
   clear HCW hwk hsl hgl2
   go_wp2_with fail
   with_reducible refine HJ.out.mono ?_
   rintro e w3 ⟨rfl,hm3⟩
   have HM3:=zh (HM.out.trans hm3)
   clear hm3 HJ
   go_wp2_with fail
   refine fin hR ⟨?_,HM3.out⟩
   rw [HC2.out]
   rfl
set_option maxRecDepth 100000 in
theorem clean_any (l:List UInt8) (hl:l.length<=1000000) (w:World) (hgl:Gl w):Calls prog 72 #[strV l] w fun e w'=>e=.returned (.tuple #[strV (cleanP l).1,.int .i64 ((cleanP l).2:Int)])/\Mod No w w':=by
 refine calls_hide fun R hR=>?_
 have HJ:=zh (join_any l hl w hgl)
 generalize cleanP l=cl at *
 unfold strV at *
 generalize (⟨l.toArray⟩:ByteArray)=Z at *
 go_enter func72,ntmps72
 go_wp2_with fail
 with_reducible refine HJ.out.mono ?_
 rintro e w2 ⟨rfl,hm⟩
 have HM:=zh hm
 clear hm HJ
 go_wp2_with fail
 exact fin hR ⟨rfl,HM.out⟩
end Go.Proofs.YtmppeipgjcjdkaaGreatDoor
namespace Go.Proofs.YtmppeipgjcjdkaaGreatDoor
open _root_.Go.Proofs.Tryz
open Go.RowKit Go.Maps
def lenV:Value->Nat
 | .string s=>s.size
 | _=>0
theorem lenV_str (l:List UInt8):lenV (strV l)=l.length:=str_len3 l
def AheadPost (w:World) (w':World) (t:Tr) (p:List UInt8) (e:Ending):Prop:=match aheadT t p with
 | none=>e=.returned (.tuple #[.slice none 0 0,.int .i64 54])
 | some l=>∃ v,e=.returned (.tuple #[v,.int .i64 0])/\w'.ownsRow w.heap.size 9 1 v l.length (strs l)
set_option maxRecDepth 100000 in
set_option maxHeartbeats 4000000 in
theorem tahead_any {w:World} {q m:Nat} {g:List UInt8->Nat} {t:Tr} {sz:Int} (h:TrM w q m g t sz) (p:List UInt8) (hp:p.length<=1000000) :
  Calls prog 136 #[.pointer (some ⟨q,0,none⟩),strV p] w fun e w'=>AheadPost w w' t p e/\Mod No w w':=by
 refine calls_hide fun R hR=>?_
 have H:=zh h
 have HPA:=zh (parent_any p hp)
 clear h
 unfold strV at HPA ⊢
 generalize (⟨p.toArray⟩:ByteArray)=Z at *
 go_enter func136,ntmps136
 go_wp2_with fail
 with_reducible refine (HPA.out w).mono ?_
 rintro e w1 ⟨rfl,hm1⟩
 have HM1:=zh hm1
 clear hm1 HPA
 go_wp2_with fail
 go_loopw [6,7] (fun q6 q7 wr=>∃ (d:List UInt8) (out:List (List UInt8)) (n:Nat),q7=strV d/\d.length<=n/\d.length<=1000000/\n+out.length<=p.length/\aheadT t p=aheadG t n d out/\wr.ownsRow w.heap.size 9 1 q6 out.length (strs out)/\Mod No w wr) (fun _ q7 _=>lenV q7)
 case atStart =>
  have h1:=parent_len p
  exact ⟨parentP p,[],p.length,rfl,by omega,by omega,by simp,rfl,⟨rfl,.inl ⟨rfl,rfl⟩⟩,HM1.out⟩
 case round =>
  obtain ⟨d,out,n,rfl,hdn,hd6,hno,hah,hown,hm⟩:=hrel
  have HM:=zh hm
  have HO:=zh hown
  have HA:=zh hah
  have hT:=str_list d
  have HT:=zh (H.out.no hm)
  have hlk:=HT.out.look d hd6
  have HPA:=zh (parent_any d hd6)
  have HLV:=zh (lenV_str d)
  have hpl:=parent_len d
  clear hm hown hah
  obtain ⟨oa,oc,rfl⟩:=own_len HO.out
  unfold strV at *
  generalize hDD:(⟨d.toArray⟩:ByteArray)=D at *
  have HDD:=zh hDD
  clear hDD
  by_cases h0:d=[]
  ·subst h0
   have HE:=zh (show ∀ w' e,(∃ v,e=.returned (.tuple #[v,.int .i64 0])/\w'.ownsRow w.heap.size 9 1 v out.length (strs out))->AheadPost w w' t p e from fun w' e h=>by
    unfold AheadPost
    rw [HA.out]
    cases n <;> exact h)
   clear hlk
   go_wp2_with fail
   exact fin hR ⟨HE.out _ _ ⟨_,rfl,HO.out⟩,HM.out⟩
  ·have hie:d.isEmpty=false:=by simpa using h0
   have hd1:0 < d.length:=List.length_pos_iff.2 h0
   obtain ⟨n',rfl⟩:∃ n',n=n'+1:=⟨n - 1,by omega⟩
   have c0:=cell_ofA HT.out.obj (i:=0) rfl
   cases hx:atT t d with
   | none =>
    rw [hx] at hlk
    have HA2:=zh (show aheadT t p=aheadG t n' (parentP d) (out++[d]) by rw [HA.out,aheadG,if_neg h0,hx])
    simp only [ptrV] at hlk
    obtain ⟨i1,hi1,hz0,hz1,hz2⟩:=info_parts info_strP
    have HOV:=zh (own_keepM HO.out ((Mod.refl No wr).alloc (.cells #[.string D] 9)) (fun _ _ f=>f))
    have hbase:w.heap.size<=(wr.alloc (.cells #[.string D] 9)).heap.size:=Nat.le_trans HM.out.size ((Mod.refl No wr).alloc _).size
    have HSD:=zh (show strs (out++[d])=strs out++[.string D] by unfold strs;rw [List.map_append,<- HDD.out];rfl)
    clear hx HA
    go_wp2_with (at_builtin;refine app_sl _ rfl _ _ 43 rfl w.heap.size 9 i1 (.string ⟨#[]⟩) 1 16 underlying43 hi1 hz0 hz1 hz2 rfl (by decide) _ _ _ rfl HOV.out No 9 _ 1 [.string D] rfl (sl_new wr 9 [.string D] (Nat.le_refl 1) (by unfold maxLen;omega)) rfl (by simp [Value.oneCell']) (by unfold maxLen;omega) (by omega) hbase ?_)
    intro v7 w7 hown7 hg7 _
    have HM7:=zh (show Mod No w w7 from (HM.out.trans ((Mod.refl No wr).alloc (.cells #[.string D] 9))).then (Mod.of_grown (S:=fun q=>w.heap.size<=q) hg7 (fun q e _=>(own_block_heapP HOV.out e).1)) (fun q hq e=>Nat.lt_irrefl _ (Nat.lt_of_lt_of_le hq e)))
    have HO7:=zh hown7
    clear hown7 hg7 HOV
    go_wp2_with fail
    with_reducible refine (HPA.out _).mono ?_
    rintro e w8 ⟨rfl,hm8⟩
    have HM8:=zh (HM7.out.trans hm8)
    have HO8:=zh (own_keepM HO7.out hm8 (fun _ _ f=>f))
    clear hm8 HPA
    go_wp2_with fail
    exact ⟨⟨parentP d,out++[d],n',rfl,by omega,by omega,by simp;omega,HA2.out,by rw [HSD.out,List.length_append];exact HO8.out,HM8.out⟩,by rw [show lenV (.string ⟨(parentP d).toArray⟩)=(parentP d).length from lenV_str _,HLV.out];omega⟩
   | some f =>
    rw [hx] at hlk
    simp only [ptrV] at hlk
    obtain ⟨nv,hnd,-⟩:=HT.out.node hx
    have n0:=cell_ofA hnd (i:=0) rfl
    rcases hfd:f.dir with _ | _
    ·have HE:=zh (show ∀ w' e,e=.returned (.tuple #[.slice none 0 0,.int .i64 54])->AheadPost w w' t p e from fun w' e h=>by
      unfold AheadPost
      rw [HA.out,aheadG,if_neg h0,hx]
      dsimp only
      rw [hfd]
      exact h)
     rw [hfd] at n0
     clear hx HA hnd
     go_wp2_with fail
     exact fin hR ⟨HE.out _ _ rfl,HM.out⟩
    ·have HA2:=zh (show aheadT t p=aheadG t n' (parentP d) out by
      rw [HA.out,aheadG,if_neg h0,hx]
      dsimp only
      rw [hfd]
      rfl)
     rw [hfd] at n0
     clear hx HA hnd
     go_wp2_with fail
     with_reducible refine (HPA.out _).mono ?_
     rintro e w2 ⟨rfl,hm2⟩
     have HM2:=zh (HM.out.trans hm2)
     have HO2:=zh (own_keepM HO.out hm2 (fun _ _ f=>f))
     clear hm2 HPA
     go_wp2_with fail
     exact ⟨⟨parentP d,out,n',rfl,by omega,by omega,by omega,HA2.out,HO2.out,HM2.out⟩,by rw [show lenV (.string ⟨(parentP d).toArray⟩)=(parentP d).length from lenV_str _,HLV.out];omega⟩
theorem sizeT_make:∀ (l:List (List UInt8)) {t:Tr},AscT t->(∀ d ∈ l,∀ f,atT t d=some f->f.b=[])->sizeT (makeT t l)=sizeT t
 | [],t,_,_=>rfl
 | d :: l,t,h,hd=>by
  show sizeT (makeT (putT t ⟨d,true,[]⟩) l)=_
  have h1:=(put_count h ⟨d,true,[]⟩).2
  rw [sizeT_make l (asc_put h _) (fun x hx f hf=>by
   rw [at_put] at hf
   by_cases e:d=x
   ·rw [if_pos e] at hf;cases hf;rfl
   ·rw [if_neg e] at hf
    exact hd x (by simp [hx]) f hf)]
  cases hx:atT t d with
  | none=>rw [hx] at h1;simpa using h1
  | some f =>
   have:=hd d (by simp) f hx
   rw [hx] at h1
   simp [this] at h1
   exact h1
theorem asc_make:∀ (l:List (List UInt8)) {t:Tr},AscT t->AscT (makeT t l)
 | [],_,h=>h
 | _ :: l,_,h=>asc_make l (asc_put h _)
theorem at_make:∀ (l:List (List UInt8)) (t:Tr) (p:List UInt8),p ∉ l->atT (makeT t l) p=atT t p
 | [],t,p,_=>rfl
 | d :: l,t,p,h=>by
  show atT (makeT (putT t ⟨d,true,[]⟩) l) p=_
  rw [at_make l _ p (fun e=>h (by simp [e])),at_put,if_neg (fun e=>h (by rw [<- e];simp))]
theorem ahead_lack (t:Tr):∀ (n:Nat) (d:List UInt8) (out out':List (List UInt8)),aheadG t n d out=some out'->(∀ x ∈ out,atT t x=none)->∀ x ∈ out',atT t x=none
 | 0,d,out,out',h,ho=>by unfold aheadG at h;cases h;exact ho
 | n+1,d,out,out',h,ho=>by
  unfold aheadG at h
  split at h
  ·cases h;exact ho
  ·split at h
   ·rename_i hx
    exact ahead_lack t n _ _ _ h (fun x hx2=>by
     rcases List.mem_append.1 hx2 with e | e
     ·exact ho x e
     ·rw [List.mem_singleton.1 e];exact hx)
   ·split at h
    ·exact ahead_lack t n _ _ _ h ho
    ·cases h
theorem aheadT_lack {t:Tr} {p:List UInt8} {l:List (List UInt8)} (h:aheadT t p=some l) (hp:p ≠ []):(∀ x ∈ l,atT t x=none)/\p ∉ l:=by
 refine ⟨ahead_lack t _ _ _ _ h (fun x hx=>by cases hx),fun e=>?_⟩
 obtain ⟨-,-,h3⟩:=ahead_all t _ _ _ _ h
 rcases h3 p e with e2 | e2
 ·cases e2
 ·have h4:=parent_len p
  have h5:=List.length_pos_iff.2 hp
  omega
theorem mem_size {f:Fl}:∀ {t:Tr},f ∈ t->f.b.length<=sizeT t
 | g :: t,h=>by
  simp only [sizeT,List.map_cons,List.sum_cons]
  rcases List.mem_cons.1 h with rfl | h
  ·omega
  ·have:=mem_size h
   simp only [sizeT] at this
   omega
theorem node_size {t:Tr} {p c:List UInt8} {d:Bool} (h:nodeT t p=some (d,c)):c.length<=sizeT t:=by
 unfold nodeT at h
 split at h
 ·cases h;exact Nat.zero_le _
 ·obtain ⟨f,hf,e⟩:=Option.map_eq_some_iff.1 h
  cases e
  exact mem_size (at_path hf).2
theorem node_old {t:Tr} {p c:List UInt8} {d:Bool} (h:nodeT t p=some (d,c)) (hp:p ≠ []):(match atT t p with | some g=>g.b.length | none=>0)=c.length:=by
 unfold nodeT at h
 rw [if_neg hp] at h
 obtain ⟨f,hf,e⟩:=Option.map_eq_some_iff.1 h
 cases e
 rw [hf]
theorem node_none {t:Tr} {p:List UInt8} (h:nodeT t p=none) (hp:p ≠ []):(match atT t p with | some g=>g.b.length | none=>0)=0:=by
 unfold nodeT at h
 rw [if_neg hp] at h
 rw [Option.map_eq_none_iff.1 h]
theorem write_count {t:Tr} (h:AscT t) {p b:List UInt8} {l:List (List UInt8)} (hl:aheadT t p=some l) (hp:p ≠ []) :
  sizeT (putT (makeT t l) ⟨p,false,b⟩)+(match atT t p with | some g=>g.b.length | none=>0)=sizeT t+b.length:=by
 obtain ⟨h1,h2⟩:=aheadT_lack hl hp
 have h3:=(put_count (asc_make l h) ⟨p,false,b⟩).2
 rw [show (⟨p,false,b⟩:Fl).path=p from rfl,at_make l t p h2,sizeT_make l h (fun d hd f hf=>by rw [h1 d hd] at hf;cases hf)] at h3
 exact h3
def ChgPost (w':World) (q m:Nat) (t:Tr) (r:Tr ⊕ Nat) (e:Ending):Prop:=match r with
 | .inr c=>e=.returned (.int .i64 (c:Int))/\∃ g',TrM w' q m g' t (sizeT t:Int)
 | .inl t'=>e=.returned (.int .i64 0)/\∃ g',TrM w' q m g' t' (sizeT t':Int)
set_option maxRecDepth 100000 in
set_option maxHeartbeats 8000000 in
theorem tput_any {w:World} {q m:Nat} {g:List UInt8->Nat} {t:Tr} (h:TrM w q m g t (sizeT t:Int)) (s b:List UInt8) (v:Value) (hs:s.length<=1000000) (hv:SvX w No v b.length (bv b)) (hb:b.length<=1000000) (ht:t.length<=10000) (hz:sizeT t<=10000000) (hgl:Gl w) :
  Calls prog 139 #[.pointer (some ⟨q,0,none⟩),strV s,v,.bool false] w fun e w'=>ChgPost w' q m t (writeT t s b) e/\Mod (fun k=>k=q\/k=m) w w':=by
 refine calls_hide fun R hR=>?_
 have H:=zh h
 have HV:=zh hv
 have HCL:=zh (clean_any s hs w hgl)
 have HCA:=zh (clean_all s)
 have HWT:=zh (show writeT t s b=match cleanP s with
  |(p,e)=>if e ≠ 0 then .inr e else match nodeT t p with
   | some (true,_)=>.inr 54
   | some (false,c)=>match aheadT t p with
    | none=>.inr 54
    | some lack=>if 65536 < b.length\/roomT t 0 b.length c.length=false then .inr 55 else .inl (putT (makeT t lack) ⟨p,false,b⟩)
   | none=>match aheadT t p with
    | none=>.inr 54
    | some lack=>if 65536 < b.length\/roomT t (lack.length+1) b.length 0=false then .inr 55 else .inl (putT (makeT t lack) ⟨p,false,b⟩) from rfl)
 obtain ⟨va,vc,rfl⟩:=hv.1
 obtain ⟨⟨p,c⟩,hcl⟩:∃ z,z=cleanP s:=⟨_,rfl⟩
 rw [<- hcl] at HCL HCA HWT
 dsimp only at HCL HCA HWT
 clear h hv hcl
 unfold strV at *
 generalize (⟨s.toArray⟩:ByteArray)=Z at *
 go_enter func139,ntmps139
 go_wp2_with fail
 with_reducible refine HCL.out.mono ?_
 rintro e w1 ⟨rfl,hm1⟩
 have HM1:=zh hm1
 have H1:=zh (H.out.no hm1)
 clear hm1 HCL
 by_cases hc:c=0
 ·subst hc
  have hpl:p.length<=1000000:=by have:=HCA.out.1;omega
  have HAT:=zh (tat_any H1.out p hpl)
  unfold strV at *
  generalize hPP:(⟨p.toArray⟩:ByteArray)=P at *
  have HPP:=zh (show strV p=.string P by unfold strV;rw [hPP])
  clear hPP
  go_wp2_with fail
  with_reducible refine HAT.out.mono ?_
  rintro e w2 ⟨hat,hm2⟩
  have HM2:=zh (HM1.out.trans hm2)
  have H2:=zh (H1.out.no hm2)
  clear hm2 HAT
  by_cases hp0:p=[]
  ·subst hp0
   obtain ⟨nb,nv,rfl,hnb,-⟩:∃ b v,e=.returned (.pointer (some ⟨b,0,none⟩))/\w2.heap[b]? = some (.cells #[.bool true,v] 150 (0,0))/\Sl w2 No 5 v 0 (bv []):=hat
   have n0:=cell_ofA hnb (i:=0) rfl
   have HW2:=zh (show writeT t s b=.inr 54 from HWT.out)
   clear HWT
   go_wp2_with fail
   refine fin hR ⟨?_,HM2.out.weaken (fun _ _ f=>f.elim)⟩
   rw [HW2.out]
   exact ⟨rfl,_,H2.out⟩
  have HP0:=zh hp0
  have HAH0:=zh (tahead_any H2.out p hpl)
  have HAH:=zh (show Calls prog 136 #[.pointer (some ⟨q,0,none⟩),.string P] w2 fun e w'=>AheadPost w2 w' t p e/\Mod No w2 w' from by rw [<- HPP.out];exact HAH0.out)
  clear HAH0
  unfold AtPost at hat
  cases hnd:nodeT t p with
  | none =>
   rw [hnd] at hat HWT
   have hat:e=.returned (.pointer none):=hat
   subst hat
   go_wp2_with fail
   with_reducible refine HAH.out.mono ?_
   rintro e w3 ⟨hah,hm3⟩
   have HM3:=zh (HM2.out.trans hm3)
   have H3:=zh (H2.out.no hm3)
   have HMB:=zh hm3
   clear hm3 HAH
   unfold AheadPost at hah
   cases hal:aheadT t p with
   | none =>
    rw [hal] at hah HWT
    have hah:e=.returned (.tuple #[.slice none 0 0,.int .i64 54]):=hah
    subst hah
    have HW2:=zh (show writeT t s b=.inr 54 from HWT.out)
    clear HWT hal
    go_wp2_with fail
    refine fin hR ⟨?_,HM3.out.weaken (fun _ _ f=>f.elim)⟩
    rw [HW2.out]
    exact ⟨rfl,_,H3.out⟩
   | some lack =>
    rw [hal] at hah HWT
    obtain ⟨lv,rfl,hown⟩:=hah
    have HW2:=zh (show writeT t s b=if 65536 < b.length\/roomT t (lack.length+1) b.length 0=false then .inr 55 else .inl (putT (makeT t lack) ⟨p,false,b⟩) from HWT.out)
    have HLK:=zh (aheadT_lack hal HP0.out)
    have HWC:=zh (show sizeT (putT (makeT t lack) ⟨p,false,b⟩)+0=sizeT t+b.length from by have h:=write_count (b:=b) H3.out.asc hal HP0.out;rw [node_none hnd HP0.out] at h;exact h)
    have HLA:=zh (aheadT_all hal)
    have hll:lack.length<=11:=by have h1:=HLA.out.1;have h2:=HCA.out.2;omega
    have HLS:=zh (Sl.of_own (X:=No) hown (fun _ _ f=>f))
    obtain ⟨la,lc,rfl⟩:=own_len hown
    clear HWT hown
    have HRM:=zh (troom_any H3.out ((lack.length:Int)+1) (b.length:Int) (by omega) (by omega) (by omega) (by omega))
    have HRE:=zh (show (decide (((lack.length:Int)+1)<=500 - (t.length:Int)) && decide ((b.length:Int)<=1048576 - (sizeT t:Int)))=roomT t (lack.length+1) b.length 0 by
     unfold roomT
     rw [Bool.eq_iff_iff]
     simp
     omega)
    by_cases hbig:65536 < b.length
    ·have hb1:(65536:Int) < (b.length:Int):=by omega
     go_wp2_with fail
     refine fin hR ⟨?_,HM3.out.weaken (fun _ _ f=>f.elim)⟩
     rw [HW2.out,if_pos (.inl hbig)]
     exact ⟨rfl,_,H3.out⟩
    ·have hb1:¬ (65536:Int) < (b.length:Int):=by omega
     rw [HRE.out] at HRM
     go_wp2_with fail
     with_reducible refine HRM.out.mono ?_
     rintro e w4 ⟨rfl,rfl⟩
     clear HRM HRE
     cases hrm:roomT t (lack.length+1) b.length 0 with
     | false =>
      go_wp2_with fail
      refine fin hR ⟨?_,HM3.out.weaken (fun _ _ f=>f.elim)⟩
      rw [HW2.out,if_pos (.inr hrm)]
      exact ⟨rfl,_,H3.out⟩
     | true =>
      have HW3:=zh (show writeT t s b=.inl (putT (makeT t lack) ⟨p,false,b⟩) by rw [HW2.out,if_neg (by rintro (h | h);exact hbig h;rw [hrm] at h;cases h)])
      have HMK:=zh (tmake_any H3.out lack (.slice la lack.length lc) HLS.out (fun d hd=>by have h1:=HLA.out.2 d hd;omega) (by omega))
      clear hbig hrm HW2
      go_wp2_with fail
      with_reducible refine HMK.out.mono ?_
      rintro e w5 ⟨rfl,⟨g5,h5⟩,hm5⟩
      have hmm:Mod (fun k=>k=q\/k=m) w w5:=(HM3.out.weaken (fun _ _ f=>f.elim)).trans (hm5.weaken (fun _ _ e=>.inr e))
      have H5:=zh h5
      have HM5:=zh hmm
      have HV5:=zh (show SvX w5 No (.slice va b.length vc) b.length (bv b) from (HV.out.kn HM3.out).keepM hm5 (fun k cur e fz hk hc=>by subst hk;exact H3.out.map.not_cells _ _ _ hc))
      clear h5 hm5 hmm HMK H3 HM3 HV
      obtain ⟨t',ht'⟩:∃ t',t'=putT (makeT t lack) ⟨p,false,b⟩:=⟨_,rfl⟩
      have hml:=(make_all lack t).1
      rw [<- ht'] at HWC HW3
      have HTT:=zh ht'
      have e9:(sizeT t:Int)+(b.length:Int)=(sizeT t':Int):=by have h:=HWC.out;omega
      clear ht' HWC HLK HLA HLS hal hnd
      go_upto_region 18 with fail
      have hm6:Mod No w5 w5.drew:=(Mod.refl No w5).drew
      have HD5:=zh (H5.out.no hm6)
      have k1:=cell_ofA HD5.out.obj (i:=0) rfl
      have HCL:=zh (clone_sv (.slice va b.length vc) (bv b) w5.drew (by rw [bv_length];exact HV5.out.kn hm6) (bv_one _) (by rw [bv_length];omega))
      clear hm6 HV5
      go_region_held3 (fun w'=>w'.cell? ⟨q,0,none⟩=some (.map (some m))) (first | assumption) ((first | (go_at_call 81;refine HCL.out.mono ?_;rintro e w6 ⟨⟨v',rfl,hown⟩,hm6⟩;rw [bv_length] at hown;obtain ⟨a6,c6,rfl⟩:=own_len hown;have HO6:=zh hown;have HM6:=zh hm6;have k2:=Mod.cell hm6 (show World.cell? w5.drew _=_ from k1) (fun f=>f);have hm7:=(Mod.refl No w6).alloc (.cells #[.bool false,.slice a6 b.length c6] 150);have k7:=Mod.cell hm7 k2 (fun f=>f);have ht7:=(HD5.out.no hm6).no hm7;obtain ⟨w8,hst,hvm,hm8,-⟩:=ht7.map.put (t:=159) underlying159 (by unfold maxLen;omega) p (by omega) (.pointer (some ⟨w6.heap.size,0,none⟩));have HVM:=zh hvm;have HM8:=zh hm8;have HT7:=zh ht7;have k8:=Mod.cell hm8 k7 (fun e=>ht7.ne e);rw [show (.string ⟨p.toArray⟩:Value)=.string P from HPP.out] at hst;clear hown hm6 hm7 ht7 hvm hm8)))
      have hnd7:=heap_alloc_new w6 (.cells #[.bool false,.slice a6 b.length c6] 150)
      have hnd8:=HM8.out.keep hnd7 (fun e=>HT7.out.map.not_cells _ _ _ (e ▸ hnd7))
      have hsl8:Sl w8 No 5 (.slice a6 b.length c6) b.length (bv b):=((Sl.of_own (X:=No) HO6.out (fun _ _ f=>f)).keep (S:=No) ((Mod.refl No w6).alloc _) (fun _ _ _ f=>f.elim)).keep HM8.out (fun k cur fz hk _ hc=>by subst hk;exact HT7.out.map.not_cells _ _ _ hc)
      have ht8:=HT7.out.put (f:=⟨p,false,b⟩) HVM.out HM8.out ⟨_,hnd8,hsl8⟩
      rw [<- HTT.out] at ht8
      have HT8:=zh ht8
      have HM9:=zh (show Mod (fun k=>k=q\/k=m) w w8 from ((HM5.out.trans ((Mod.refl No w5).drew.weaken (fun _ _ f=>f.elim))).trans (HM6.out.weaken (fun _ _ f=>f.elim))).trans ((((Mod.refl No w6).alloc (.cells #[.bool false,.slice a6 b.length c6] 150)).weaken (fun _ _ f=>f.elim)).trans (HM8.out.weaken (fun _ _ e=>.inr e))))
      have c1:=cell_ofA ht8.obj (i:=1) rfl
      have f1:=frozen_of 1 ht8.obj
      clear hnd7 hnd8 hsl8 ht8 k1 k2 k7 k8 hst HVM HM8 HT7 HO6 HM6 HCL HD5 H5 HM5
      go_wp2_with fail
      refine fin hR ⟨?_,HM9.out.setCell (fun _=>.inl rfl) _⟩
      rw [HW3.out]
      exact ⟨rfl,_,HT8.out.sized _⟩
  | some dc =>
   obtain ⟨d,ct⟩:=dc
   rw [hnd] at hat HWT
   obtain ⟨nb,nv,rfl,hnb,hnv⟩:=hat
   have n0:=cell_ofA hnb (i:=0) rfl
   cases d with
   | true =>
    have HW2:=zh (show writeT t s b=.inr 54 from HWT.out)
    clear HWT HAH
    go_wp2_with fail
    refine fin hR ⟨?_,HM2.out.weaken (fun _ _ f=>f.elim)⟩
    rw [HW2.out]
    exact ⟨rfl,_,H2.out⟩
   | false =>
    have HNB:=zh hnb
    obtain ⟨na,nc,rfl⟩:=hnv.len
    have hctl:ct.length<=10000000:=Nat.le_trans (node_size hnd) hz
    clear hnb hnv
    go_wp2_with fail
    with_reducible refine HAH.out.mono ?_
    rintro e w3 ⟨hah,hm3⟩
    have HM3:=zh (HM2.out.trans hm3)
    have H3:=zh (H2.out.no hm3)
    have HMB:=zh hm3
    clear hm3 HAH
    unfold AheadPost at hah
    cases hal:aheadT t p with
    | none =>
     rw [hal] at hah HWT
     have hah:e=.returned (.tuple #[.slice none 0 0,.int .i64 54]):=hah
     subst hah
     have HW2:=zh (show writeT t s b=.inr 54 from HWT.out)
     clear HWT hal
     go_wp2_with fail
     refine fin hR ⟨?_,HM3.out.weaken (fun _ _ f=>f.elim)⟩
     rw [HW2.out]
     exact ⟨rfl,_,H3.out⟩
    | some lack =>
     rw [hal] at hah HWT
     obtain ⟨lv,rfl,hown⟩:=hah
     have HW2:=zh (show writeT t s b=if 65536 < b.length\/roomT t 0 b.length ct.length=false then .inr 55 else .inl (putT (makeT t lack) ⟨p,false,b⟩) from HWT.out)
     have HLK:=zh (aheadT_lack hal HP0.out)
     have HWC:=zh (show sizeT (putT (makeT t lack) ⟨p,false,b⟩)+ct.length=sizeT t+b.length from by have h:=write_count (b:=b) H3.out.asc hal HP0.out;rw [node_old hnd HP0.out] at h;exact h)
     have HLA:=zh (aheadT_all hal)
     have hll:lack.length<=11:=by have h1:=HLA.out.1;have h2:=HCA.out.2;omega
     have HLS:=zh (Sl.of_own (X:=No) hown (fun _ _ f=>f))
     obtain ⟨la,lc,rfl⟩:=own_len hown
     clear HWT hown
     have HRM:=zh (troom_any H3.out 0 ((b.length:Int) - (ct.length:Int)) (by omega) (by omega) (by omega) (by omega))
     have HRE:=zh (show (decide (0<=500 - (t.length:Int)) && decide (((b.length:Int) - (ct.length:Int))<=1048576 - (sizeT t:Int)))=roomT t 0 b.length ct.length by
      unfold roomT
      rw [Bool.eq_iff_iff]
      simp
      omega)
     have hnb3:=HMB.out.keep HNB.out (fun f=>f)
     have n1:=cell_ofA hnb3 (i:=1) rfl
     by_cases hbig:65536 < b.length
     ·have hb1:(65536:Int) < (b.length:Int):=by omega
      go_wp2_with fail
      refine fin hR ⟨?_,HM3.out.weaken (fun _ _ f=>f.elim)⟩
      rw [HW2.out,if_pos (.inl hbig)]
      exact ⟨rfl,_,H3.out⟩
     ·have hb1:¬ (65536:Int) < (b.length:Int):=by omega
      rw [HRE.out] at HRM
      go_wp2_with fail
      with_reducible refine HRM.out.mono ?_
      rintro e w4 ⟨rfl,rfl⟩
      clear HRM HRE
      cases hrm:roomT t 0 b.length ct.length with
      | false =>
       go_wp2_with fail
       refine fin hR ⟨?_,HM3.out.weaken (fun _ _ f=>f.elim)⟩
       rw [HW2.out,if_pos (.inr hrm)]
       exact ⟨rfl,_,H3.out⟩
      | true =>
       have HW3:=zh (show writeT t s b=.inl (putT (makeT t lack) ⟨p,false,b⟩) by rw [HW2.out,if_neg (by rintro (h | h);exact hbig h;rw [hrm] at h;cases h)])
       have HMK:=zh (tmake_any H3.out lack (.slice la lack.length lc) HLS.out (fun d hd=>by have h1:=HLA.out.2 d hd;omega) (by omega))
       clear hbig hrm HW2
       go_wp2_with fail
       with_reducible refine HMK.out.mono ?_
       rintro e w5 ⟨rfl,⟨g5,h5⟩,hm5⟩
       have hmm:Mod (fun k=>k=q\/k=m) w w5:=(HM3.out.weaken (fun _ _ f=>f.elim)).trans (hm5.weaken (fun _ _ e=>.inr e))
       have H5:=zh h5
       have HM5:=zh hmm
       have HV5:=zh (show SvX w5 No (.slice va b.length vc) b.length (bv b) from (HV.out.kn HM3.out).keepM hm5 (fun k cur e fz hk hc=>by subst hk;exact H3.out.map.not_cells _ _ _ hc))
       clear h5 hm5 hmm HMK H3 HM3 HV
       obtain ⟨t',ht'⟩:∃ t',t'=putT (makeT t lack) ⟨p,false,b⟩:=⟨_,rfl⟩
       have hml:=(make_all lack t).1
       rw [<- ht'] at HWC HW3
       have HTT:=zh ht'
       have e9:(sizeT t:Int)+((b.length:Int) - (ct.length:Int))=(sizeT t':Int):=by have h:=HWC.out;omega
       clear ht' HWC HLK HLA HLS hal hnd
       go_upto_region 18 with fail
       have hm6:Mod No w5 w5.drew:=(Mod.refl No w5).drew
       have HD5:=zh (H5.out.no hm6)
       have k1:=cell_ofA HD5.out.obj (i:=0) rfl
       have HCL:=zh (clone_sv (.slice va b.length vc) (bv b) w5.drew (by rw [bv_length];exact HV5.out.kn hm6) (bv_one _) (by rw [bv_length];omega))
       clear hm6 HV5
       go_region_held3 (fun w'=>w'.cell? ⟨q,0,none⟩=some (.map (some m))) (first | assumption) ((first | (go_at_call 81;refine HCL.out.mono ?_;rintro e w6 ⟨⟨v',rfl,hown⟩,hm6⟩;rw [bv_length] at hown;obtain ⟨a6,c6,rfl⟩:=own_len hown;have HO6:=zh hown;have HM6:=zh hm6;have k2:=Mod.cell hm6 (show World.cell? w5.drew _=_ from k1) (fun f=>f);have hm7:=(Mod.refl No w6).alloc (.cells #[.bool false,.slice a6 b.length c6] 150);have k7:=Mod.cell hm7 k2 (fun f=>f);have ht7:=(HD5.out.no hm6).no hm7;obtain ⟨w8,hst,hvm,hm8,-⟩:=ht7.map.put (t:=159) underlying159 (by unfold maxLen;omega) p (by omega) (.pointer (some ⟨w6.heap.size,0,none⟩));have HVM:=zh hvm;have HM8:=zh hm8;have HT7:=zh ht7;have k8:=Mod.cell hm8 k7 (fun e=>ht7.ne e);rw [show (.string ⟨p.toArray⟩:Value)=.string P from HPP.out] at hst;clear hown hm6 hm7 ht7 hvm hm8)))
       have hnd7:=heap_alloc_new w6 (.cells #[.bool false,.slice a6 b.length c6] 150)
       have hnd8:=HM8.out.keep hnd7 (fun e=>HT7.out.map.not_cells _ _ _ (e ▸ hnd7))
       have hsl8:Sl w8 No 5 (.slice a6 b.length c6) b.length (bv b):=((Sl.of_own (X:=No) HO6.out (fun _ _ f=>f)).keep (S:=No) ((Mod.refl No w6).alloc _) (fun _ _ _ f=>f.elim)).keep HM8.out (fun k cur fz hk _ hc=>by subst hk;exact HT7.out.map.not_cells _ _ _ hc)
       have ht8:=HT7.out.put (f:=⟨p,false,b⟩) HVM.out HM8.out ⟨_,hnd8,hsl8⟩
       rw [<- HTT.out] at ht8
       have HT8:=zh ht8
       have HM9:=zh (show Mod (fun k=>k=q\/k=m) w w8 from ((HM5.out.trans ((Mod.refl No w5).drew.weaken (fun _ _ f=>f.elim))).trans (HM6.out.weaken (fun _ _ f=>f.elim))).trans ((((Mod.refl No w6).alloc (.cells #[.bool false,.slice a6 b.length c6] 150)).weaken (fun _ _ f=>f.elim)).trans (HM8.out.weaken (fun _ _ e=>.inr e))))
       have c1:=cell_ofA ht8.obj (i:=1) rfl
       have f1:=frozen_of 1 ht8.obj
       clear hnd7 hnd8 hsl8 ht8 k1 k2 k7 k8 hst HVM HM8 HT7 HO6 HM6 HCL HD5 H5 HM5
       go_wp2_with fail
       refine fin hR ⟨?_,HM9.out.setCell (fun _=>.inl rfl) _⟩
       rw [HW3.out]
       exact ⟨rfl,_,HT8.out.sized _⟩
 ·have hc0:((c:Int) == 0)=false:=by rw [beq_eq_false_iff_ne];omega
  go_wp2_with fail
  refine fin hR ⟨?_,HM1.out.weaken (fun _ _ f=>f.elim)⟩
  rw [HWT.out,if_pos hc]
  exact ⟨rfl,_,H1.out⟩
end Go.Proofs.YtmppeipgjcjdkaaGreatDoor
