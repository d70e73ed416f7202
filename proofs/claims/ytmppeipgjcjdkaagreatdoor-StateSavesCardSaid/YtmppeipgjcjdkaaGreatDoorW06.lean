/-
  Layers 0 to 14: helps of the laws of indexes. No statement is proved here; no condition.
-/
import Derived.Test.YtmppeipgjcjdkaaGreatDoorW03
import Derived.Test.YtmppeipgjcjdkaaGreatDoorW05
import Derived.Defers
import Derived.Recover
namespace Go.Proofs.YtmppeipgjcjdkaaGreatDoor
open _root_.Go.Proofs.Tryz
open Go.RowKit
set_option maxRecDepth 100000 in
set_option maxHeartbeats 1000000 in
theorem rstop_idle (p k:Nat) (w:World) :
  CallsD prog 180 #[.pointer (some ⟨p,0,none⟩),.pointer (some ⟨k,0,none⟩)] .returning w fun e u' w'=>e=.returned (.tuple #[])/\u'=.returning/\w'=w:=by
 refine callsD_of_wpS func180 rfl fun c₀ cs hu=>?_
 apply wpS_seq
 apply wpS_region
 simp [wpOpsS,go_sem,recoverD,hu,ntmps180,Exit.thenS]
 refine wpS_of_wp ?_
 refine wp_mono (Q:=Exit.then (fun a' w'=>a'.defers=[]/\w'=w) Nope) ?_ ?_
 ·refine wp_part fun J K' hJ hK=>?_
  simp only [Array.replicate_succ,Array.replicate_zero]
  go_wp2_with fail
  exact Met.intro (hJ _ _ ⟨rfl,rfl⟩)
 ·rintro e a' w' hq
  cases e with
  | normal =>
   obtain ⟨hd,rfl⟩:=hq
   cases c₀
   simp_all [bodyPostS,results,results180]
  | exit id=>exact hq.elim
  | goto l=>exact hq.elim
  | ret=>exact hq.elim
  | panic ch=>exact hq.elim
  | outgrown=>exact hq.elim
theorem assert_stopC (w:World) (v:Value):(Instr.typeAssert (.iface 265 v) 20 265 true).run prog w=.ok (.tuple #[v,.bool true]) w:=by kernel_rfl
set_option maxRecDepth 100000 in
set_option maxHeartbeats 1000000 in
theorem rstop_caught (p k q:Nat) (x f:Bool) (v:Value) (w:World) (hp:w.heap[p]? = some (.cells #[.pointer (some ⟨q,0,none⟩)] 139 (0,0))) (hk:w.heap[k]? = some (.cells #[.bool x] 4 (0,0))) (hq:w.heap[q]? = some (.cells #[v,.bool f] 221 (0,0))) :
  CallsD prog 180 #[.pointer (some ⟨p,0,none⟩),.pointer (some ⟨k,0,none⟩)] (.panicking [{ v:=stopC,recovered:=false }]) w fun e u' w' =>
   e=.returned (.tuple #[])/\u'=.panicking [{ v:=stopC,recovered:=true }]/\w'.heap[k]? = some (.cells #[.bool false] 4 (0,0))/\w'.heap[q]? = some (.cells #[v,.bool true] 221 (0,0))/\Mod (fun i=>i=k\/i=q) w w':=by
 refine callsD_of_wpS func180 rfl fun c₀ cs hu=>?_
 apply wpS_seq
 apply wpS_region
 simp [wpOpsS,go_sem,recoverD,hu,ntmps180,Exit.thenS]
 refine wpS_of_wp ?_
 refine wp_mono (Q:=Exit.then (fun a' w'=>a'.defers=[]/\w'.heap[k]? = some (.cells #[.bool false] 4 (0,0))/\w'.heap[q]? = some (.cells #[v,.bool true] 221 (0,0))/\Mod (fun i=>i=k\/i=q) w w') Nope) ?_ ?_
 ·refine wp_part fun J K' hJ hK=>?_
  have hta:=assert_stopC
  simp only [Array.replicate_succ,Array.replicate_zero]
  have hpl:=lt_of_heap hp
  have hql:=lt_of_heap hq
  have hkl:=lt_of_heap hk
  have hqk:q ≠ k:=fun e=>by subst e;rw [hq] at hk;cases hk
  obtain ⟨wd,hwd⟩:∃ wd,wd=w.alloc (.cells #[] 265):=⟨_,rfl⟩
  have hmd:Mod No w wd:=by rw [hwd];exact (Mod.refl No w).alloc _
  have hp1:=hmd.keep hp (fun f=>f)
  have hq1:=hmd.keep hq (fun f=>f)
  have hk1:=hmd.keep hk (fun f=>f)
  have pc:=cell_of (i:=0) hp1 rfl
  have qc:=cell_of (i:=1) hq1 rfl
  have qf:=frozen_of 1 hq1
  have m2:Mod (fun i=>i=q) wd (wd.setCell ⟨q,1,none⟩ (.bool true)):=(Mod.refl (fun i=>i=q) wd).setCell (fun _=>rfl) _
  have hk2:=m2.keep hk1 (Ne.symm hqk)
  have kc:=cell_of (i:=0) hk2 rfl
  have kf:=frozen_of 0 hk2
  have hq2:=heap_setCell hq1 (i:=1) (.bool true)
  have m3:Mod (fun i=>i=k) (wd.setCell ⟨q,1,none⟩ (.bool true)) ((wd.setCell ⟨q,1,none⟩ (.bool true)).setCell ⟨k,0,none⟩ (.bool false)):=(Mod.refl (fun i=>i=k) _).setCell (fun _=>rfl) _
  have R1:=zh (m3.keep hq2 hqk)
  have R2:=zh (heap_setCell hk2 (i:=0) (.bool false))
  have R3:=zh (show Mod (fun i=>i=k\/i=q) w ((wd.setCell ⟨q,1,none⟩ (.bool true)).setCell ⟨k,0,none⟩ (.bool false)) from
   ((hmd.weaken fun _ _ f=>f.elim).setCell (fun _=>.inr rfl) _).setCell (fun _=>.inl rfl) _)
  have HWD:=zh hwd
  clear hp hq hk hmd hp1 hq1 hk1 m2 hk2 hq2 m3 hqk hpl hql hkl
  subst hwd
  go_wp2_with fail
  exact Met.intro (hJ _ _ ⟨rfl,R2.out,R1.out,R3.out⟩)
 ·rintro e a' w' hq
  cases e with
  | normal =>
   obtain ⟨hd,h1,h2,h3⟩:=hq
   cases c₀
   simp_all [bodyPostS,results,results180]
  | exit id=>exact hq.elim
  | goto l=>exact hq.elim
  | ret=>exact hq.elim
  | panic ch=>exact hq.elim
  | outgrown=>exact hq.elim
theorem rtry_set {q:Nat} {v:Value} {L:List UInt8} {f:Bool} {w w':World} {S:Nat->Prop} (h:RdAt w q v L f) (hq:w'.heap[q]? = some (.cells #[v,.bool true] 221 (0,0))) (hm:Mod S w w') (hs:∀ k cur fz,S k->w.heap[k]? ≠ some (.cells cur 5 fz)):RdAt w' q v L true :=
 ⟨hq,h.row.keep hm fun k cur fz s _=>hs k cur fz s⟩
set_option maxRecDepth 100000 in
set_option maxHeartbeats 1000000 in
theorem rtry_bool_failed {q:Nat} {v c1 c2:Value} {L:List UInt8} {w:World} (h:RdAt w q v L true) :
  Calls prog 129 #[.pointer (some ⟨q,0,none⟩),.func (.func 130) #[] #[c1,c2]] w fun e w'=>e=.returned (.bool false)/\Mod No w w':=by
 refine calls_hide fun R hR=>?_
 have hmf:∀ (fn:Fn) (first cap:Array Value) (w:World),(Instr.makeFunc fn first cap).run prog w=.ok (.func fn first cap) w:=fun _ _ _ _=>rfl
 have hql:=lt_of_heap h.obj
 obtain ⟨w1,hw1⟩:∃ w1,w1=(w.alloc (.cells #[.pointer (some ⟨q,0,none⟩)] 139)).alloc (.cells #[.bool false] 4):=⟨_,rfl⟩
 have m1:Mod No w w1:=by rw [hw1];exact ((Mod.refl No w).alloc _).alloc _
 have cq:=cell_of (i:=1) h.obj rfl
 have R3:=zh m1
 clear m1 h
 go_enter_defers func129,ntmps129
 subst hw1
 go_wp2_with fail
 refine ⟨.bool false,?_,?_⟩
 ·simp [results,results129,go_sem]
 ·exact fin hR ⟨rfl,R3.out⟩
set_option maxRecDepth 100000 in
set_option maxHeartbeats 1000000 in
theorem rtry_bool {q:Nat} {v c1 c2:Value} {L:List UInt8} {w:World} (h:RdAt w q v L false) (S:Nat->Prop) (Yes:World->Prop) (Nay:Prop) (hS:∀ i,S i->i < w.heap.size)
  (hf:∀ w1,Mod No w w1->Calls prog 130 #[c1,c2] w1 fun e w'=>Mod S w1 w'/\((e=.returned (.tuple #[])/\Yes w')\/(e=StoppedC/\Nay/\∃ v L',RdAt w' q v L' false))) :
  Calls prog 129 #[.pointer (some ⟨q,0,none⟩),.func (.func 130) #[] #[c1,c2]] w fun e w'=>∃ wy,Mod S w wy ∧
   ((e=.returned (.bool true)/\Yes wy/\wy.heap[w.heap.size+1]? = some (.cells #[.bool false] 4 (0,0))/\Mod (fun i=>i=w.heap.size+1) wy w')\/(e=.returned (.bool false)/\Nay/\(∃ v L',RdAt w' q v L' true)/\Mod (fun i=>i=w.heap.size+1\/i=q) wy w')):=by
 refine calls_hide fun R hR=>?_
 have hmf:∀ (fn:Fn) (first cap:Array Value) (w:World),(Instr.makeFunc fn first cap).run prog w=.ok (.func fn first cap) w:=fun _ _ _ _=>rfl
 have hql:=lt_of_heap h.obj
 obtain ⟨w1,hw1⟩:∃ w1,w1=(w.alloc (.cells #[.pointer (some ⟨q,0,none⟩)] 139)).alloc (.cells #[.bool false] 4):=⟨_,rfl⟩
 have m1:Mod No w w1:=by rw [hw1];exact ((Mod.refl No w).alloc _).alloc _
 have hp:w1.heap[w.heap.size]? = some (.cells #[.pointer (some ⟨q,0,none⟩)] 139 (0,0)):=by
  rw [hw1];exact heap_alloc_old _ (heap_alloc_new w _)
 have hk:w1.heap[w.heap.size+1]? = some (.cells #[.bool false] 4 (0,0)):=by
  rw [hw1];exact heap_at_new _ _ (by simp)
 have cq:=cell_of (i:=1) h.obj rfl
 have HF:=zh (hf w1 m1)
 have HW1:=zh hw1
 have M1:=zh m1
 have HP:=zh hp
 have HK:=zh hk
 have HS:=zh hS
 clear hf hw1 m1 hp hk hS h
 go_enter_defers func129,ntmps129
 go_wp2_with fail
 rw [<- HW1.out]
 refine HF.out.mono ?_
 clear HF
 rintro e wy ⟨hmy,hcase⟩
 have hpy:=hmy.keep HP.out (fun e=>by have:=HS.out _ e;omega)
 have hky:=hmy.keep HK.out (fun e=>by have:=HS.out _ e;omega)
 have MY:=zh (show Mod S w wy from (M1.out.weaken fun _ _ f=>f.elim).trans hmy)
 have HPY:=zh hpy
 clear HW1
 rcases hcase with ⟨rfl,hy⟩ | ⟨rfl,hna,v',L',hn⟩
 ·have HY:=zh (And.intro hy hky)
  have k0:=cell_of (i:=0) hky rfl
  have kf:=frozen_of 0 hky
  have R2:=zh (cell_of (i:=0) (heap_setCell hky (i:=0) (.bool true)) rfl)
  have R3:=zh (show Mod (fun i=>i=w.heap.size+1) wy (wy.setCell ⟨w.heap.size+1,0,none⟩ (.bool true)) from (Mod.refl (fun i=>i=w.heap.size+1) wy).setCell (fun _=>rfl) _)
  clear hy hpy hky
  go_wp2_with fail
  refine leaves_cons (f:=180) (args:=#[.pointer (some ⟨w.heap.size,0,none⟩),.pointer (some ⟨w.heap.size+1,0,none⟩)]) (by simp) (by simp [go_sem]) ?_
  refine (rstop_idle _ _ _).mono ?_
  rintro e u' w'' ⟨rfl,rfl,rfl⟩
  have r2:=R2.out
  refine ⟨.bool true,?_,?_⟩
  ·simp [results,results129,go_sem,r2]
  ·exact fin hR ⟨wy,MY.out,.inl ⟨rfl,HY.out.1,HY.out.2,R3.out⟩⟩
 ·have HN:=zh hn
  have HNA:=zh hna
  have HKY:=zh hky
  clear hn hna hky hpy
  go_wp2_with fail
  refine leaves_cons (f:=180) (args:=#[.pointer (some ⟨w.heap.size,0,none⟩),.pointer (some ⟨w.heap.size+1,0,none⟩)]) (by simp) (by simp [go_sem]) ?_
  refine (rstop_caught _ _ q _ _ _ _ HPY.out HKY.out HN.out.obj).mono ?_
  rintro e u' w'' ⟨rfl,rfl,r1,r2,hm⟩
  have hrd:=rtry_set HN.out r2 hm (fun i cur fz s e=>by
   rcases s with s | s
   ·subst s;have h:=HKY.out;rw [h] at e;cases e
   ·subst s;have h:=HN.out.obj;rw [h] at e;cases e)
  have r1:=cell_of (i:=0) r1 rfl
  refine ⟨.bool false,?_,?_⟩
  ·simp [results,results129,go_sem,r1]
  ·exact fin hR ⟨wy,MY.out,.inr ⟨rfl,HNA.out,⟨_,_,hrd⟩,hm⟩⟩
set_option maxRecDepth 100000 in
set_option maxHeartbeats 1000000 in
theorem rtry_text_failed {q:Nat} {v c1 c2:Value} {L:List UInt8} {w:World} (h:RdAt w q v L true) :
  Calls prog 129 #[.pointer (some ⟨q,0,none⟩),.func (.func 132) #[] #[c1,c2]] w fun e w'=>e=.returned (.bool false)/\Mod No w w':=by
 refine calls_hide fun R hR=>?_
 have hmf:∀ (fn:Fn) (first cap:Array Value) (w:World),(Instr.makeFunc fn first cap).run prog w=.ok (.func fn first cap) w:=fun _ _ _ _=>rfl
 have hql:=lt_of_heap h.obj
 obtain ⟨w1,hw1⟩:∃ w1,w1=(w.alloc (.cells #[.pointer (some ⟨q,0,none⟩)] 139)).alloc (.cells #[.bool false] 4):=⟨_,rfl⟩
 have m1:Mod No w w1:=by rw [hw1];exact ((Mod.refl No w).alloc _).alloc _
 have cq:=cell_of (i:=1) h.obj rfl
 have R3:=zh m1
 clear m1 h
 go_enter_defers func129,ntmps129
 subst hw1
 go_wp2_with fail
 refine ⟨.bool false,?_,?_⟩
 ·simp [results,results129,go_sem]
 ·exact fin hR ⟨rfl,R3.out⟩
set_option maxRecDepth 100000 in
set_option maxHeartbeats 1000000 in
theorem rtry_text {q:Nat} {v c1 c2:Value} {L:List UInt8} {w:World} (h:RdAt w q v L false) (S:Nat->Prop) (Yes:World->Prop) (Nay:Prop) (hS:∀ i,S i->i < w.heap.size)
  (hf:∀ w1,Mod No w w1->Calls prog 132 #[c1,c2] w1 fun e w'=>Mod S w1 w'/\((e=.returned (.tuple #[])/\Yes w')\/(e=StoppedC/\Nay/\∃ v L',RdAt w' q v L' false))) :
  Calls prog 129 #[.pointer (some ⟨q,0,none⟩),.func (.func 132) #[] #[c1,c2]] w fun e w'=>∃ wy,Mod S w wy ∧
   ((e=.returned (.bool true)/\Yes wy/\wy.heap[w.heap.size+1]? = some (.cells #[.bool false] 4 (0,0))/\Mod (fun i=>i=w.heap.size+1) wy w')\/(e=.returned (.bool false)/\Nay/\(∃ v L',RdAt w' q v L' true)/\Mod (fun i=>i=w.heap.size+1\/i=q) wy w')):=by
 refine calls_hide fun R hR=>?_
 have hmf:∀ (fn:Fn) (first cap:Array Value) (w:World),(Instr.makeFunc fn first cap).run prog w=.ok (.func fn first cap) w:=fun _ _ _ _=>rfl
 have hql:=lt_of_heap h.obj
 obtain ⟨w1,hw1⟩:∃ w1,w1=(w.alloc (.cells #[.pointer (some ⟨q,0,none⟩)] 139)).alloc (.cells #[.bool false] 4):=⟨_,rfl⟩
 have m1:Mod No w w1:=by rw [hw1];exact ((Mod.refl No w).alloc _).alloc _
 have hp:w1.heap[w.heap.size]? = some (.cells #[.pointer (some ⟨q,0,none⟩)] 139 (0,0)):=by
  rw [hw1];exact heap_alloc_old _ (heap_alloc_new w _)
 have hk:w1.heap[w.heap.size+1]? = some (.cells #[.bool false] 4 (0,0)):=by
  rw [hw1];exact heap_at_new _ _ (by simp)
 have cq:=cell_of (i:=1) h.obj rfl
 have HF:=zh (hf w1 m1)
 have HW1:=zh hw1
 have M1:=zh m1
 have HP:=zh hp
 have HK:=zh hk
 have HS:=zh hS
 clear hf hw1 m1 hp hk hS h
 go_enter_defers func129,ntmps129
 go_wp2_with fail
 rw [<- HW1.out]
 refine HF.out.mono ?_
 clear HF
 rintro e wy ⟨hmy,hcase⟩
 have hpy:=hmy.keep HP.out (fun e=>by have:=HS.out _ e;omega)
 have hky:=hmy.keep HK.out (fun e=>by have:=HS.out _ e;omega)
 have MY:=zh (show Mod S w wy from (M1.out.weaken fun _ _ f=>f.elim).trans hmy)
 have HPY:=zh hpy
 clear HW1
 rcases hcase with ⟨rfl,hy⟩ | ⟨rfl,hna,v',L',hn⟩
 ·have HY:=zh (And.intro hy hky)
  have k0:=cell_of (i:=0) hky rfl
  have kf:=frozen_of 0 hky
  have R2:=zh (cell_of (i:=0) (heap_setCell hky (i:=0) (.bool true)) rfl)
  have R3:=zh (show Mod (fun i=>i=w.heap.size+1) wy (wy.setCell ⟨w.heap.size+1,0,none⟩ (.bool true)) from (Mod.refl (fun i=>i=w.heap.size+1) wy).setCell (fun _=>rfl) _)
  clear hy hpy hky
  go_wp2_with fail
  refine leaves_cons (f:=180) (args:=#[.pointer (some ⟨w.heap.size,0,none⟩),.pointer (some ⟨w.heap.size+1,0,none⟩)]) (by simp) (by simp [go_sem]) ?_
  refine (rstop_idle _ _ _).mono ?_
  rintro e u' w'' ⟨rfl,rfl,rfl⟩
  have r2:=R2.out
  refine ⟨.bool true,?_,?_⟩
  ·simp [results,results129,go_sem,r2]
  ·exact fin hR ⟨wy,MY.out,.inl ⟨rfl,HY.out.1,HY.out.2,R3.out⟩⟩
 ·have HN:=zh hn
  have HNA:=zh hna
  have HKY:=zh hky
  clear hn hna hky hpy
  go_wp2_with fail
  refine leaves_cons (f:=180) (args:=#[.pointer (some ⟨w.heap.size,0,none⟩),.pointer (some ⟨w.heap.size+1,0,none⟩)]) (by simp) (by simp [go_sem]) ?_
  refine (rstop_caught _ _ q _ _ _ _ HPY.out HKY.out HN.out.obj).mono ?_
  rintro e u' w'' ⟨rfl,rfl,r1,r2,hm⟩
  have hrd:=rtry_set HN.out r2 hm (fun i cur fz s e=>by
   rcases s with s | s
   ·subst s;have h:=HKY.out;rw [h] at e;cases e
   ·subst s;have h:=HN.out.obj;rw [h] at e;cases e)
  have r1:=cell_of (i:=0) r1 rfl
  refine ⟨.bool false,?_,?_⟩
  ·simp [results,results129,go_sem,r1]
  ·exact fin hR ⟨wy,MY.out,.inr ⟨rfl,HNA.out,⟨_,_,hrd⟩,hm⟩⟩
def RboolPost (w:World) (q:Nat) (L:List UInt8) (e:Ending) (w':World):Prop :=
 Mod (fun k=>k=q) w w'/\((∃ (o:Bool) (L':List UInt8) (v:Value),rdBool L=some (o,L')/\e=.returned (.bool o)/\RdAt w' q v L' false)\/(rdBool L=none/\e=.returned (.bool false)/\∃ v L',RdAt w' q v L' true))
set_option maxRecDepth 100000 in
set_option maxHeartbeats 1000000 in
theorem cbool_any {w:World} {q p k:Nat} {v0 x:Value} {L:List UInt8} (h:RdAt w q v0 L false) (_:L.length<=1000000000) (hp:w.heap[p]? = some (.cells #[.pointer (some ⟨q,0,none⟩)] 139 (0,0))) (hk:w.heap[k]? = some (.cells #[x] 4 (0,0))) (hx:∃ o:Bool,x=.bool o) :
  Calls prog 130 #[.pointer (some ⟨p,0,none⟩),.pointer (some ⟨k,0,none⟩)] w fun e w'=>Mod (fun i=>i=q\/i=k) w w' ∧
   ((e=.returned (.tuple #[])/\∃ (o:Bool) (L':List UInt8) (v:Value),rdBool L=some (o,L')/\RdAt w' q v L' false/\w'.heap[k]? = some (.cells #[.bool o] 4 (0,0)))\/(e=StoppedC/\rdBool L=none/\∃ v L',RdAt w' q v L' false)):=by
 refine calls_hide fun R hR=>?_
 obtain ⟨o0,rfl⟩:=hx
 have pc:=cell_of (i:=0) hp rfl
 have HI:=zh (rbool_any h)
 have HK:=zh hk
 have hqk:k ≠ q:=fun e=>by subst e;rw [h.obj] at hk;cases hk
 clear h hp hk
 go_enter func130,ntmps130
 go_wp2_with fail
 with_reducible refine HI.out.mono ?_
 clear HI
 rintro e w1 ⟨hm,v,L',hrd,⟨o,hn,rfl⟩ | ⟨hn,rfl⟩⟩
 ·have hk1:=hm.keep HK.out hqk
  have kc:=cell_of (i:=0) hk1 rfl
  have kf:=frozen_of 0 hk1
  have hms:Mod (fun i=>i=k) w1 (w1.setCell ⟨k,0,none⟩ (.bool o)):=(Mod.refl (fun i=>i=k) w1).setCell (fun _=>rfl) _
  have R1:=zh (show Mod (fun i=>i=q\/i=k) w (w1.setCell ⟨k,0,none⟩ (.bool o)) from (hm.weaken fun _ _ e=>.inl e).trans (hms.weaken fun _ _ e=>.inr e))
  have R2:=zh (And.intro hn (And.intro (hrd.keep hms (fun e=>hqk e.symm) (fun i cur fz s e=>by subst s;rw [hk1] at e;cases e)) (heap_setCell hk1 (i:=0) (.bool o))))
  clear hm hrd hk1 hms hn
  go_wp2_with fail
  go_end0
  exact fin hR ⟨R1.out,.inl ⟨rfl,_,_,_,R2.out.1,R2.out.2.1,R2.out.2.2⟩⟩
 ·have HX:=zh (And.intro hm (And.intro hn hrd))
  clear hm hn hrd
  go_wp2_with fail
  exact ⟨rfl,fin hR ⟨HX.out.1.weaken fun _ _ e=>.inl e,.inr ⟨rfl,HX.out.2.1,_,_,HX.out.2.2⟩⟩⟩
set_option maxRecDepth 100000 in
set_option maxHeartbeats 1000000 in
theorem rbool_ok {w:World} {q:Nat} {v0:Value} {L:List UInt8} (h:RdAt w q v0 L false) (hL:L.length<=1000000000) :
  Calls prog 67 #[.pointer (some ⟨q,0,none⟩)] w (RboolPost w q L):=by
 refine calls_hide fun R hR=>?_
 have hmf:∀ (fn:Fn) (first cap:Array Value) (w:World),(Instr.makeFunc fn first cap).run prog w=.ok (.func fn first cap) w:=fun _ _ _ _=>rfl
 have hql:=lt_of_heap h.obj
 obtain ⟨w1,hw1⟩:∃ w1,w1=(w.alloc (.cells #[.pointer (some ⟨q,0,none⟩)] 139)).alloc (.cells #[.bool false] 4):=⟨_,rfl⟩
 have m1:Mod No w w1:=by rw [hw1];exact ((Mod.refl No w).alloc _).alloc _
 have hz1:w1.heap.size=w.heap.size+2:=by rw [hw1];simp
 have hp:w1.heap[w.heap.size]? = some (.cells #[.pointer (some ⟨q,0,none⟩)] 139 (0,0)):=by
  rw [hw1];exact heap_alloc_old _ (heap_alloc_new w _)
 have hk:w1.heap[w.heap.size+1]? = some (.cells #[.bool false] 4 (0,0)):=by
  rw [hw1];exact heap_at_new _ _ (by simp)
 have HT:=zh (rtry_bool (c1:=.pointer (some ⟨w.heap.size,0,none⟩)) (c2:=.pointer (some ⟨w.heap.size+1,0,none⟩)) (h.stay m1) (fun i=>i=q\/i=w.heap.size+1) (fun wy=>∃ (o:Bool) (L':List UInt8) (v:Value),rdBool L=some (o,L')/\RdAt wy q v L' false/\wy.heap[w.heap.size+1]? = some (.cells #[.bool o] 4 (0,0))) (rdBool L=none) (fun i e=>by omega)
  (fun w2 hm2=>cbool_any ((h.stay m1).stay hm2) hL (hm2.keep hp (fun f=>f)) (hm2.keep hk (fun f=>f)) ⟨_,rfl⟩))
 have pc:=cell_of (i:=0) hp rfl
 have M1:=zh m1
 have HW1:=zh hw1
 have HZ:=zh hz1
 have HL2:=zh h
 clear hw1 m1 hz1 hp hk h hL
 go_enter func67,ntmps67
 go_wp2_with fail
 rw [<- HW1.out]
 with_reducible refine HT.out.mono ?_
 clear HT
 rintro e w2 ⟨wy,hmy,⟨rfl,⟨o,L',v,hn,hrd,hk⟩,hok,hm2⟩ | ⟨rfl,hn,⟨v,L',hrd⟩,hm2⟩⟩
 ·have hk2:=hm2.keep hk (by have:=HZ.out;omega)
  have kc:=cell_of (i:=0) hk2 rfl
  have HX:=zh (show Mod (fun i=>i=q) w w2/\rdBool L=some (o,L')/\RdAt w2 q v L' false from ⟨((M1.out.weaken fun _ _ f=>f.elim:Mod (fun i=>i=q) w w1).then hmy (fun i hi e=>by omega)).then hm2 (fun i hi e=>by have:=HZ.out;omega),hn,hrd.keep hm2 (fun e=>by have:=HZ.out;omega) (fun i cur fz s e=>by subst s;rw [hok] at e;cases e)⟩)
  clear hmy hm2 hn hrd hk hk2 hok HW1
  go_wp2_with fail
  exact fin hR ⟨HX.out.1,.inl ⟨_,_,_,HX.out.2.1,rfl,HX.out.2.2⟩⟩
 ·have HX:=zh (show Mod (fun i=>i=q) w w2/\rdBool L=none/\RdAt w2 q v L' true from ⟨((M1.out.weaken fun _ _ f=>f.elim:Mod (fun i=>i=q) w w1).then hmy (fun i hi e=>by omega)).then hm2 (fun i hi e=>by have:=HZ.out;omega),hn,hrd⟩)
  clear hmy hm2 hn hrd HW1
  go_wp2_with fail
  exact fin hR ⟨HX.out.1,.inr ⟨HX.out.2.1,rfl,_,_,HX.out.2.2⟩⟩
set_option maxRecDepth 100000 in
theorem rbool_failed {w:World} {q:Nat} {v0:Value} {L:List UInt8} (h:RdAt w q v0 L true) :
  Calls prog 67 #[.pointer (some ⟨q,0,none⟩)] w fun e w'=>e=.returned (.bool false)/\Mod No w w':=by
 refine calls_hide fun R hR=>?_
 have hmf:∀ (fn:Fn) (first cap:Array Value) (w:World),(Instr.makeFunc fn first cap).run prog w=.ok (.func fn first cap) w:=fun _ _ _ _=>rfl
 have hql:=lt_of_heap h.obj
 obtain ⟨w1,hw1⟩:∃ w1,w1=(w.alloc (.cells #[.pointer (some ⟨q,0,none⟩)] 139)).alloc (.cells #[.bool false] 4):=⟨_,rfl⟩
 have m1:Mod No w w1:=by rw [hw1];exact ((Mod.refl No w).alloc _).alloc _
 have HT:=zh (rtry_bool_failed (c1:=.pointer (some ⟨w.heap.size,0,none⟩)) (c2:=.pointer (some ⟨w.heap.size+1,0,none⟩)) (h.stay m1))
 have M1:=zh m1
 have HW1:=zh hw1
 clear hw1 m1 h
 go_enter func67,ntmps67
 go_wp2_with fail
 rw [<- HW1.out]
 with_reducible refine HT.out.mono ?_
 clear HT
 rintro e w2 ⟨rfl,hm2⟩
 have M2:=zh (M1.out.trans hm2)
 clear hm2 HW1
 go_wp2_with fail
 exact fin hR ⟨rfl,M2.out⟩
def RtextPost (w:World) (q:Nat) (L:List UInt8) (e:Ending) (w':World):Prop :=
 Mod (fun k=>k=q) w w'/\((∃ (o:List UInt8) (L':List UInt8) (v:Value),rdText L=some (o,L')/\e=.returned (.string ⟨o.toArray⟩)/\RdAt w' q v L' false)\/(rdText L=none/\e=.returned (.string ⟨#[]⟩)/\∃ v L',RdAt w' q v L' true))
set_option maxRecDepth 100000 in
set_option maxHeartbeats 1000000 in
theorem ctext_any {w:World} {q p k:Nat} {v0 x:Value} {L:List UInt8} (h:RdAt w q v0 L false) (hL:L.length<=1000000000) (hp:w.heap[p]? = some (.cells #[.pointer (some ⟨q,0,none⟩)] 139 (0,0))) (hk:w.heap[k]? = some (.cells #[x] 9 (0,0))) (hx:∃ o:List UInt8,x=.string ⟨o.toArray⟩) :
  Calls prog 132 #[.pointer (some ⟨p,0,none⟩),.pointer (some ⟨k,0,none⟩)] w fun e w'=>Mod (fun i=>i=q\/i=k) w w' ∧
   ((e=.returned (.tuple #[])/\∃ (o:List UInt8) (L':List UInt8) (v:Value),rdText L=some (o,L')/\RdAt w' q v L' false/\w'.heap[k]? = some (.cells #[.string ⟨o.toArray⟩] 9 (0,0)))\/(e=StoppedC/\rdText L=none/\∃ v L',RdAt w' q v L' false)):=by
 refine calls_hide fun R hR=>?_
 obtain ⟨o0,rfl⟩:=hx
 have pc:=cell_of (i:=0) hp rfl
 have HI:=zh (rtext_any h hL)
 have HK:=zh hk
 have hqk:k ≠ q:=fun e=>by subst e;rw [h.obj] at hk;cases hk
 clear h hp hk hL
 go_enter func132,ntmps132
 go_wp2_with fail
 with_reducible refine HI.out.mono ?_
 clear HI
 rintro e w1 ⟨hm,v,L',hrd,⟨o,hn,rfl⟩ | ⟨hn,rfl⟩⟩
 ·have hk1:=hm.keep HK.out hqk
  have kc:=cell_of (i:=0) hk1 rfl
  have kf:=frozen_of 0 hk1
  have hms:Mod (fun i=>i=k) w1 (w1.setCell ⟨k,0,none⟩ (.string ⟨o.toArray⟩)):=(Mod.refl (fun i=>i=k) w1).setCell (fun _=>rfl) _
  have R1:=zh (show Mod (fun i=>i=q\/i=k) w (w1.setCell ⟨k,0,none⟩ (.string ⟨o.toArray⟩)) from (hm.weaken fun _ _ e=>.inl e).trans (hms.weaken fun _ _ e=>.inr e))
  have R2:=zh (And.intro hn (And.intro (hrd.keep hms (fun e=>hqk e.symm) (fun i cur fz s e=>by subst s;rw [hk1] at e;cases e)) (heap_setCell hk1 (i:=0) (.string ⟨o.toArray⟩))))
  clear hm hrd hk1 hms hn
  go_wp2_with fail
  go_end0
  exact fin hR ⟨R1.out,.inl ⟨rfl,_,_,_,R2.out.1,R2.out.2.1,R2.out.2.2⟩⟩
 ·have HX:=zh (And.intro hm (And.intro hn hrd))
  clear hm hn hrd
  go_wp2_with fail
  exact ⟨rfl,fin hR ⟨HX.out.1.weaken fun _ _ e=>.inl e,.inr ⟨rfl,HX.out.2.1,_,_,HX.out.2.2⟩⟩⟩
set_option maxRecDepth 100000 in
set_option maxHeartbeats 1000000 in
theorem rtext_ok {w:World} {q:Nat} {v0:Value} {L:List UInt8} (h:RdAt w q v0 L false) (hL:L.length<=1000000000) :
  Calls prog 68 #[.pointer (some ⟨q,0,none⟩)] w (RtextPost w q L):=by
 refine calls_hide fun R hR=>?_
 have hmf:∀ (fn:Fn) (first cap:Array Value) (w:World),(Instr.makeFunc fn first cap).run prog w=.ok (.func fn first cap) w:=fun _ _ _ _=>rfl
 have hql:=lt_of_heap h.obj
 obtain ⟨w1,hw1⟩:∃ w1,w1=(w.alloc (.cells #[.pointer (some ⟨q,0,none⟩)] 139)).alloc (.cells #[.string ⟨#[]⟩] 9):=⟨_,rfl⟩
 have m1:Mod No w w1:=by rw [hw1];exact ((Mod.refl No w).alloc _).alloc _
 have hz1:w1.heap.size=w.heap.size+2:=by rw [hw1];simp
 have hp:w1.heap[w.heap.size]? = some (.cells #[.pointer (some ⟨q,0,none⟩)] 139 (0,0)):=by
  rw [hw1];exact heap_alloc_old _ (heap_alloc_new w _)
 have hk:w1.heap[w.heap.size+1]? = some (.cells #[.string ⟨#[]⟩] 9 (0,0)):=by
  rw [hw1];exact heap_at_new _ _ (by simp)
 have HT:=zh (rtry_text (c1:=.pointer (some ⟨w.heap.size,0,none⟩)) (c2:=.pointer (some ⟨w.heap.size+1,0,none⟩)) (h.stay m1) (fun i=>i=q\/i=w.heap.size+1) (fun wy=>∃ (o:List UInt8) (L':List UInt8) (v:Value),rdText L=some (o,L')/\RdAt wy q v L' false/\wy.heap[w.heap.size+1]? = some (.cells #[.string ⟨o.toArray⟩] 9 (0,0))) (rdText L=none) (fun i e=>by omega)
  (fun w2 hm2=>ctext_any ((h.stay m1).stay hm2) hL (hm2.keep hp (fun f=>f)) (hm2.keep hk (fun f=>f)) ⟨[],rfl⟩))
 have pc:=cell_of (i:=0) hp rfl
 have M1:=zh m1
 have HW1:=zh hw1
 have HZ:=zh hz1
 have HL2:=zh h
 clear hw1 m1 hz1 hp hk h hL
 go_enter func68,ntmps68
 go_wp2_with fail
 rw [<- HW1.out]
 with_reducible refine HT.out.mono ?_
 clear HT
 rintro e w2 ⟨wy,hmy,⟨rfl,⟨o,L',v,hn,hrd,hk⟩,hok,hm2⟩ | ⟨rfl,hn,⟨v,L',hrd⟩,hm2⟩⟩
 ·have hk2:=hm2.keep hk (by have:=HZ.out;omega)
  have kc:=cell_of (i:=0) hk2 rfl
  have HX:=zh (show Mod (fun i=>i=q) w w2/\rdText L=some (o,L')/\RdAt w2 q v L' false from ⟨((M1.out.weaken fun _ _ f=>f.elim:Mod (fun i=>i=q) w w1).then hmy (fun i hi e=>by omega)).then hm2 (fun i hi e=>by have:=HZ.out;omega),hn,hrd.keep hm2 (fun e=>by have:=HZ.out;omega) (fun i cur fz s e=>by subst s;rw [hok] at e;cases e)⟩)
  clear hmy hm2 hn hrd hk hk2 hok HW1
  go_wp2_with fail
  exact fin hR ⟨HX.out.1,.inl ⟨_,_,_,HX.out.2.1,rfl,HX.out.2.2⟩⟩
 ·have HX:=zh (show Mod (fun i=>i=q) w w2/\rdText L=none/\RdAt w2 q v L' true from ⟨((M1.out.weaken fun _ _ f=>f.elim:Mod (fun i=>i=q) w w1).then hmy (fun i hi e=>by omega)).then hm2 (fun i hi e=>by have:=HZ.out;omega),hn,hrd⟩)
  clear hmy hm2 hn hrd HW1
  go_wp2_with fail
  exact fin hR ⟨HX.out.1,.inr ⟨HX.out.2.1,rfl,_,_,HX.out.2.2⟩⟩
set_option maxRecDepth 100000 in
theorem rtext_failed {w:World} {q:Nat} {v0:Value} {L:List UInt8} (h:RdAt w q v0 L true) :
  Calls prog 68 #[.pointer (some ⟨q,0,none⟩)] w fun e w'=>e=.returned (.string ⟨#[]⟩)/\Mod No w w':=by
 refine calls_hide fun R hR=>?_
 have hmf:∀ (fn:Fn) (first cap:Array Value) (w:World),(Instr.makeFunc fn first cap).run prog w=.ok (.func fn first cap) w:=fun _ _ _ _=>rfl
 have hql:=lt_of_heap h.obj
 obtain ⟨w1,hw1⟩:∃ w1,w1=(w.alloc (.cells #[.pointer (some ⟨q,0,none⟩)] 139)).alloc (.cells #[.string ⟨#[]⟩] 9):=⟨_,rfl⟩
 have m1:Mod No w w1:=by rw [hw1];exact ((Mod.refl No w).alloc _).alloc _
 have HT:=zh (rtry_text_failed (c1:=.pointer (some ⟨w.heap.size,0,none⟩)) (c2:=.pointer (some ⟨w.heap.size+1,0,none⟩)) (h.stay m1))
 have M1:=zh m1
 have HW1:=zh hw1
 clear hw1 m1 h
 go_enter func68,ntmps68
 go_wp2_with fail
 rw [<- HW1.out]
 with_reducible refine HT.out.mono ?_
 clear HT
 rintro e w2 ⟨rfl,hm2⟩
 have M2:=zh (M1.out.trans hm2)
 clear hm2 HW1
 go_wp2_with fail
 exact fin hR ⟨rfl,M2.out⟩
def doneI (L:List UInt8) (f:Bool):Int:=if f=true\/0 < L.length then 20 else 0
theorem rdone_any {w:World} {q:Nat} {v0:Value} {L:List UInt8} {f:Bool} (h:RdAt w q v0 L f) :
  Calls prog 69 #[.pointer (some ⟨q,0,none⟩)] w fun e w'=>e=.returned (.int .i64 (doneI L f))/\w'=w:=by
 refine calls_hide fun R hR=>?_
 obtain ⟨a,c,rfl⟩:=h.row.len
 have c0:=cell_of (i:=0) h.obj rfl
 have c1:=cell_of (i:=1) h.obj rfl
 clear h
 cases f with
 | true =>
  have HE:=zh (show doneI L true=20 by unfold doneI;rw [if_pos (.inl rfl)])
  go_enter func69,ntmps69
  go_wp2_with fail
  exact fin hR ⟨by rw [HE.out];rfl,rfl⟩
 | false =>
  by_cases hl:0 < L.length
  ·have HE:=zh (show doneI L false=20 by unfold doneI;rw [if_pos (.inr hl)])
   have hlI:(0:Int) < (L.length:Int):=by omega
   generalize L.length=n at *
   go_enter func69,ntmps69
   go_wp2_with fail
   exact fin hR ⟨by rw [HE.out];rfl,rfl⟩
  ·have HE:=zh (show doneI L false=0 by unfold doneI;rw [if_neg (by rintro (h | h) <;> simp_all)])
   have hl0:L.length=0:=by omega
   rw [hl0] at c0
   clear hl hl0
   go_enter func69,ntmps69
   go_wp2_with fail
   exact fin hR ⟨by first | (rw [HE.out];rfl) | rw [HE.out],rfl⟩
set_option maxRecDepth 100000 in
set_option maxHeartbeats 1000000 in
theorem rtry_num_failed {q:Nat} {v c1 c2:Value} {L:List UInt8} {w:World} (h:RdAt w q v L true) :
  Calls prog 129 #[.pointer (some ⟨q,0,none⟩),.func (.func 153) #[] #[c1,c2]] w fun e w'=>e=.returned (.bool false)/\Mod No w w':=by
 refine calls_hide fun R hR=>?_
 have hmf:∀ (fn:Fn) (first cap:Array Value) (w:World),(Instr.makeFunc fn first cap).run prog w=.ok (.func fn first cap) w:=fun _ _ _ _=>rfl
 have hql:=lt_of_heap h.obj
 obtain ⟨w1,hw1⟩:∃ w1,w1=(w.alloc (.cells #[.pointer (some ⟨q,0,none⟩)] 139)).alloc (.cells #[.bool false] 4):=⟨_,rfl⟩
 have m1:Mod No w w1:=by rw [hw1];exact ((Mod.refl No w).alloc _).alloc _
 have cq:=cell_of (i:=1) h.obj rfl
 have R3:=zh m1
 clear m1 h
 go_enter_defers func129,ntmps129
 subst hw1
 go_wp2_with fail
 refine ⟨.bool false,?_,?_⟩
 ·simp [results,results129,go_sem]
 ·exact fin hR ⟨rfl,R3.out⟩
set_option maxRecDepth 100000 in
set_option maxHeartbeats 1000000 in
theorem rtry_num {q:Nat} {v c1 c2:Value} {L:List UInt8} {w:World} (h:RdAt w q v L false) (S:Nat->Prop) (Yes:World->Prop) (Nay:Prop) (hS:∀ i,S i->i < w.heap.size)
  (hf:∀ w1,Mod No w w1->Calls prog 153 #[c1,c2] w1 fun e w'=>Mod S w1 w'/\((e=.returned (.tuple #[])/\Yes w')\/(e=StoppedC/\Nay/\∃ v L',RdAt w' q v L' false))) :
  Calls prog 129 #[.pointer (some ⟨q,0,none⟩),.func (.func 153) #[] #[c1,c2]] w fun e w'=>∃ wy,Mod S w wy ∧
   ((e=.returned (.bool true)/\Yes wy/\wy.heap[w.heap.size+1]? = some (.cells #[.bool false] 4 (0,0))/\Mod (fun i=>i=w.heap.size+1) wy w')\/(e=.returned (.bool false)/\Nay/\(∃ v L',RdAt w' q v L' true)/\Mod (fun i=>i=w.heap.size+1\/i=q) wy w')):=by
 refine calls_hide fun R hR=>?_
 have hmf:∀ (fn:Fn) (first cap:Array Value) (w:World),(Instr.makeFunc fn first cap).run prog w=.ok (.func fn first cap) w:=fun _ _ _ _=>rfl
 have hql:=lt_of_heap h.obj
 obtain ⟨w1,hw1⟩:∃ w1,w1=(w.alloc (.cells #[.pointer (some ⟨q,0,none⟩)] 139)).alloc (.cells #[.bool false] 4):=⟨_,rfl⟩
 have m1:Mod No w w1:=by rw [hw1];exact ((Mod.refl No w).alloc _).alloc _
 have hp:w1.heap[w.heap.size]? = some (.cells #[.pointer (some ⟨q,0,none⟩)] 139 (0,0)):=by
  rw [hw1];exact heap_alloc_old _ (heap_alloc_new w _)
 have hk:w1.heap[w.heap.size+1]? = some (.cells #[.bool false] 4 (0,0)):=by
  rw [hw1];exact heap_at_new _ _ (by simp)
 have cq:=cell_of (i:=1) h.obj rfl
 have HF:=zh (hf w1 m1)
 have HW1:=zh hw1
 have M1:=zh m1
 have HP:=zh hp
 have HK:=zh hk
 have HS:=zh hS
 clear hf hw1 m1 hp hk hS h
 go_enter_defers func129,ntmps129
 go_wp2_with fail
 rw [<- HW1.out]
 refine HF.out.mono ?_
 clear HF
 rintro e wy ⟨hmy,hcase⟩
 have hpy:=hmy.keep HP.out (fun e=>by have:=HS.out _ e;omega)
 have hky:=hmy.keep HK.out (fun e=>by have:=HS.out _ e;omega)
 have MY:=zh (show Mod S w wy from (M1.out.weaken fun _ _ f=>f.elim).trans hmy)
 have HPY:=zh hpy
 clear HW1
 rcases hcase with ⟨rfl,hy⟩ | ⟨rfl,hna,v',L',hn⟩
 ·have HY:=zh (And.intro hy hky)
  have k0:=cell_of (i:=0) hky rfl
  have kf:=frozen_of 0 hky
  have R2:=zh (cell_of (i:=0) (heap_setCell hky (i:=0) (.bool true)) rfl)
  have R3:=zh (show Mod (fun i=>i=w.heap.size+1) wy (wy.setCell ⟨w.heap.size+1,0,none⟩ (.bool true)) from (Mod.refl (fun i=>i=w.heap.size+1) wy).setCell (fun _=>rfl) _)
  clear hy hpy hky
  go_wp2_with fail
  refine leaves_cons (f:=180) (args:=#[.pointer (some ⟨w.heap.size,0,none⟩),.pointer (some ⟨w.heap.size+1,0,none⟩)]) (by simp) (by simp [go_sem]) ?_
  refine (rstop_idle _ _ _).mono ?_
  rintro e u' w'' ⟨rfl,rfl,rfl⟩
  have r2:=R2.out
  refine ⟨.bool true,?_,?_⟩
  ·simp [results,results129,go_sem,r2]
  ·exact fin hR ⟨wy,MY.out,.inl ⟨rfl,HY.out.1,HY.out.2,R3.out⟩⟩
 ·have HN:=zh hn
  have HNA:=zh hna
  have HKY:=zh hky
  clear hn hna hky hpy
  go_wp2_with fail
  refine leaves_cons (f:=180) (args:=#[.pointer (some ⟨w.heap.size,0,none⟩),.pointer (some ⟨w.heap.size+1,0,none⟩)]) (by simp) (by simp [go_sem]) ?_
  refine (rstop_caught _ _ q _ _ _ _ HPY.out HKY.out HN.out.obj).mono ?_
  rintro e u' w'' ⟨rfl,rfl,r1,r2,hm⟩
  have hrd:=rtry_set HN.out r2 hm (fun i cur fz s e=>by
   rcases s with s | s
   ·subst s;have h:=HKY.out;rw [h] at e;cases e
   ·subst s;have h:=HN.out.obj;rw [h] at e;cases e)
  have r1:=cell_of (i:=0) r1 rfl
  refine ⟨.bool false,?_,?_⟩
  ·simp [results,results129,go_sem,r1]
  ·exact fin hR ⟨wy,MY.out,.inr ⟨rfl,HNA.out,⟨_,_,hrd⟩,hm⟩⟩
def RnumPost (w:World) (q:Nat) (L:List UInt8) (e:Ending) (w':World):Prop :=
 Mod (fun k=>k=q) w w'/\((∃ (o:Nat) (L':List UInt8) (v:Value),rdNum L=some (o,L')/\e=.returned (.int .u64 ((o:Nat):Int))/\RdAt w' q v L' false)\/(rdNum L=none/\e=.returned (.int .u64 0)/\∃ v L',RdAt w' q v L' true))
set_option maxRecDepth 100000 in
set_option maxHeartbeats 1000000 in
theorem cnum_any {w:World} {q p k:Nat} {v0 x:Value} {L:List UInt8} (h:RdAt w q v0 L false) (hL:L.length<=1000000000) (hp:w.heap[p]? = some (.cells #[.pointer (some ⟨q,0,none⟩)] 139 (0,0))) (hk:w.heap[k]? = some (.cells #[x] 130 (0,0))) (hx:∃ o:Nat,x=.int .u64 ((o:Nat):Int)) :
  Calls prog 153 #[.pointer (some ⟨p,0,none⟩),.pointer (some ⟨k,0,none⟩)] w fun e w'=>Mod (fun i=>i=q\/i=k) w w' ∧
   ((e=.returned (.tuple #[])/\∃ (o:Nat) (L':List UInt8) (v:Value),rdNum L=some (o,L')/\RdAt w' q v L' false/\w'.heap[k]? = some (.cells #[.int .u64 ((o:Nat):Int)] 130 (0,0)))\/(e=StoppedC/\rdNum L=none/\∃ v L',RdAt w' q v L' false)):=by
 refine calls_hide fun R hR=>?_
 obtain ⟨o0,rfl⟩:=hx
 have pc:=cell_of (i:=0) hp rfl
 have HI:=zh (num_any h hL)
 have HK:=zh hk
 have hqk:k ≠ q:=fun e=>by subst e;rw [h.obj] at hk;cases hk
 clear h hp hk hL
 go_enter func153,ntmps153
 go_wp2_with fail
 with_reducible refine HI.out.mono ?_
 clear HI
 rintro e w1 ⟨hm,v,L',hrd,⟨o,hn,rfl,-⟩ | ⟨hn,rfl⟩⟩
 ·have hk1:=hm.keep HK.out hqk
  have kc:=cell_of (i:=0) hk1 rfl
  have kf:=frozen_of 0 hk1
  have hms:Mod (fun i=>i=k) w1 (w1.setCell ⟨k,0,none⟩ (.int .u64 ((o:Nat):Int))):=(Mod.refl (fun i=>i=k) w1).setCell (fun _=>rfl) _
  have R1:=zh (show Mod (fun i=>i=q\/i=k) w (w1.setCell ⟨k,0,none⟩ (.int .u64 ((o:Nat):Int))) from (hm.weaken fun _ _ e=>.inl e).trans (hms.weaken fun _ _ e=>.inr e))
  have R2:=zh (And.intro hn (And.intro (hrd.keep hms (fun e=>hqk e.symm) (fun i cur fz s e=>by subst s;rw [hk1] at e;cases e)) (heap_setCell hk1 (i:=0) (.int .u64 ((o:Nat):Int)))))
  clear hm hrd hk1 hms hn
  go_wp2_with fail
  go_end0
  exact fin hR ⟨R1.out,.inl ⟨rfl,_,_,_,R2.out.1,R2.out.2.1,R2.out.2.2⟩⟩
 ·have HX:=zh (And.intro hm (And.intro hn hrd))
  clear hm hn hrd
  go_wp2_with fail
  exact ⟨rfl,fin hR ⟨HX.out.1.weaken fun _ _ e=>.inl e,.inr ⟨rfl,HX.out.2.1,_,_,HX.out.2.2⟩⟩⟩
set_option maxRecDepth 100000 in
set_option maxHeartbeats 1000000 in
theorem rnum_ok {w:World} {q:Nat} {v0:Value} {L:List UInt8} (h:RdAt w q v0 L false) (hL:L.length<=1000000000) :
  Calls prog 94 #[.pointer (some ⟨q,0,none⟩)] w (RnumPost w q L):=by
 refine calls_hide fun R hR=>?_
 have hmf:∀ (fn:Fn) (first cap:Array Value) (w:World),(Instr.makeFunc fn first cap).run prog w=.ok (.func fn first cap) w:=fun _ _ _ _=>rfl
 have hql:=lt_of_heap h.obj
 obtain ⟨w1,hw1⟩:∃ w1,w1=(w.alloc (.cells #[.pointer (some ⟨q,0,none⟩)] 139)).alloc (.cells #[.int .u64 0] 130):=⟨_,rfl⟩
 have m1:Mod No w w1:=by rw [hw1];exact ((Mod.refl No w).alloc _).alloc _
 have hz1:w1.heap.size=w.heap.size+2:=by rw [hw1];simp
 have hp:w1.heap[w.heap.size]? = some (.cells #[.pointer (some ⟨q,0,none⟩)] 139 (0,0)):=by
  rw [hw1];exact heap_alloc_old _ (heap_alloc_new w _)
 have hk:w1.heap[w.heap.size+1]? = some (.cells #[.int .u64 0] 130 (0,0)):=by
  rw [hw1];exact heap_at_new _ _ (by simp)
 have HT:=zh (rtry_num (c1:=.pointer (some ⟨w.heap.size,0,none⟩)) (c2:=.pointer (some ⟨w.heap.size+1,0,none⟩)) (h.stay m1) (fun i=>i=q\/i=w.heap.size+1) (fun wy=>∃ (o:Nat) (L':List UInt8) (v:Value),rdNum L=some (o,L')/\RdAt wy q v L' false/\wy.heap[w.heap.size+1]? = some (.cells #[.int .u64 ((o:Nat):Int)] 130 (0,0))) (rdNum L=none) (fun i e=>by omega)
  (fun w2 hm2=>cnum_any ((h.stay m1).stay hm2) hL (hm2.keep hp (fun f=>f)) (hm2.keep hk (fun f=>f)) ⟨0,rfl⟩))
 have pc:=cell_of (i:=0) hp rfl
 have M1:=zh m1
 have HW1:=zh hw1
 have HZ:=zh hz1
 have HL2:=zh h
 clear hw1 m1 hz1 hp hk h hL
 go_enter func94,ntmps94
 go_wp2_with fail
 rw [<- HW1.out]
 with_reducible refine HT.out.mono ?_
 clear HT
 rintro e w2 ⟨wy,hmy,⟨rfl,⟨o,L',v,hn,hrd,hk⟩,hok,hm2⟩ | ⟨rfl,hn,⟨v,L',hrd⟩,hm2⟩⟩
 ·have hk2:=hm2.keep hk (by have:=HZ.out;omega)
  have kc:=cell_of (i:=0) hk2 rfl
  have HX:=zh (show Mod (fun i=>i=q) w w2/\rdNum L=some (o,L')/\RdAt w2 q v L' false from ⟨((M1.out.weaken fun _ _ f=>f.elim:Mod (fun i=>i=q) w w1).then hmy (fun i hi e=>by omega)).then hm2 (fun i hi e=>by have:=HZ.out;omega),hn,hrd.keep hm2 (fun e=>by have:=HZ.out;omega) (fun i cur fz s e=>by subst s;rw [hok] at e;cases e)⟩)
  clear hmy hm2 hn hrd hk hk2 hok HW1
  go_wp2_with fail
  exact fin hR ⟨HX.out.1,.inl ⟨_,_,_,HX.out.2.1,rfl,HX.out.2.2⟩⟩
 ·have HX:=zh (show Mod (fun i=>i=q) w w2/\rdNum L=none/\RdAt w2 q v L' true from ⟨((M1.out.weaken fun _ _ f=>f.elim:Mod (fun i=>i=q) w w1).then hmy (fun i hi e=>by omega)).then hm2 (fun i hi e=>by have:=HZ.out;omega),hn,hrd⟩)
  clear hmy hm2 hn hrd HW1
  go_wp2_with fail
  exact fin hR ⟨HX.out.1,.inr ⟨HX.out.2.1,rfl,_,_,HX.out.2.2⟩⟩
set_option maxRecDepth 100000 in
theorem rnum_failed {w:World} {q:Nat} {v0:Value} {L:List UInt8} (h:RdAt w q v0 L true) :
  Calls prog 94 #[.pointer (some ⟨q,0,none⟩)] w fun e w'=>e=.returned (.int .u64 0)/\Mod No w w':=by
 refine calls_hide fun R hR=>?_
 have hmf:∀ (fn:Fn) (first cap:Array Value) (w:World),(Instr.makeFunc fn first cap).run prog w=.ok (.func fn first cap) w:=fun _ _ _ _=>rfl
 have hql:=lt_of_heap h.obj
 obtain ⟨w1,hw1⟩:∃ w1,w1=(w.alloc (.cells #[.pointer (some ⟨q,0,none⟩)] 139)).alloc (.cells #[.int .u64 0] 130):=⟨_,rfl⟩
 have m1:Mod No w w1:=by rw [hw1];exact ((Mod.refl No w).alloc _).alloc _
 have HT:=zh (rtry_num_failed (c1:=.pointer (some ⟨w.heap.size,0,none⟩)) (c2:=.pointer (some ⟨w.heap.size+1,0,none⟩)) (h.stay m1))
 have M1:=zh m1
 have HW1:=zh hw1
 clear hw1 m1 h
 go_enter func94,ntmps94
 go_wp2_with fail
 rw [<- HW1.out]
 with_reducible refine HT.out.mono ?_
 clear HT
 rintro e w2 ⟨rfl,hm2⟩
 have M2:=zh (M1.out.trans hm2)
 clear hm2 HW1
 go_wp2_with fail
 exact fin hR ⟨rfl,M2.out⟩
def RdR (w:World) (q:Nat):Rst->Prop
 | some L=>L.length<=1000000/\∃ v,RdAt w q v L false
 | none=>∃ v L,RdAt w q v L true
theorem RdR.keep {S:Nat->Prop} {w w':World} {q:Nat} {R:Rst} (h:RdR w q R) (hm:Mod S w w') (hq:¬ S q) (hs:∀ k cur fz,S k->w.heap[k]? ≠ some (.cells cur 5 fz)):RdR w' q R:=by
 cases R with
 | none=>obtain ⟨v,L,h⟩:=h;exact ⟨v,L,h.keep hm hq hs⟩
 | some L=>obtain ⟨hl,v,h⟩:=h;exact ⟨hl,v,h.keep hm hq hs⟩
theorem RdR.stay {w w':World} {q:Nat} {R:Rst} (h:RdR w q R) (hm:Mod No w w'):RdR w' q R:=h.keep hm (fun f=>f) (fun _ _ _ f=>f.elim)
theorem RdR.lt {w:World} {q:Nat} {R:Rst} (h:RdR w q R):q < w.heap.size:=by
 cases R with
 | none=>obtain ⟨v,L,h⟩:=h;exact lt_of_heap h.obj
 | some L=>obtain ⟨hl,v,h⟩:=h;exact lt_of_heap h.obj
theorem RdR.not_bytes {w:World} {q:Nat} {R:Rst} (h:RdR w q R) (cur:Array Value) (fz:Nat × Nat):w.heap[q]? ≠ some (.cells cur 5 fz):=by
 have key:∀ v L f,RdAt w q v L f->w.heap[q]? ≠ some (.cells cur 5 fz):=fun v L f h e=>by
  rw [h.obj] at e;cases e
 cases R with
 | none=>obtain ⟨v,L,h⟩:=h;exact key _ _ _ h
 | some L=>obtain ⟨hl,v,h⟩:=h;exact key _ _ _ h
theorem rdText_len {L s r:List UInt8} (h:rdText L=some (s,r)):s.length+r.length<=L.length:=by
 unfold rdText rdNum at h
 split at h
 ·rename_i n r0 h1
  have h2:=rdNumG_len _ _ _ _ _ h1
  split at h
  ·rename_i h3
   cases h
   rw [List.length_take,List.length_drop]
   omega
  ·cases h
 ·cases h
theorem rdBool_len {L r:List UInt8} {b:Bool} (h:rdBool L=some (b,r)):r.length<=L.length:=by
 cases L with
 | nil=>cases h
 | cons x l =>
  have h:(if x.toNat<=1 then some (x.toNat == 1,l) else none)=some (b,r):=h
  by_cases h1:x.toNat<=1
  ·rw [if_pos h1] at h
   cases h
   exact Nat.le_succ _
  ·rw [if_neg h1] at h
   cases h
theorem rdtext_any {w:World} {q:Nat} {R:Rst} (h:RdR w q R) :
  Calls prog 68 #[.pointer (some ⟨q,0,none⟩)] w fun e w'=>e=.returned (.string ⟨(rdT R).1.toArray⟩)/\RdR w' q (rdT R).2/\Mod (fun k=>k=q) w w':=by
 cases R with
 | none =>
  obtain ⟨v,L,h⟩:=h
  refine (rtext_failed h).mono ?_
  rintro e w' ⟨rfl,hm⟩
  exact ⟨rfl,⟨v,L,h.stay hm⟩,hm.weaken fun _ _ f=>f.elim⟩
 | some L =>
  obtain ⟨hl,v,h⟩:=h
  refine (rtext_ok h (by omega)).mono ?_
  rintro e w' ⟨hm,⟨o,L',v',ho,rfl,hr⟩ | ⟨ho,rfl,v',L',hr⟩⟩
  ·have h1:=rdText_len ho
   have e1:rdT (some L)=(o,some L'):=by unfold rdT;dsimp only;rw [ho]
   rw [e1]
   exact ⟨rfl,⟨by omega,v',hr⟩,hm⟩
  ·have e1:rdT (some L)=([],none):=by unfold rdT;dsimp only;rw [ho]
   rw [e1]
   exact ⟨rfl,⟨v',L',hr⟩,hm⟩
theorem rdbool_any {w:World} {q:Nat} {R:Rst} (h:RdR w q R) :
  Calls prog 67 #[.pointer (some ⟨q,0,none⟩)] w fun e w'=>e=.returned (.bool (rdO R).1)/\RdR w' q (rdO R).2/\Mod (fun k=>k=q) w w':=by
 cases R with
 | none =>
  obtain ⟨v,L,h⟩:=h
  refine (rbool_failed h).mono ?_
  rintro e w' ⟨rfl,hm⟩
  exact ⟨rfl,⟨v,L,h.stay hm⟩,hm.weaken fun _ _ f=>f.elim⟩
 | some L =>
  obtain ⟨hl,v,h⟩:=h
  refine (rbool_ok h (by omega)).mono ?_
  rintro e w' ⟨hm,⟨o,L',v',ho,rfl,hr⟩ | ⟨ho,rfl,v',L',hr⟩⟩
  ·have h1:=rdBool_len ho
   have e1:rdO (some L)=(o,some L'):=by unfold rdO;dsimp only;rw [ho]
   rw [e1]
   exact ⟨rfl,⟨by omega,v',hr⟩,hm⟩
  ·have e1:rdO (some L)=(false,none):=by unfold rdO;dsimp only;rw [ho]
   rw [e1]
   exact ⟨rfl,⟨v',L',hr⟩,hm⟩
theorem rdnum_any {w:World} {q:Nat} {R:Rst} (h:RdR w q R) :
  Calls prog 94 #[.pointer (some ⟨q,0,none⟩)] w fun e w'=>e=.returned (.int .u64 ((rdN R).1:Nat))/\RdR w' q (rdN R).2/\Mod (fun k=>k=q) w w':=by
 cases R with
 | none =>
  obtain ⟨v,L,h⟩:=h
  refine (rnum_failed h).mono ?_
  rintro e w' ⟨rfl,hm⟩
  exact ⟨rfl,⟨v,L,h.stay hm⟩,hm.weaken fun _ _ f=>f.elim⟩
 | some L =>
  obtain ⟨hl,v,h⟩:=h
  refine (rnum_ok h (by omega)).mono ?_
  rintro e w' ⟨hm,⟨o,L',v',ho,rfl,hr⟩ | ⟨ho,rfl,v',L',hr⟩⟩
  ·have h1:=rdNumG_len _ _ _ _ _ (show rdNumG 0 0 L=some (o,L') from ho)
   have e1:rdN (some L)=(o,some L'):=by unfold rdN;dsimp only;rw [ho]
   rw [e1]
   exact ⟨rfl,⟨by omega,v',hr⟩,hm⟩
  ·have e1:rdN (some L)=(0,none):=by unfold rdN;dsimp only;rw [ho]
   rw [e1]
   exact ⟨rfl,⟨v',L',hr⟩,hm⟩
def RstLe (n:Nat):Rst->Prop
 | some L=>L.length<=n
 | none=>True
theorem rdT_len {n:Nat} {R:Rst} (h:RstLe n R):(rdT R).1.length<=n/\RstLe n (rdT R).2:=by
 cases R with
 | none=>exact ⟨Nat.zero_le _,trivial⟩
 | some L =>
  unfold rdT
  dsimp only
  have h:L.length<=n:=h
  cases ho:rdText L with
  | none=>exact ⟨Nat.zero_le _,trivial⟩
  | some p =>
   have h1:=rdText_len (s:=p.1) (r:=p.2) ho
   exact ⟨by show p.1.length<=n;omega,by show p.2.length<=n;omega⟩
theorem rdO_len {n:Nat} {R:Rst} (h:RstLe n R):RstLe n (rdO R).2:=by
 cases R with
 | none=>exact trivial
 | some L =>
  unfold rdO
  dsimp only
  have h:L.length<=n:=h
  cases ho:rdBool L with
  | none=>exact trivial
  | some p =>
   have h1:=rdBool_len (b:=p.1) (r:=p.2) ho
   show p.2.length<=n
   omega
theorem rdN_len {n:Nat} {R:Rst} (h:RstLe n R):RstLe n (rdN R).2:=by
 cases R with
 | none=>exact trivial
 | some L =>
  unfold rdN
  dsimp only
  have h:L.length<=n:=h
  cases ho:rdNum L with
  | none=>exact trivial
  | some p =>
   have h1:=rdNumG_len _ _ _ _ _ (show rdNumG 0 0 L=some (p.1,p.2) from ho)
   show p.2.length<=n
   omega
end Go.Proofs.YtmppeipgjcjdkaaGreatDoor
