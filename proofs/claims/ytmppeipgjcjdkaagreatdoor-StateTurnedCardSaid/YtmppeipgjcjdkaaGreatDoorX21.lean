/-
  Layers 0 to 14: helps of the laws of indexes. No statement is proved here; no condition.
-/
import Derived.Test.YtmppeipgjcjdkaaGreatDoorX19
import Derived.Test.YtmppeipgjcjdkaaGreatDoorX00
import Derived.Test.YtmppeipgjcjdkaaGreatDoorX07
import Derived.Defers
import Derived.Recover
import Derived.Deep.Fields
import Derived.Lib.ConvBytes
import Derived.Deep.QuietTactic
namespace Go.Proofs.YtmppeipgjcjdkaaGreatDoor
open _root_.Go.Proofs.Tryz
open Go.RowKit
def TextPost (w:World) (q:Nat) (L:List UInt8) (e:Ending) (w':World):Prop :=
 Mod (fun k=>k=q) w w'/\∃ v L',RdAt w' q v L' false/\((∃ s,rdText L=some (s,L')/\e=.returned (.string ⟨s.toArray⟩))\/(rdText L=none/\e=StoppedC))
def BoolPost (w:World) (q:Nat) (L:List UInt8) (e:Ending) (w':World):Prop :=
 Mod (fun k=>k=q) w w'/\∃ v L',RdAt w' q v L' false/\((∃ o,rdBool L=some (o,L')/\e=.returned (.bool o))\/(rdBool L=none/\e=StoppedC))
theorem rdNumG_len:∀ (l:List UInt8) (i acc n:Nat) (r:List UInt8),rdNumG i acc l=some (n,r)->r.length<=l.length
 | [],_,_,_,_,h=>by cases h
 | x :: l,i,acc,n,r,h=>by
  unfold rdNumG at h
  split at h
  ·cases h
  ·split at h
   ·cases h
   ·split at h
    ·split at h
     ·cases h
     ·cases h;simp
    ·have:=rdNumG_len l _ _ _ _ h
     simp;omega
set_option maxRecDepth 100000 in
set_option maxHeartbeats 4000000 in
theorem rtext_any {w:World} {q:Nat} {v0:Value} {L:List UInt8} (h:RdAt w q v0 L false) (hL:L.length<=1000000000) :
  Calls prog 133 #[.pointer (some ⟨q,0,none⟩)] w (TextPost w q L):=by
 refine calls_hide fun R hR=>?_
 have HN:=zh (num_any h hL)
 have HL:=zh hL
 clear h hL
 go_enter func133,ntmps133
 go_wp2_with fail
 with_reducible refine HN.out.mono ?_
 clear HN
 rintro e w1 ⟨hm,v,L',hrd,⟨n,hn,rfl,hn64⟩ | ⟨hn,rfl⟩⟩
 ·have hll:L'.length<=1000000000:=Nat.le_trans (rdNumG_len _ _ _ _ _ hn) HL.out
  obtain ⟨a,c,rfl⟩:=hrd.row.len
  have cq:=cell_of (i:=0) hrd.obj rfl
  have fq:=frozen_of 0 hrd.obj
  have HRD:=zh hrd
  have HM:=zh hm
  have HN:=zh hn
  have hnI:(n:Int)<=18446744073709551615:=by omega
  have hllI:(L'.length:Int)<=1000000000:=by omega
  clear hrd hm hn hn64
  by_cases hle:n<=L'.length
  ·have hleI:(n:Int)<=(L'.length:Int):=by omega
   have HT:=zh (show rdText L=some (L'.take n,L'.drop n) by unfold rdText;rw [HN.out];exact if_pos hle)
   obtain ⟨a1,hs1,hsl1⟩:=slice_to (kd:=.u64) (k:=n) HRD.out.row (by rw [bv_length]) hle
   obtain ⟨a2,hs2,hsl2⟩:=slice_from (kd:=.u64) (k:=n) HRD.out.row (by rw [bv_length]) hle
   have hl1:(L'.take n).length=n:=by rw [List.length_take];omega
   have hl2:(L'.drop n).length=L'.length - n:=List.length_drop
   have hcv:=string_of (P:=prog) (src:=41) (dst:=9) (e:=5) (l:=L'.take n) (by rw [hl1,bv_take];exact hsl1) underlying41 underlying5 underlying9
   have hs1:=hs1 w1
   have hs2:=hs2 w1
   have hset:=HRD.out.set (L':=L'.drop n) (v':=.slice a2 (L'.length - n) (c - n)) (by rw [hl2,bv_drop];exact hsl2)
   have HSET:=zh hset
   clear hsl1 hsl2 hl1 hl2 hset
   generalize L'.length=m at *
   generalize hZ:(⟨(L'.take n).toArray⟩:ByteArray)=Z at *
   have HZ:=zh hZ
   clear hZ
   go_wp2_with fail
   refine (cmust_if _ ?hb w1).mono ?_
   case hb=>first | rfl | (exact decide_eq_true (by omega))
   rintro e w2 ⟨rfl,h2⟩
   subst h2
   go_wp2_with fail
   exact fin hR ⟨HM.out.trans HSET.out.2,_,_,HSET.out.1,.inl ⟨_,HT.out,by rw [HZ.out];rfl⟩⟩
  ·have hleI:(L'.length:Int) < (n:Int):=by omega
   have HT:=zh (show rdText L=none by unfold rdText;rw [HN.out];exact if_neg hle)
   go_wp2_with fail
   refine (cmust_not _ ?hb w1).mono ?_
   case hb=>first | rfl | (exact decide_eq_false (by omega))
   rintro e w2 ⟨rfl,h2⟩
   subst h2
   go_wp2_with fail
   exact ⟨rfl,fin hR ⟨HM.out,_,_,HRD.out,.inr ⟨HT.out,rfl⟩⟩⟩
 ·have HT:=zh (show rdText L=none by unfold rdText;rw [hn])
  have HX:=zh (And.intro hm hrd)
  clear hm hrd hn
  go_wp2_with fail
  exact ⟨rfl,fin hR ⟨HX.out.1,_,_,HX.out.2,.inr ⟨HT.out,rfl⟩⟩⟩
set_option maxRecDepth 100000 in
set_option maxHeartbeats 4000000 in
theorem rbool_any {w:World} {q:Nat} {v0:Value} {L:List UInt8} (h:RdAt w q v0 L false) :
  Calls prog 131 #[.pointer (some ⟨q,0,none⟩)] w (BoolPost w q L):=by
 refine calls_hide fun R hR=>?_
 obtain ⟨a,c,rfl⟩:=h.row.len
 have cq:=cell_of (i:=0) h.obj rfl
 have fq:=frozen_of 0 h.obj
 have H:=zh h
 clear h
 cases L with
 | nil =>
  go_enter func131,ntmps131
  go_wp2_with fail
  refine (cmust_not _ ?hb w).mono ?_
  case hb=>rfl
  rintro e w2 ⟨rfl,h2⟩
  subst h2
  go_wp2_with fail
  exact ⟨rfl,fin hR ⟨Mod.refl _ _,_,_,H.out,.inr ⟨rfl,rfl⟩⟩⟩
 | cons x l =>
  have hxb:=UInt8.toNat_lt x
  obtain ⟨g,o,c',hv,-⟩:=H.out.row.shape (by simp)
  cases hv
  have hcx:=H.out.row.cell (i:=0) (by simp)
  rw [bv_get _ _ (by simp)] at hcx
  dsimp only [List.getElem_cons_zero] at hcx
  rw [Nat.add_zero] at hcx
  obtain ⟨a',hsf,hsl⟩:=slice_from (kd:=.i64) (k:=1) H.out.row (by rw [bv_length]) (by simp)
  rw [show ((1:Nat):Int)=1 from rfl] at hsf
  have hsf:=hsf w
  have hl1:(x :: l).length - 1=l.length:=by simp
  rw [hl1] at hsf hsl
  have hset:=H.out.set (L':=l) (v':=.slice a' l.length (c - 1)) hsl
  have HSET:=zh hset
  have hlen1:(x :: l).length=l.length+1:=rfl
  rw [hlen1] at hsf cq
  have HRB:=zh (show rdBool (x :: l)=if x.toNat<=1 then some (x.toNat == 1,l) else none from rfl)
  clear hsl hl1 hset hlen1
  generalize x.toNat=xv at *
  by_cases h1:xv<=1
  ·have h1I:(xv:Int)<=1:=by omega
   go_enter func131,ntmps131
   go_wp2_with fail
   refine (cmust_if _ ?hb w).mono ?_
   case hb=>first | rfl | (exact decide_eq_true (by omega))
   rintro e w2 ⟨rfl,h2⟩
   subst h2
   go_wp2_with fail
   refine fin hR ⟨HSET.out.2,_,_,HSET.out.1,.inl ⟨xv == 1,by rw [HRB.out,if_pos h1],?_⟩⟩
   have h01:xv=0\/xv=1:=by omega
   rcases h01 with rfl | rfl <;> rfl
  ·have h1I:(1:Int) < (xv:Int):=by omega
   go_enter func131,ntmps131
   go_wp2_with fail
   refine (cmust_not _ ?hb w).mono ?_
   case hb=>first | rfl | (exact decide_eq_false (by omega))
   rintro e w2 ⟨rfl,h2⟩
   subst h2
   go_wp2_with fail
   exact ⟨rfl,fin hR ⟨Mod.refl _ _,_,_,H.out,.inr ⟨by rw [HRB.out,if_neg h1],rfl⟩⟩⟩
set_option maxRecDepth 100000 in
set_option maxHeartbeats 1000000 in
theorem rstop_idle (p k:Nat) (w:World) :
  CallsD prog 180 #[.pointer (some ⟨p,0,none⟩),.pointer (some ⟨k,0,none⟩)] .returning w fun e u' w'=>e=.returned (.tuple #[])/\u'=.returning/\w'=w:=by
 refine callsD_of_wpS func180 rfl fun c₀ cs hu=>?_
 apply wpS_seq
 apply wpS_region
 simp [wpOpsS,go_sem,recoverD,hu,ntmps180,Exit.thenS]
 refine wpS_of_wp ?_
 refine wp_mono (Q:=Exit.then (fun a' w'=>a'.defers=[]/\w'=w) Nope) ?_ ?_
 ·refine wp_part fun J K' hJ hK=>?_
  simp only [Array.replicate_succ,Array.replicate_zero]
  go_wp2_with fail
  exact Met.intro (hJ _ _ ⟨rfl,rfl⟩)
 ·rintro e a' w' hq
  cases e with
  | normal =>
   obtain ⟨hd,rfl⟩:=hq
   cases c₀
   simp_all [bodyPostS,results,results180]
  | exit id=>exact hq.elim
  | goto l=>exact hq.elim
  | ret=>exact hq.elim
  | panic ch=>exact hq.elim
  | outgrown=>exact hq.elim
theorem assert_stopC (w:World) (v:Value):(Instr.typeAssert (.iface 265 v) 20 265 true).run prog w=.ok (.tuple #[v,.bool true]) w:=by kernel_rfl
set_option maxRecDepth 100000 in
set_option maxHeartbeats 1000000 in
theorem rstop_caught (p k q:Nat) (x f:Bool) (v:Value) (w:World) (hp:w.heap[p]? = some (.cells #[.pointer (some ⟨q,0,none⟩)] 139 (0,0))) (hk:w.heap[k]? = some (.cells #[.bool x] 4 (0,0))) (hq:w.heap[q]? = some (.cells #[v,.bool f] 221 (0,0))) :
  CallsD prog 180 #[.pointer (some ⟨p,0,none⟩),.pointer (some ⟨k,0,none⟩)] (.panicking [{ v:=stopC,recovered:=false }]) w fun e u' w' =>
   e=.returned (.tuple #[])/\u'=.panicking [{ v:=stopC,recovered:=true }]/\w'.heap[k]? = some (.cells #[.bool false] 4 (0,0))/\w'.heap[q]? = some (.cells #[v,.bool true] 221 (0,0))/\Mod (fun i=>i=k\/i=q) w w':=by
 refine callsD_of_wpS func180 rfl fun c₀ cs hu=>?_
 apply wpS_seq
 apply wpS_region
 simp [wpOpsS,go_sem,recoverD,hu,ntmps180,Exit.thenS]
 refine wpS_of_wp ?_
 refine wp_mono (Q:=Exit.then (fun a' w'=>a'.defers=[]/\w'.heap[k]? = some (.cells #[.bool false] 4 (0,0))/\w'.heap[q]? = some (.cells #[v,.bool true] 221 (0,0))/\Mod (fun i=>i=k\/i=q) w w') Nope) ?_ ?_
 ·refine wp_part fun J K' hJ hK=>?_
  have hta:=assert_stopC
  simp only [Array.replicate_succ,Array.replicate_zero]
  have hpl:=lt_of_heap hp
  have hql:=lt_of_heap hq
  have hkl:=lt_of_heap hk
  have hqk:q ≠ k:=fun e=>by subst e;rw [hq] at hk;cases hk
  obtain ⟨wd,hwd⟩:∃ wd,wd=w.alloc (.cells #[] 265):=⟨_,rfl⟩
  have hmd:Mod No w wd:=by rw [hwd];exact (Mod.refl No w).alloc _
  have hp1:=hmd.keep hp (fun f=>f)
  have hq1:=hmd.keep hq (fun f=>f)
  have hk1:=hmd.keep hk (fun f=>f)
  have pc:=cell_of (i:=0) hp1 rfl
  have qc:=cell_of (i:=1) hq1 rfl
  have qf:=frozen_of 1 hq1
  have m2:Mod (fun i=>i=q) wd (wd.setCell ⟨q,1,none⟩ (.bool true)):=(Mod.refl (fun i=>i=q) wd).setCell (fun _=>rfl) _
  have hk2:=m2.keep hk1 (Ne.symm hqk)
  have kc:=cell_of (i:=0) hk2 rfl
  have kf:=frozen_of 0 hk2
  have hq2:=heap_setCell hq1 (i:=1) (.bool true)
  have m3:Mod (fun i=>i=k) (wd.setCell ⟨q,1,none⟩ (.bool true)) ((wd.setCell ⟨q,1,none⟩ (.bool true)).setCell ⟨k,0,none⟩ (.bool false)):=(Mod.refl (fun i=>i=k) _).setCell (fun _=>rfl) _
  have R1:=zh (m3.keep hq2 hqk)
  have R2:=zh (heap_setCell hk2 (i:=0) (.bool false))
  have R3:=zh (show Mod (fun i=>i=k\/i=q) w ((wd.setCell ⟨q,1,none⟩ (.bool true)).setCell ⟨k,0,none⟩ (.bool false)) from
   ((hmd.weaken fun _ _ f=>f.elim).setCell (fun _=>.inr rfl) _).setCell (fun _=>.inl rfl) _)
  have HWD:=zh hwd
  clear hp hq hk hmd hp1 hq1 hk1 m2 hk2 hq2 m3 hqk hpl hql hkl
  subst hwd
  go_wp2_with fail
  exact Met.intro (hJ _ _ ⟨rfl,R2.out,R1.out,R3.out⟩)
 ·rintro e a' w' hq
  cases e with
  | normal =>
   obtain ⟨hd,h1,h2,h3⟩:=hq
   cases c₀
   simp_all [bodyPostS,results,results180]
  | exit id=>exact hq.elim
  | goto l=>exact hq.elim
  | ret=>exact hq.elim
  | panic ch=>exact hq.elim
  | outgrown=>exact hq.elim
theorem rtry_set {q:Nat} {v:Value} {L:List UInt8} {f:Bool} {w w':World} {S:Nat->Prop} (h:RdAt w q v L f) (hq:w'.heap[q]? = some (.cells #[v,.bool true] 221 (0,0))) (hm:Mod S w w') (hs:∀ k cur fz,S k->w.heap[k]? ≠ some (.cells cur 5 fz)):RdAt w' q v L true :=
 ⟨hq,h.row.keep hm fun k cur fz s _=>hs k cur fz s⟩
set_option maxRecDepth 100000 in
set_option maxHeartbeats 1000000 in
theorem rtry_bool_failed {q:Nat} {v c1 c2:Value} {L:List UInt8} {w:World} (h:RdAt w q v L true) :
  Calls prog 129 #[.pointer (some ⟨q,0,none⟩),.func (.func 130) #[] #[c1,c2]] w fun e w'=>e=.returned (.bool false)/\Mod No w w':=by
 refine calls_hide fun R hR=>?_
 have hmf:∀ (fn:Fn) (first cap:Array Value) (w:World),(Instr.makeFunc fn first cap).run prog w=.ok (.func fn first cap) w:=fun _ _ _ _=>rfl
 have hql:=lt_of_heap h.obj
 obtain ⟨w1,hw1⟩:∃ w1,w1=(w.alloc (.cells #[.pointer (some ⟨q,0,none⟩)] 139)).alloc (.cells #[.bool false] 4):=⟨_,rfl⟩
 have m1:Mod No w w1:=by rw [hw1];exact ((Mod.refl No w).alloc _).alloc _
 have cq:=cell_of (i:=1) h.obj rfl
 have R3:=zh m1
 clear m1 h
 go_enter_defers func129,ntmps129
 subst hw1
 go_wp2_with fail
 refine ⟨.bool false,?_,?_⟩
 ·simp [results,results129,go_sem]
 ·exact fin hR ⟨rfl,R3.out⟩
set_option maxRecDepth 100000 in
set_option maxHeartbeats 1000000 in
theorem rtry_bool {q:Nat} {v c1 c2:Value} {L:List UInt8} {w:World} (h:RdAt w q v L false) (S:Nat->Prop) (Yes:World->Prop) (Nay:Prop) (hS:∀ i,S i->i < w.heap.size)
  (hf:∀ w1,Mod No w w1->Calls prog 130 #[c1,c2] w1 fun e w'=>Mod S w1 w'/\((e=.returned (.tuple #[])/\Yes w')\/(e=StoppedC/\Nay/\∃ v L',RdAt w' q v L' false))) :
  Calls prog 129 #[.pointer (some ⟨q,0,none⟩),.func (.func 130) #[] #[c1,c2]] w fun e w'=>∃ wy,Mod S w wy ∧
   ((e=.returned (.bool true)/\Yes wy/\wy.heap[w.heap.size+1]? = some (.cells #[.bool false] 4 (0,0))/\Mod (fun i=>i=w.heap.size+1) wy w')\/(e=.returned (.bool false)/\Nay/\(∃ v L',RdAt w' q v L' true)/\Mod (fun i=>i=w.heap.size+1\/i=q) wy w')):=by
 refine calls_hide fun R hR=>?_
 have hmf:∀ (fn:Fn) (first cap:Array Value) (w:World),(Instr.makeFunc fn first cap).run prog w=.ok (.func fn first cap) w:=fun _ _ _ _=>rfl
 have hql:=lt_of_heap h.obj
 obtain ⟨w1,hw1⟩:∃ w1,w1=(w.alloc (.cells #[.pointer (some ⟨q,0,none⟩)] 139)).alloc (.cells #[.bool false] 4):=⟨_,rfl⟩
 have m1:Mod No w w1:=by rw [hw1];exact ((Mod.refl No w).alloc _).alloc _
 have hp:w1.heap[w.heap.size]? = some (.cells #[.pointer (some ⟨q,0,none⟩)] 139 (0,0)):=by
  rw [hw1];exact heap_alloc_old _ (heap_alloc_new w _)
 have hk:w1.heap[w.heap.size+1]? = some (.cells #[.bool false] 4 (0,0)):=by
  rw [hw1];exact heap_at_new _ _ (by simp)
 have cq:=cell_of (i:=1) h.obj rfl
 have HF:=zh (hf w1 m1)
 have HW1:=zh hw1
 have M1:=zh m1
 have HP:=zh hp
 have HK:=zh hk
 have HS:=zh hS
 clear hf hw1 m1 hp hk hS h
 go_enter_defers func129,ntmps129
 go_wp2_with fail
 rw [<- HW1.out]
 refine HF.out.mono ?_
 clear HF
 rintro e wy ⟨hmy,hcase⟩
 have hpy:=hmy.keep HP.out (fun e=>by have:=HS.out _ e;omega)
 have hky:=hmy.keep HK.out (fun e=>by have:=HS.out _ e;omega)
 have MY:=zh (show Mod S w wy from (M1.out.weaken fun _ _ f=>f.elim).trans hmy)
 have HPY:=zh hpy
 clear HW1
 rcases hcase with ⟨rfl,hy⟩ | ⟨rfl,hna,v',L',hn⟩
 ·have HY:=zh (And.intro hy hky)
  have k0:=cell_of (i:=0) hky rfl
  have kf:=frozen_of 0 hky
  have R2:=zh (cell_of (i:=0) (heap_setCell hky (i:=0) (.bool true)) rfl)
  have R3:=zh (show Mod (fun i=>i=w.heap.size+1) wy (wy.setCell ⟨w.heap.size+1,0,none⟩ (.bool true)) from (Mod.refl (fun i=>i=w.heap.size+1) wy).setCell (fun _=>rfl) _)
  clear hy hpy hky
  go_wp2_with fail
  refine leaves_cons (f:=180) (args:=#[.pointer (some ⟨w.heap.size,0,none⟩),.pointer (some ⟨w.heap.size+1,0,none⟩)]) (by simp) (by simp [go_sem]) ?_
  refine (rstop_idle _ _ _).mono ?_
  rintro e u' w'' ⟨rfl,rfl,rfl⟩
  have r2:=R2.out
  refine ⟨.bool true,?_,?_⟩
  ·simp [results,results129,go_sem,r2]
  ·exact fin hR ⟨wy,MY.out,.inl ⟨rfl,HY.out.1,HY.out.2,R3.out⟩⟩
 ·have HN:=zh hn
  have HNA:=zh hna
  have HKY:=zh hky
  clear hn hna hky hpy
  go_wp2_with fail
  refine leaves_cons (f:=180) (args:=#[.pointer (some ⟨w.heap.size,0,none⟩),.pointer (some ⟨w.heap.size+1,0,none⟩)]) (by simp) (by simp [go_sem]) ?_
  refine (rstop_caught _ _ q _ _ _ _ HPY.out HKY.out HN.out.obj).mono ?_
  rintro e u' w'' ⟨rfl,rfl,r1,r2,hm⟩
  have hrd:=rtry_set HN.out r2 hm (fun i cur fz s e=>by
   rcases s with s | s
   ·subst s;have h:=HKY.out;rw [h] at e;cases e
   ·subst s;have h:=HN.out.obj;rw [h] at e;cases e)
  have r1:=cell_of (i:=0) r1 rfl
  refine ⟨.bool false,?_,?_⟩
  ·simp [results,results129,go_sem,r1]
  ·exact fin hR ⟨wy,MY.out,.inr ⟨rfl,HNA.out,⟨_,_,hrd⟩,hm⟩⟩
set_option maxRecDepth 100000 in
set_option maxHeartbeats 1000000 in
theorem rtry_text_failed {q:Nat} {v c1 c2:Value} {L:List UInt8} {w:World} (h:RdAt w q v L true) :
  Calls prog 129 #[.pointer (some ⟨q,0,none⟩),.func (.func 132) #[] #[c1,c2]] w fun e w'=>e=.returned (.bool false)/\Mod No w w':=by
 refine calls_hide fun R hR=>?_
 have hmf:∀ (fn:Fn) (first cap:Array Value) (w:World),(Instr.makeFunc fn first cap).run prog w=.ok (.func fn first cap) w:=fun _ _ _ _=>rfl
 have hql:=lt_of_heap h.obj
 obtain ⟨w1,hw1⟩:∃ w1,w1=(w.alloc (.cells #[.pointer (some ⟨q,0,none⟩)] 139)).alloc (.cells #[.bool false] 4):=⟨_,rfl⟩
 have m1:Mod No w w1:=by rw [hw1];exact ((Mod.refl No w).alloc _).alloc _
 have cq:=cell_of (i:=1) h.obj rfl
 have R3:=zh m1
 clear m1 h
 go_enter_defers func129,ntmps129
 subst hw1
 go_wp2_with fail
 refine ⟨.bool false,?_,?_⟩
 ·simp [results,results129,go_sem]
 ·exact fin hR ⟨rfl,R3.out⟩
set_option maxRecDepth 100000 in
set_option maxHeartbeats 1000000 in
theorem rtry_text {q:Nat} {v c1 c2:Value} {L:List UInt8} {w:World} (h:RdAt w q v L false) (S:Nat->Prop) (Yes:World->Prop) (Nay:Prop) (hS:∀ i,S i->i < w.heap.size)
  (hf:∀ w1,Mod No w w1->Calls prog 132 #[c1,c2] w1 fun e w'=>Mod S w1 w'/\((e=.returned (.tuple #[])/\Yes w')\/(e=StoppedC/\Nay/\∃ v L',RdAt w' q v L' false))) :
  Calls prog 129 #[.pointer (some ⟨q,0,none⟩),.func (.func 132) #[] #[c1,c2]] w fun e w'=>∃ wy,Mod S w wy ∧
   ((e=.returned (.bool true)/\Yes wy/\wy.heap[w.heap.size+1]? = some (.cells #[.bool false] 4 (0,0))/\Mod (fun i=>i=w.heap.size+1) wy w')\/(e=.returned (.bool false)/\Nay/\(∃ v L',RdAt w' q v L' true)/\Mod (fun i=>i=w.heap.size+1\/i=q) wy w')):=by
 refine calls_hide fun R hR=>?_
 have hmf:∀ (fn:Fn) (first cap:Array Value) (w:World),(Instr.makeFunc fn first cap).run prog w=.ok (.func fn first cap) w:=fun _ _ _ _=>rfl
 have hql:=lt_of_heap h.obj
 obtain ⟨w1,hw1⟩:∃ w1,w1=(w.alloc (.cells #[.pointer (some ⟨q,0,none⟩)] 139)).alloc (.cells #[.bool false] 4):=⟨_,rfl⟩
 have m1:Mod No w w1:=by rw [hw1];exact ((Mod.refl No w).alloc _).alloc _
 have hp:w1.heap[w.heap.size]? = some (.cells #[.pointer (some ⟨q,0,none⟩)] 139 (0,0)):=by
  rw [hw1];exact heap_alloc_old _ (heap_alloc_new w _)
 have hk:w1.heap[w.heap.size+1]? = some (.cells #[.bool false] 4 (0,0)):=by
  rw [hw1];exact heap_at_new _ _ (by simp)
 have cq:=cell_of (i:=1) h.obj rfl
 have HF:=zh (hf w1 m1)
 have HW1:=zh hw1
 have M1:=zh m1
 have HP:=zh hp
 have HK:=zh hk
 have HS:=zh hS
 clear hf hw1 m1 hp hk hS h
 go_enter_defers func129,ntmps129
 go_wp2_with fail
 rw [<- HW1.out]
 refine HF.out.mono ?_
 clear HF
 rintro e wy ⟨hmy,hcase⟩
 have hpy:=hmy.keep HP.out (fun e=>by have:=HS.out _ e;omega)
 have hky:=hmy.keep HK.out (fun e=>by have:=HS.out _ e;omega)
 have MY:=zh (show Mod S w wy from (M1.out.weaken fun _ _ f=>f.elim).trans hmy)
 have HPY:=zh hpy
 clear HW1
 rcases hcase with ⟨rfl,hy⟩ | ⟨rfl,hna,v',L',hn⟩
 ·have HY:=zh (And.intro hy hky)
  have k0:=cell_of (i:=0) hky rfl
  have kf:=frozen_of 0 hky
  have R2:=zh (cell_of (i:=0) (heap_setCell hky (i:=0) (.bool true)) rfl)
  have R3:=zh (show Mod (fun i=>i=w.heap.size+1) wy (wy.setCell ⟨w.heap.size+1,0,none⟩ (.bool true)) from (Mod.refl (fun i=>i=w.heap.size+1) wy).setCell (fun _=>rfl) _)
  clear hy hpy hky
  go_wp2_with fail
  refine leaves_cons (f:=180) (args:=#[.pointer (some ⟨w.heap.size,0,none⟩),.pointer (some ⟨w.heap.size+1,0,none⟩)]) (by simp) (by simp [go_sem]) ?_
  refine (rstop_idle _ _ _).mono ?_
  rintro e u' w'' ⟨rfl,rfl,rfl⟩
  have r2:=R2.out
  refine ⟨.bool true,?_,?_⟩
  ·simp [results,results129,go_sem,r2]
  ·exact fin hR ⟨wy,MY.out,.inl ⟨rfl,HY.out.1,HY.out.2,R3.out⟩⟩
 ·have HN:=zh hn
  have HNA:=zh hna
  have HKY:=zh hky
  clear hn hna hky hpy
  go_wp2_with fail
  refine leaves_cons (f:=180) (args:=#[.pointer (some ⟨w.heap.size,0,none⟩),.pointer (some ⟨w.heap.size+1,0,none⟩)]) (by simp) (by simp [go_sem]) ?_
  refine (rstop_caught _ _ q _ _ _ _ HPY.out HKY.out HN.out.obj).mono ?_
  rintro e u' w'' ⟨rfl,rfl,r1,r2,hm⟩
  have hrd:=rtry_set HN.out r2 hm (fun i cur fz s e=>by
   rcases s with s | s
   ·subst s;have h:=HKY.out;rw [h] at e;cases e
   ·subst s;have h:=HN.out.obj;rw [h] at e;cases e)
  have r1:=cell_of (i:=0) r1 rfl
  refine ⟨.bool false,?_,?_⟩
  ·simp [results,results129,go_sem,r1]
  ·exact fin hR ⟨wy,MY.out,.inr ⟨rfl,HNA.out,⟨_,_,hrd⟩,hm⟩⟩
def RboolPost (w:World) (q:Nat) (L:List UInt8) (e:Ending) (w':World):Prop :=
 Mod (fun k=>k=q) w w'/\((∃ (o:Bool) (L':List UInt8) (v:Value),rdBool L=some (o,L')/\e=.returned (.bool o)/\RdAt w' q v L' false)\/(rdBool L=none/\e=.returned (.bool false)/\∃ v L',RdAt w' q v L' true))
set_option maxRecDepth 100000 in
set_option maxHeartbeats 1000000 in
theorem cbool_any {w:World} {q p k:Nat} {v0 x:Value} {L:List UInt8} (h:RdAt w q v0 L false) (_:L.length<=1000000000) (hp:w.heap[p]? = some (.cells #[.pointer (some ⟨q,0,none⟩)] 139 (0,0))) (hk:w.heap[k]? = some (.cells #[x] 4 (0,0))) (hx:∃ o:Bool,x=.bool o) :
  Calls prog 130 #[.pointer (some ⟨p,0,none⟩),.pointer (some ⟨k,0,none⟩)] w fun e w'=>Mod (fun i=>i=q\/i=k) w w' ∧
   ((e=.returned (.tuple #[])/\∃ (o:Bool) (L':List UInt8) (v:Value),rdBool L=some (o,L')/\RdAt w' q v L' false/\w'.heap[k]? = some (.cells #[.bool o] 4 (0,0)))\/(e=StoppedC/\rdBool L=none/\∃ v L',RdAt w' q v L' false)):=by
 refine calls_hide fun R hR=>?_
 obtain ⟨o0,rfl⟩:=hx
 have pc:=cell_of (i:=0) hp rfl
 have HI:=zh (rbool_any h)
 have HK:=zh hk
 have hqk:k ≠ q:=fun e=>by subst e;rw [h.obj] at hk;cases hk
 clear h hp hk
 go_enter func130,ntmps130
 go_wp2_with fail
 with_reducible refine HI.out.mono ?_
 clear HI
 rintro e w1 ⟨hm,v,L',hrd,⟨o,hn,rfl⟩ | ⟨hn,rfl⟩⟩
 ·have hk1:=hm.keep HK.out hqk
  have kc:=cell_of (i:=0) hk1 rfl
  have kf:=frozen_of 0 hk1
  have hms:Mod (fun i=>i=k) w1 (w1.setCell ⟨k,0,none⟩ (.bool o)):=(Mod.refl (fun i=>i=k) w1).setCell (fun _=>rfl) _
  have R1:=zh (show Mod (fun i=>i=q\/i=k) w (w1.setCell ⟨k,0,none⟩ (.bool o)) from (hm.weaken fun _ _ e=>.inl e).trans (hms.weaken fun _ _ e=>.inr e))
  have R2:=zh (And.intro hn (And.intro (hrd.keep hms (fun e=>hqk e.symm) (fun i cur fz s e=>by subst s;rw [hk1] at e;cases e)) (heap_setCell hk1 (i:=0) (.bool o))))
  clear hm hrd hk1 hms hn
  go_wp2_with fail
  go_end0
  exact fin hR ⟨R1.out,.inl ⟨rfl,_,_,_,R2.out.1,R2.out.2.1,R2.out.2.2⟩⟩
 ·have HX:=zh (And.intro hm (And.intro hn hrd))
  clear hm hn hrd
  go_wp2_with fail
  exact ⟨rfl,fin hR ⟨HX.out.1.weaken fun _ _ e=>.inl e,.inr ⟨rfl,HX.out.2.1,_,_,HX.out.2.2⟩⟩⟩
set_option maxRecDepth 100000 in
set_option maxHeartbeats 1000000 in
theorem rbool_ok {w:World} {q:Nat} {v0:Value} {L:List UInt8} (h:RdAt w q v0 L false) (hL:L.length<=1000000000) :
  Calls prog 67 #[.pointer (some ⟨q,0,none⟩)] w (RboolPost w q L):=by
 refine calls_hide fun R hR=>?_
 have hmf:∀ (fn:Fn) (first cap:Array Value) (w:World),(Instr.makeFunc fn first cap).run prog w=.ok (.func fn first cap) w:=fun _ _ _ _=>rfl
 have hql:=lt_of_heap h.obj
 obtain ⟨w1,hw1⟩:∃ w1,w1=(w.alloc (.cells #[.pointer (some ⟨q,0,none⟩)] 139)).alloc (.cells #[.bool false] 4):=⟨_,rfl⟩
 have m1:Mod No w w1:=by rw [hw1];exact ((Mod.refl No w).alloc _).alloc _
 have hz1:w1.heap.size=w.heap.size+2:=by rw [hw1];simp
 have hp:w1.heap[w.heap.size]? = some (.cells #[.pointer (some ⟨q,0,none⟩)] 139 (0,0)):=by
  rw [hw1];exact heap_alloc_old _ (heap_alloc_new w _)
 have hk:w1.heap[w.heap.size+1]? = some (.cells #[.bool false] 4 (0,0)):=by
  rw [hw1];exact heap_at_new _ _ (by simp)
 have HT:=zh (rtry_bool (c1:=.pointer (some ⟨w.heap.size,0,none⟩)) (c2:=.pointer (some ⟨w.heap.size+1,0,none⟩)) (h.stay m1) (fun i=>i=q\/i=w.heap.size+1) (fun wy=>∃ (o:Bool) (L':List UInt8) (v:Value),rdBool L=some (o,L')/\RdAt wy q v L' false/\wy.heap[w.heap.size+1]? = some (.cells #[.bool o] 4 (0,0))) (rdBool L=none) (fun i e=>by omega)
  (fun w2 hm2=>cbool_any ((h.stay m1).stay hm2) hL (hm2.keep hp (fun f=>f)) (hm2.keep hk (fun f=>f)) ⟨_,rfl⟩))
 have pc:=cell_of (i:=0) hp rfl
 have M1:=zh m1
 have HW1:=zh hw1
 have HZ:=zh hz1
 have HL2:=zh h
 clear hw1 m1 hz1 hp hk h hL
 go_enter func67,ntmps67
 go_wp2_with fail
 rw [<- HW1.out]
 with_reducible refine HT.out.mono ?_
 clear HT
 rintro e w2 ⟨wy,hmy,⟨rfl,⟨o,L',v,hn,hrd,hk⟩,hok,hm2⟩ | ⟨rfl,hn,⟨v,L',hrd⟩,hm2⟩⟩
 ·have hk2:=hm2.keep hk (by have:=HZ.out;omega)
  have kc:=cell_of (i:=0) hk2 rfl
  have HX:=zh (show Mod (fun i=>i=q) w w2/\rdBool L=some (o,L')/\RdAt w2 q v L' false from ⟨((M1.out.weaken fun _ _ f=>f.elim:Mod (fun i=>i=q) w w1).then hmy (fun i hi e=>by omega)).then hm2 (fun i hi e=>by have:=HZ.out;omega),hn,hrd.keep hm2 (fun e=>by have:=HZ.out;omega) (fun i cur fz s e=>by subst s;rw [hok] at e;cases e)⟩)
  clear hmy hm2 hn hrd hk hk2 hok HW1
  go_wp2_with fail
  exact fin hR ⟨HX.out.1,.inl ⟨_,_,_,HX.out.2.1,rfl,HX.out.2.2⟩⟩
 ·have HX:=zh (show Mod (fun i=>i=q) w w2/\rdBool L=none/\RdAt w2 q v L' true from ⟨((M1.out.weaken fun _ _ f=>f.elim:Mod (fun i=>i=q) w w1).then hmy (fun i hi e=>by omega)).then hm2 (fun i hi e=>by have:=HZ.out;omega),hn,hrd⟩)
  clear hmy hm2 hn hrd HW1
  go_wp2_with fail
  exact fin hR ⟨HX.out.1,.inr ⟨HX.out.2.1,rfl,_,_,HX.out.2.2⟩⟩
set_option maxRecDepth 100000 in
theorem rbool_failed {w:World} {q:Nat} {v0:Value} {L:List UInt8} (h:RdAt w q v0 L true) :
  Calls prog 67 #[.pointer (some ⟨q,0,none⟩)] w fun e w'=>e=.returned (.bool false)/\Mod No w w':=by
 refine calls_hide fun R hR=>?_
 have hmf:∀ (fn:Fn) (first cap:Array Value) (w:World),(Instr.makeFunc fn first cap).run prog w=.ok (.func fn first cap) w:=fun _ _ _ _=>rfl
 have hql:=lt_of_heap h.obj
 obtain ⟨w1,hw1⟩:∃ w1,w1=(w.alloc (.cells #[.pointer (some ⟨q,0,none⟩)] 139)).alloc (.cells #[.bool false] 4):=⟨_,rfl⟩
 have m1:Mod No w w1:=by rw [hw1];exact ((Mod.refl No w).alloc _).alloc _
 have HT:=zh (rtry_bool_failed (c1:=.pointer (some ⟨w.heap.size,0,none⟩)) (c2:=.pointer (some ⟨w.heap.size+1,0,none⟩)) (h.stay m1))
 have M1:=zh m1
 have HW1:=zh hw1
 clear hw1 m1 h
 go_enter func67,ntmps67
 go_wp2_with fail
 rw [<- HW1.out]
 with_reducible refine HT.out.mono ?_
 clear HT
 rintro e w2 ⟨rfl,hm2⟩
 have M2:=zh (M1.out.trans hm2)
 clear hm2 HW1
 go_wp2_with fail
 exact fin hR ⟨rfl,M2.out⟩
def RtextPost (w:World) (q:Nat) (L:List UInt8) (e:Ending) (w':World):Prop :=
 Mod (fun k=>k=q) w w'/\((∃ (o:List UInt8) (L':List UInt8) (v:Value),rdText L=some (o,L')/\e=.returned (.string ⟨o.toArray⟩)/\RdAt w' q v L' false)\/(rdText L=none/\e=.returned (.string ⟨#[]⟩)/\∃ v L',RdAt w' q v L' true))
set_option maxRecDepth 100000 in
set_option maxHeartbeats 1000000 in
theorem ctext_any {w:World} {q p k:Nat} {v0 x:Value} {L:List UInt8} (h:RdAt w q v0 L false) (hL:L.length<=1000000000) (hp:w.heap[p]? = some (.cells #[.pointer (some ⟨q,0,none⟩)] 139 (0,0))) (hk:w.heap[k]? = some (.cells #[x] 9 (0,0))) (hx:∃ o:List UInt8,x=.string ⟨o.toArray⟩) :
  Calls prog 132 #[.pointer (some ⟨p,0,none⟩),.pointer (some ⟨k,0,none⟩)] w fun e w'=>Mod (fun i=>i=q\/i=k) w w' ∧
   ((e=.returned (.tuple #[])/\∃ (o:List UInt8) (L':List UInt8) (v:Value),rdText L=some (o,L')/\RdAt w' q v L' false/\w'.heap[k]? = some (.cells #[.string ⟨o.toArray⟩] 9 (0,0)))\/(e=StoppedC/\rdText L=none/\∃ v L',RdAt w' q v L' false)):=by
 refine calls_hide fun R hR=>?_
 obtain ⟨o0,rfl⟩:=hx
 have pc:=cell_of (i:=0) hp rfl
 have HI:=zh (rtext_any h hL)
 have HK:=zh hk
 have hqk:k ≠ q:=fun e=>by subst e;rw [h.obj] at hk;cases hk
 clear h hp hk hL
 go_enter func132,ntmps132
 go_wp2_with fail
 with_reducible refine HI.out.mono ?_
 clear HI
 rintro e w1 ⟨hm,v,L',hrd,⟨o,hn,rfl⟩ | ⟨hn,rfl⟩⟩
 ·have hk1:=hm.keep HK.out hqk
  have kc:=cell_of (i:=0) hk1 rfl
  have kf:=frozen_of 0 hk1
  have hms:Mod (fun i=>i=k) w1 (w1.setCell ⟨k,0,none⟩ (.string ⟨o.toArray⟩)):=(Mod.refl (fun i=>i=k) w1).setCell (fun _=>rfl) _
  have R1:=zh (show Mod (fun i=>i=q\/i=k) w (w1.setCell ⟨k,0,none⟩ (.string ⟨o.toArray⟩)) from (hm.weaken fun _ _ e=>.inl e).trans (hms.weaken fun _ _ e=>.inr e))
  have R2:=zh (And.intro hn (And.intro (hrd.keep hms (fun e=>hqk e.symm) (fun i cur fz s e=>by subst s;rw [hk1] at e;cases e)) (heap_setCell hk1 (i:=0) (.string ⟨o.toArray⟩))))
  clear hm hrd hk1 hms hn
  go_wp2_with fail
  go_end0
  exact fin hR ⟨R1.out,.inl ⟨rfl,_,_,_,R2.out.1,R2.out.2.1,R2.out.2.2⟩⟩
 ·have HX:=zh (And.intro hm (And.intro hn hrd))
  clear hm hn hrd
  go_wp2_with fail
  exact ⟨rfl,fin hR ⟨HX.out.1.weaken fun _ _ e=>.inl e,.inr ⟨rfl,HX.out.2.1,_,_,HX.out.2.2⟩⟩⟩
set_option maxRecDepth 100000 in
set_option maxHeartbeats 1000000 in
theorem rtext_ok {w:World} {q:Nat} {v0:Value} {L:List UInt8} (h:RdAt w q v0 L false) (hL:L.length<=1000000000) :
  Calls prog 68 #[.pointer (some ⟨q,0,none⟩)] w (RtextPost w q L):=by
 refine calls_hide fun R hR=>?_
 have hmf:∀ (fn:Fn) (first cap:Array Value) (w:World),(Instr.makeFunc fn first cap).run prog w=.ok (.func fn first cap) w:=fun _ _ _ _=>rfl
 have hql:=lt_of_heap h.obj
 obtain ⟨w1,hw1⟩:∃ w1,w1=(w.alloc (.cells #[.pointer (some ⟨q,0,none⟩)] 139)).alloc (.cells #[.string ⟨#[]⟩] 9):=⟨_,rfl⟩
 have m1:Mod No w w1:=by rw [hw1];exact ((Mod.refl No w).alloc _).alloc _
 have hz1:w1.heap.size=w.heap.size+2:=by rw [hw1];simp
 have hp:w1.heap[w.heap.size]? = some (.cells #[.pointer (some ⟨q,0,none⟩)] 139 (0,0)):=by
  rw [hw1];exact heap_alloc_old _ (heap_alloc_new w _)
 have hk:w1.heap[w.heap.size+1]? = some (.cells #[.string ⟨#[]⟩] 9 (0,0)):=by
  rw [hw1];exact heap_at_new _ _ (by simp)
 have HT:=zh (rtry_text (c1:=.pointer (some ⟨w.heap.size,0,none⟩)) (c2:=.pointer (some ⟨w.heap.size+1,0,none⟩)) (h.stay m1) (fun i=>i=q\/i=w.heap.size+1) (fun wy=>∃ (o:List UInt8) (L':List UInt8) (v:Value),rdText L=some (o,L')/\RdAt wy q v L' false/\wy.heap[w.heap.size+1]? = some (.cells #[.string ⟨o.toArray⟩] 9 (0,0))) (rdText L=none) (fun i e=>by omega)
  (fun w2 hm2=>ctext_any ((h.stay m1).stay hm2) hL (hm2.keep hp (fun f=>f)) (hm2.keep hk (fun f=>f)) ⟨[],rfl⟩))
 have pc:=cell_of (i:=0) hp rfl
 have M1:=zh m1
 have HW1:=zh hw1
 have HZ:=zh hz1
 have HL2:=zh h
 clear hw1 m1 hz1 hp hk h hL
 go_enter func68,ntmps68
 go_wp2_with fail
 rw [<- HW1.out]
 with_reducible refine HT.out.mono ?_
 clear HT
 rintro e w2 ⟨wy,hmy,⟨rfl,⟨o,L',v,hn,hrd,hk⟩,hok,hm2⟩ | ⟨rfl,hn,⟨v,L',hrd⟩,hm2⟩⟩
 ·have hk2:=hm2.keep hk (by have:=HZ.out;omega)
  have kc:=cell_of (i:=0) hk2 rfl
  have HX:=zh (show Mod (fun i=>i=q) w w2/\rdText L=some (o,L')/\RdAt w2 q v L' false from ⟨((M1.out.weaken fun _ _ f=>f.elim:Mod (fun i=>i=q) w w1).then hmy (fun i hi e=>by omega)).then hm2 (fun i hi e=>by have:=HZ.out;omega),hn,hrd.keep hm2 (fun e=>by have:=HZ.out;omega) (fun i cur fz s e=>by subst s;rw [hok] at e;cases e)⟩)
  clear hmy hm2 hn hrd hk hk2 hok HW1
  go_wp2_with fail
  exact fin hR ⟨HX.out.1,.inl ⟨_,_,_,HX.out.2.1,rfl,HX.out.2.2⟩⟩
 ·have HX:=zh (show Mod (fun i=>i=q) w w2/\rdText L=none/\RdAt w2 q v L' true from ⟨((M1.out.weaken fun _ _ f=>f.elim:Mod (fun i=>i=q) w w1).then hmy (fun i hi e=>by omega)).then hm2 (fun i hi e=>by have:=HZ.out;omega),hn,hrd⟩)
  clear hmy hm2 hn hrd HW1
  go_wp2_with fail
  exact fin hR ⟨HX.out.1,.inr ⟨HX.out.2.1,rfl,_,_,HX.out.2.2⟩⟩
set_option maxRecDepth 100000 in
theorem rtext_failed {w:World} {q:Nat} {v0:Value} {L:List UInt8} (h:RdAt w q v0 L true) :
  Calls prog 68 #[.pointer (some ⟨q,0,none⟩)] w fun e w'=>e=.returned (.string ⟨#[]⟩)/\Mod No w w':=by
 refine calls_hide fun R hR=>?_
 have hmf:∀ (fn:Fn) (first cap:Array Value) (w:World),(Instr.makeFunc fn first cap).run prog w=.ok (.func fn first cap) w:=fun _ _ _ _=>rfl
 have hql:=lt_of_heap h.obj
 obtain ⟨w1,hw1⟩:∃ w1,w1=(w.alloc (.cells #[.pointer (some ⟨q,0,none⟩)] 139)).alloc (.cells #[.string ⟨#[]⟩] 9):=⟨_,rfl⟩
 have m1:Mod No w w1:=by rw [hw1];exact ((Mod.refl No w).alloc _).alloc _
 have HT:=zh (rtry_text_failed (c1:=.pointer (some ⟨w.heap.size,0,none⟩)) (c2:=.pointer (some ⟨w.heap.size+1,0,none⟩)) (h.stay m1))
 have M1:=zh m1
 have HW1:=zh hw1
 clear hw1 m1 h
 go_enter func68,ntmps68
 go_wp2_with fail
 rw [<- HW1.out]
 with_reducible refine HT.out.mono ?_
 clear HT
 rintro e w2 ⟨rfl,hm2⟩
 have M2:=zh (M1.out.trans hm2)
 clear hm2 HW1
 go_wp2_with fail
 exact fin hR ⟨rfl,M2.out⟩
def doneI (L:List UInt8) (f:Bool):Int:=if f=true\/0 < L.length then 20 else 0
theorem rdone_any {w:World} {q:Nat} {v0:Value} {L:List UInt8} {f:Bool} (h:RdAt w q v0 L f) :
  Calls prog 69 #[.pointer (some ⟨q,0,none⟩)] w fun e w'=>e=.returned (.int .i64 (doneI L f))/\w'=w:=by
 refine calls_hide fun R hR=>?_
 obtain ⟨a,c,rfl⟩:=h.row.len
 have c0:=cell_of (i:=0) h.obj rfl
 have c1:=cell_of (i:=1) h.obj rfl
 clear h
 cases f with
 | true =>
  have HE:=zh (show doneI L true=20 by unfold doneI;rw [if_pos (.inl rfl)])
  go_enter func69,ntmps69
  go_wp2_with fail
  exact fin hR ⟨by rw [HE.out];rfl,rfl⟩
 | false =>
  by_cases hl:0 < L.length
  ·have HE:=zh (show doneI L false=20 by unfold doneI;rw [if_pos (.inr hl)])
   have hlI:(0:Int) < (L.length:Int):=by omega
   generalize L.length=n at *
   go_enter func69,ntmps69
   go_wp2_with fail
   exact fin hR ⟨by rw [HE.out];rfl,rfl⟩
  ·have HE:=zh (show doneI L false=0 by unfold doneI;rw [if_neg (by rintro (h | h) <;> simp_all)])
   have hl0:L.length=0:=by omega
   rw [hl0] at c0
   clear hl hl0
   go_enter func69,ntmps69
   go_wp2_with fail
   exact fin hR ⟨by first | (rw [HE.out];rfl) | rw [HE.out],rfl⟩
structure Pr where
 key:List UInt8
 value:List UInt8
 gone:Bool
def Pr.agg (p:Pr):Value:=.agg #[.string ⟨p.key.toArray⟩,.string ⟨p.value.toArray⟩,.bool p.gone]
def pairB (p:Pr):List UInt8:=boolB p.gone++(textB p.key++if p.gone then [] else textB p.value)
def Pr.norm (p:Pr):Pr:=⟨p.key,if p.gone then [] else p.value,p.gone⟩
theorem textB_len (s:List UInt8) (h:s.length<=10000000):(textB s).length<=s.length+10:=by
 have:=numB_bound s.length (by omega)
 unfold textB
 rw [List.length_append];omega
theorem pairB_len (p:Pr) (h1:p.key.length<=10000000) (h2:p.value.length<=10000000):(pairB p).length<=p.key.length+p.value.length+21:=by
 have a:=textB_len p.key h1
 have b:=textB_len p.value h2
 unfold pairB
 cases p.gone with
 | true=>simp only [List.length_append,boolB,if_true,List.length_nil,List.length_cons];omega
 | false=>simp only [List.length_append,boolB,Bool.false_eq_true,if_false,List.length_nil,List.length_cons];omega
theorem str_size_list (l:List UInt8):(⟨l.toArray⟩:ByteArray).size=l.length:=by rw [str_size]
set_option maxRecDepth 100000 in
set_option maxHeartbeats 4000000 in
theorem pbytes_any (p:Pr) (w:World) (h1:p.key.length<=10000000) (h2:p.value.length<=10000000) :
  Calls prog 30 #[p.agg] w fun e w'=>∃ v,e=.returned v/\w'.ownsRow w.heap.size 5 1 v (pairB p).length (bv (pairB p))/\Mod No w w':=by
 refine calls_hide fun R hR=>?_
 obtain ⟨k,x,g⟩:=p
 dsimp only at h1 h2
 unfold Pr.agg
 dsimp only
 have hks:=str_size_list k
 have hxs:=str_size_list x
 obtain ⟨K,hK⟩:∃ K:ByteArray,K=⟨k.toArray⟩:=⟨_,rfl⟩
 obtain ⟨X,hX⟩:∃ X:ByteArray,X=⟨x.toArray⟩:=⟨_,rfl⟩
 rw [<- hK] at hks ⊢
 rw [<- hX] at hxs ⊢
 have HKL:=zh (show K.data.toList=k by rw [hK])
 have HXL:=zh (show X.data.toList=x by rw [hX])
 have HKS:=zh hks
 have HXS:=zh hxs
 have hmb:∀ (l:List UInt8),l.length<=10000000->(textB l).length<=10000010:=fun l h=>by have:=textB_len l h;omega
 have HTB:=zh hmb
 clear hK hX hks hxs hmb
 obtain ⟨w1,hw1⟩:∃ w1,w1=w.alloc (.cells #[.string K,.string X,.bool g] 33):=⟨_,rfl⟩
 have hp1:w1.heap[w.heap.size]? = some (.cells #[.string K,.string X,.bool g] 33 (0,0)):=by rw [hw1];exact heap_alloc_new w _
 have HM1:=zh (show Mod No w w1 by rw [hw1];exact (Mod.refl No w).alloc _)
 have HP1:=zh hp1
 have HZ1:=zh (show w1.heap.size=w.heap.size+1 by rw [hw1];simp)
 have HW1:=zh hw1
 clear hp1 hw1
 go_enter func30,ntmps30
 go_wp2_with fail
 rw [<- HW1.out]
 with_reducible refine (newWriter_any w1).mono ?_
 rintro e w2 ⟨rfl,hwr,hm2⟩
 obtain ⟨base,hbase⟩:∃ base,base=w1.heap.size:=⟨_,rfl⟩
 rw [<- hbase] at hwr ⊢
 have HBASE:=zh hbase
 have hp2:=hm2.keep HP1.out (fun f=>f)
 have c2:=cell_of (i:=2) hp2 rfl
 have m23:Mod No w2 (w2.alloc (.cells #[.bool g] 4)):=(Mod.refl No w2).alloc _
 have hb2:base<=(w2.alloc (.cells #[.bool g] 4)).heap.size:=by have:=hm2.size;simp;omega
 have HB:=zh (wbool_any (c:=1) (hwr.stay m23) (by decide) hb2 (cell_of (i:=0) (xs:=[.bool g]) (heap_alloc_new w2 _) rfl))
 have HM2:=zh (hm2.trans m23)
 have HP2:=zh (m23.keep hp2 (fun f=>f))
 clear hwr hm2 hp2 m23 hbase hb2
 go_wp2_with fail
 with_reducible refine HB.out.mono ?_
 clear HB
 rintro e w3 ⟨v3,rfl,hw3,hm3⟩
 have hp3:=hm3.keep HP2.out (fun e=>by have:=HBASE.out;have:=HZ1.out;omega)
 have c0:=cell_of (i:=0) hp3 rfl
 have m34:Mod No w3 (w3.alloc (.cells #[.string K] 9)):=(Mod.refl No w3).alloc _
 have hb3:base<=(w3.alloc (.cells #[.string K] 9)).heap.size:=by have:=hm3.size;have:=HM2.out.size;have:=HBASE.out;simp at *;omega
 have HT:=zh (wtext_any (c:=1) (s:=K) (hw3.stay m34) (by simp [boolB]) hb3 (cell_of (i:=0) (xs:=[.string K]) (heap_alloc_new w3 _) rfl) (by rw [HKS.out];exact h1))
 have HM3:=zh ((HM2.out.then hm3 (fun i hi e=>by have:=HBASE.out;omega)).trans m34)
 have HP3:=zh (m34.keep hp3 (fun f=>f))
 clear hw3 hm3 hp3 m34 hb3 c2
 go_wp2_with fail
 with_reducible refine HT.out.mono ?_
 clear HT
 rintro e w4 ⟨v4,rfl,hw4,hm4⟩
 rw [HKL.out] at hw4
 have hp4:=hm4.keep HP3.out (fun e=>by have:=HBASE.out;have:=HZ1.out;omega)
 have c2:=cell_of (i:=2) hp4 rfl
 have c1:=cell_of (i:=1) hp4 rfl
 have HM4:=zh (HM3.out.then hm4 (fun i hi e=>by have:=HBASE.out;omega))
 have hlen4:([]++boolB g++textB k).length<=10000020:=by
  have:=HTB.out k h1
  simp only [List.nil_append,List.length_append,boolB,List.length_cons,List.length_nil];omega
 have HP4:=zh hp4
 have HW4:=zh hw4
 have HL4:=zh hlen4
 clear hw4 hm4 hp4 c0 hlen4
 cases g with
 | true =>
  have HB:=zh (wbytes_any HW4.out (by have:=HL4.out;omega))
  go_wp2_with fail
  with_reducible refine HB.out.mono ?_
  clear HB
  rintro e w5 ⟨v5,rfl,ho,hm5⟩
  have hlist:[]++boolB true++textB k=pairB ⟨k,x,true⟩:=by unfold pairB;simp
  rw [hlist] at ho
  have HO:=zh ho
  have HM5:=zh (HM1.out.trans (HM4.out.trans hm5))
  have HZ4:=zh HM4.out.size
  clear ho hm5 hlist
  go_wp2_with fail
  refine fin hR ⟨_,rfl,⟨HO.out.1,HO.out.2.imp (fun h=>h) ?_⟩,HM5.out⟩
  rintro ⟨g,cap,cur,hv,hg,r⟩
  exact ⟨g,cap,cur,hv,by have:=HZ4.out;have:=HZ1.out;omega,r⟩
 | false =>
  have m45:Mod No w4 (w4.alloc (.cells #[.string X] 9)):=(Mod.refl No w4).alloc _
  have hb4:base<=(w4.alloc (.cells #[.string X] 9)).heap.size:=by have:=HM4.out.size;have:=HBASE.out;simp;omega
  have HT:=zh (wtext_any (c:=1) (s:=X) (HW4.out.stay m45) (by have:=HL4.out;omega) hb4 (cell_of (i:=0) (xs:=[.string X]) (heap_alloc_new w4 _) rfl) (by rw [HXS.out];exact h2))
  have HM45:=zh (HM4.out.trans m45)
  clear m45 hb4
  go_wp2_with fail
  with_reducible refine HT.out.mono ?_
  clear HT
  rintro e w5 ⟨v5,rfl,hw5,hm5⟩
  rw [HXL.out] at hw5
  have HM5:=zh (HM45.out.then hm5 (fun i hi e=>by have:=HBASE.out;omega))
  have HB:=zh (wbytes_any hw5 (by have:=HL4.out;have:=HTB.out x h2;rw [List.length_append];omega))
  clear hw5 hm5
  go_wp2_with fail
  with_reducible refine HB.out.mono ?_
  clear HB
  rintro e w6 ⟨v6,rfl,ho,hm6⟩
  have hlist:[]++boolB false++textB k++textB x=pairB ⟨k,x,false⟩:=by unfold pairB;simp
  rw [hlist] at ho
  have HO:=zh ho
  have HM6:=zh (HM1.out.trans (HM5.out.trans hm6))
  have HZ5:=zh HM5.out.size
  clear ho hm6 hlist
  go_wp2_with fail
  refine fin hR ⟨_,rfl,⟨HO.out.1,HO.out.2.imp (fun h=>h) ?_⟩,HM6.out⟩
  rintro ⟨g,cap,cur,hv,hg,r⟩
  exact ⟨g,cap,cur,hv,by have:=HZ5.out;have:=HZ1.out;omega,r⟩
theorem bytes_of_str (w:World) (l:List UInt8) (hl:l.length<=1000000):∃ c W,(convert 9 41 (.string ⟨l.toArray⟩)).run prog w=.ok (.slice (some ⟨w.heap.size,0,none⟩) l.length c) W/\Sl W No 5 (.slice (some ⟨w.heap.size,0,none⟩) l.length c) l.length (bv l)/\Mod No w W:=by
 have hs:=str_size_list l
 refine ⟨grownCap w l.length 0 5,Lib.bytesWorld w 5 ⟨l.toArray⟩,?_,?_,?_⟩
 ·have:=Lib.run_convert_string_bytes (P:=prog) w 9 41 5 ⟨l.toArray⟩ underlying9 underlying41 underlying5
  rw [hs] at this
  exact this
 ·refine .inr ⟨w.heap.size,0,_,_,_,rfl,?_,grownCap_le_maxLen w _ 0 _ (by unfold maxLen;omega),fun f=>f,Lib.bytesWorld_at_new w _ _,?_,fun i hi=>?_⟩
  ·exact grownCap_ge w _ 0 _
  ·unfold Lib.bytesCells;simp
  ·rw [bv_length] at hi
   unfold Lib.bytesCells
   rw [Nat.zero_add,Array.getElem?_append_left (by simpa using hi),bv_get _ i hi]
   simp [hi]
 ·exact ⟨rfl,rfl,rfl,by rw [Lib.bytesWorld_size];omega,fun k hk _=>Lib.bytesWorld_at_old w _ _ k hk⟩
set_option maxRecDepth 100000 in
set_option maxHeartbeats 4000000 in
theorem pair_any {w:World} {X:Nat->Prop} {v:Value} (p:Pr) (h1:p.key.length<=10000000) (h2:p.value.length<=10000000) (h:Sl w X 5 v (pairB p).length (bv (pairB p))) :
  Calls prog 23 #[v] w fun e w'=>e=.returned (.tuple #[p.norm.agg,.bool true])/\Mod No w w':=by
 refine calls_hide fun R hR=>?_
 have hpl:=pairB_len p h1 h2
 obtain ⟨w1,hw1⟩:∃ w1,w1=w.alloc (.cells #[.string ⟨#[]⟩,.string ⟨#[]⟩,.bool false] 33):=⟨_,rfl⟩
 have m1:Mod No w w1:=by rw [hw1];exact (Mod.refl No w).alloc _
 have HP1:=zh (show w1.heap[w.heap.size]? = some (.cells #[.string ⟨#[]⟩,.string ⟨#[]⟩,.bool false] 33 (0,0)) by rw [hw1];exact heap_alloc_new w _)
 have HN:=zh (newReader_any (h.kn m1) (by omega))
 have HM1:=zh m1
 have HW1:=zh hw1
 have HPL:=zh hpl
 have HZ1:=zh (show w1.heap.size=w.heap.size+1 by rw [hw1];simp)
 obtain ⟨va,vc,rfl⟩:=h.len
 clear m1 hw1 h hpl
 go_enter func23,ntmps23
 go_wp2_with fail
 rw [<- HW1.out]
 with_reducible refine HN.out.mono ?_
 clear HN
 rintro e w2 ⟨q,v2,rfl,hrd,hm2,hq⟩
 have HB:=zh (rbool_ok hrd (by have:=HPL.out;omega))
 have HM2:=zh (HM1.out.trans hm2)
 have HP2:=zh (hm2.keep HP1.out (fun f=>f))
 have HQ:=zh hq
 clear hrd hm2 hq
 go_wp2_with fail
 with_reducible refine HB.out.mono ?_
 clear HB
 rintro e w3 ⟨hm3,⟨o,L',v3,hn,rfl,hrd⟩ | ⟨hn,-⟩⟩
 case inr=>unfold pairB at hn;rw [rdBool_bool] at hn;cases hn
 obtain ⟨rfl,rfl⟩:o=p.gone/\L'=textB p.key++(if p.gone then [] else textB p.value):=by
  unfold pairB at hn;rw [rdBool_bool] at hn;cases hn;exact ⟨rfl,rfl⟩
 have HLT:=zh (show (textB p.key++(if p.gone then [] else textB p.value)).length<=1000000000 by
  have:=HPL.out
  unfold pairB at this;rw [List.length_append] at this;omega)
 have HT:=zh (rtext_ok hrd HLT.out)
 have HM3:=zh (HM2.out.then hm3 (fun i hi e=>by have:=HQ.out;have:=HZ1.out;omega))
 have HP3:=zh (hm3.keep HP2.out (fun e=>by have:=HQ.out;have:=HZ1.out;omega))
 clear hn hrd hm3
 go_wp2_with fail
 with_reducible refine HT.out.mono ?_
 clear HT
 rintro e w4 ⟨hm4,⟨s,L',v4,hn,rfl,hrd⟩ | ⟨hn,-⟩⟩
 case inr=>rw [rdText_text _ _ (by omega)] at hn;cases hn
 obtain ⟨rfl,rfl⟩:s=p.key/\L'=if p.gone then [] else textB p.value:=by
  rw [rdText_text _ _ (by omega)] at hn;cases hn;exact ⟨rfl,rfl⟩
 have HM4:=zh (HM3.out.then hm4 (fun i hi e=>by have:=HQ.out;have:=HZ1.out;omega))
 have HP4:=zh (hm4.keep HP3.out (fun e=>by have:=HQ.out;have:=HZ1.out;omega))
 obtain ⟨k,x,g⟩:=p
 obtain ⟨P0,hPP⟩:∃ P0,P0=w.heap.size:=⟨_,rfl⟩
 have HPP:=zh hPP
 have HP4:=zh (show w4.heap[P0]? = some (.cells #[.string ⟨#[]⟩,.string ⟨#[]⟩,.bool false] 33 (0,0)) by rw [hPP];exact HP4.out)
 have hq0:¬ q=P0:=by have:=HQ.out;have:=HZ1.out;omega
 rw [<- hPP]
 clear hPP
 obtain ⟨b5,hb⟩:∃ b5,b5=w4.heap.size:=⟨_,rfl⟩
 have hb5:¬ b5=P0:=by have:=lt_of_heap HP4.out;omega
 cases g with
 | true =>
  replace hrd:RdAt w4 q v4 [] false:=hrd
  obtain ⟨w5,hw5⟩:∃ w5,w5=w4.alloc (.cells #[.string ⟨k.toArray⟩,.string ⟨#[]⟩,.bool true] 33):=⟨_,rfl⟩
  have m5:Mod No w4 w5:=by rw [hw5];exact (Mod.refl No w4).alloc _
  have h55:w5.heap[b5]? = some (.cells #[.string ⟨k.toArray⟩,.string ⟨#[]⟩,.bool true] 33 (0,0)):=by rw [hw5,hb];exact heap_alloc_new w4 _
  have hrd:=hrd.stay m5
  have hP0:=m5.keep HP4.out (fun f=>f)
  have hm5:=HM4.out.trans m5
  have HX5:=zh hw5
  have HBB:=zh hb
  clear hw5 m5 hb hn hm4
  go_upto_region 5 with fail
  rw [<- HX5.out,<- HBB.out]
  have HW5:=zh h55
  have hS0:w5.drew.cell? ⟨b5,0,none⟩=some (.string (⟨k.toArray⟩:ByteArray))/\w5.drew.cell? ⟨b5,1,none⟩=some (.string ⟨#[]⟩)/\w5.drew.cell? ⟨b5,2,none⟩=some (.bool true):=⟨cell_of (i:=0) h55 rfl,cell_of (i:=1) h55 rfl,cell_of (i:=2) h55 rfl⟩
  obtain ⟨W1,hW1⟩:∃ W1,W1=(((w5.setCell ⟨P0,0,none⟩ (.string (⟨k.toArray⟩:ByteArray))).setCell ⟨P0,1,none⟩ (.string ⟨#[]⟩)).setCell ⟨P0,2,none⟩ (.bool true)).drew:=⟨_,rfl⟩
  have hm1:Mod (fun i=>i=P0) w5 W1:=by rw [hW1];exact ((((Mod.refl (fun i=>i=P0) w5).setCell (fun _=>rfl) _).setCell (fun _=>rfl) _).setCell (fun _=>rfl) _).drew
  have hS1:W1.cell? ⟨b5,0,none⟩=some (.string (⟨k.toArray⟩:ByteArray))/\W1.cell? ⟨b5,1,none⟩=some (.string ⟨#[]⟩)/\W1.cell? ⟨b5,2,none⟩=some (.bool true):=⟨hm1.cell (cell_of (i:=0) h55 rfl) hb5,hm1.cell (cell_of (i:=1) h55 rfl) hb5,hm1.cell (cell_of (i:=2) h55 rfl) hb5⟩
  have HD0:=rdone_any (hrd.stay (Mod.refl No w5).drew)
  have h1P:W1.heap[P0]? = some (.cells #[.string (⟨k.toArray⟩:ByteArray),.string ⟨#[]⟩,.bool true] 33 (0,0)):=by
   rw [hW1]
   show ((((w5.setCell ⟨P0,0,none⟩ (.string (⟨k.toArray⟩:ByteArray))).setCell ⟨P0,1,none⟩ (.string ⟨#[]⟩)).setCell ⟨P0,2,none⟩ (.bool true))).heap[P0]? = _
   rw [heap_setCell (heap_setCell (heap_setCell hP0 _) _) _];rfl
  have p0:=cell_of (i:=0) hP0 rfl
  have p1:=cell_of (i:=1) hP0 rfl
  have p2:=cell_of (i:=2) hP0 rfl
  have f0:=frozen_of 0 hP0
  have f1:=frozen_of 1 hP0
  have f2:=frozen_of 2 hP0
  have HDN:=zh (show doneI [] false=0 from rfl)
  rw [HDN.out] at HD0
  have HD0:=zh HD0
  have HW1:=zh hW1
  have HRES:=zh (And.intro h1P (hm5.then hm1 (fun i hi e=>by have:=HPP.out;omega):Mod No w W1))
  clear hm1 h1P hW1 h55 hP0 hb5
  refine wp_region_T (fun w'=>w'.cell? ⟨b5,0,none⟩=some (.string (⟨k.toArray⟩:ByteArray))/\w'.cell? ⟨b5,1,none⟩=some (.string ⟨#[]⟩)/\w'.cell? ⟨b5,2,none⟩=some (.bool true)) 99 (by kernel_rfl) ?_
  refine yT 0 (some 19) (.agg #[.string (⟨k.toArray⟩:ByteArray),.string ⟨#[]⟩,.bool true]) hS0 ?_ ?_
  ·(intro w' hSw;obtain ⟨s0,s1,s2⟩:=hSw;go_simp)
  simp only [Act.put,yB,yC,yD]
  refine yS 1 20 hS0 ?_
  refine wpAnyT_one 2 rfl (by kernel_rfl) rfl ?_
  intro K hK
  go_simp
  (go_at_call 69;with_reducible refine HD0.out.mono ?_;rintro e w' ⟨rfl,h2⟩;subst h2)
  show K _ _
  refine hK.out _ _ (fun _=>hS0) ?_
  clear hK K
  refine yS 3 22 hS0 ?_
  refine wpAnyT_one 4 rfl (by kernel_rfl) rfl ?_
  intro K hK
  go_simp
  rw [<- HW1.out]
  show K _ _
  refine hK.out _ _ (fun _=>hS1) ?_
  clear hK K
  refine yS 5 3 hS1 ?_
  refine wpAnyT_done (by kernel_rfl) ?_ _
  clear hS0 HD0
  have h1:=HRES.out.1
  have r0:=cell_of (i:=0) h1 rfl
  have r1:=cell_of (i:=1) h1 rfl
  have r2:=cell_of (i:=2) h1 rfl
  clear h1
  go_wp2_with fail
  exact bodyPost_ret (v:=.tuple #[.agg #[.string (⟨k.toArray⟩:ByteArray),.string ⟨#[]⟩,.bool true],.bool true]) (by simp [results,results23,go_sem,r0,r1,r2]) rfl (fin hR ⟨rfl,HRES.out.2⟩)
 | false =>
  replace hrd:RdAt w4 q v4 (textB x) false:=hrd
  obtain ⟨w5,hw5⟩:∃ w5,w5=w4.alloc (.cells #[.string ⟨k.toArray⟩,.string ⟨#[]⟩,.bool false] 33):=⟨_,rfl⟩
  have m5:Mod No w4 w5:=by rw [hw5];exact (Mod.refl No w4).alloc _
  have h55:w5.heap[b5]? = some (.cells #[.string ⟨k.toArray⟩,.string ⟨#[]⟩,.bool false] 33 (0,0)):=by rw [hw5,hb];exact heap_alloc_new w4 _
  have hlx:=HPL.out
  have HT:=zh (rtext_ok (hrd.stay m5) (by have:=textB_len x h2;dsimp only at h2;omega))
  have hP0:=m5.keep HP4.out (fun f=>f)
  have hm5:=HM4.out.trans m5
  have hqb:¬ b5=q:=by have:=lt_of_heap hrd.obj;omega
  have HX5:=zh hw5
  have HBB:=zh hb
  have H55:=zh h55
  have c52:=cell_of (i:=2) h55 rfl
  have HM5:=zh hm5
  have HP5:=zh hP0
  clear hw5 m5 hb hn hm4 hrd h55 hP0 hm5 hlx
  go_upto_region 3 with fail
  rw [<- HX5.out,<- HBB.out]
  go_wp2_with fail
  with_reducible refine HT.out.mono ?_
  clear HT
  rintro e w6 ⟨hm6,⟨s,L',v6,hn,rfl,hrd⟩ | ⟨hn,-⟩⟩
  case inr=>rw [show textB x=textB x++[] by simp,rdText_text _ _ (by omega)] at hn;cases hn
  obtain ⟨rfl,rfl⟩:s=x/\L'=[]:=by
   rw [show textB x=textB x++[] by simp,rdText_text _ _ (by omega)] at hn;cases hn;exact ⟨rfl,rfl⟩
  have h56:=hm6.keep H55.out hqb
  have hP6:=hm6.keep HP5.out (fun e=>hq0 e.symm)
  have cb1:=cell_of (i:=1) h56 rfl
  have fb1:=frozen_of 1 h56
  have hm6':=HM5.out.then hm6 (fun i hi e=>by have:=HQ.out;have:=HZ1.out;omega)
  obtain ⟨w7,hw7⟩:∃ w7,w7=w6.setCell ⟨b5,1,none⟩ (.string ⟨s.toArray⟩):=⟨_,rfl⟩
  have m7:Mod (fun i=>i=b5) w6 w7:=by rw [hw7];exact (Mod.refl (fun i=>i=b5) w6).setCell (fun _=>rfl) _
  have h55:w7.heap[b5]? = some (.cells #[.string ⟨k.toArray⟩,.string ⟨s.toArray⟩,.bool false] 33 (0,0)):=by rw [hw7,heap_setCell h56];rfl
  have hrd:=hrd.keep m7 (fun e=>hqb e.symm) (fun i cur fz s e=>by rw [s,h56] at e;cases e)
  have hP0:=m7.keep hP6 (fun e=>hb5 e.symm)
  have hm5:Mod No w w7:=hm6'.then m7 (fun i hi e=>by have:=HBB.out;have:=HM4.out.size;omega)
  have HX7:=zh hw7
  clear hw7 m7 hn hm6 hP6 hm6' c52
  go_upto_region 5 with fail
  rw [<- HX7.out]
  have HW5:=zh h55
  have hS0:w7.drew.cell? ⟨b5,0,none⟩=some (.string (⟨k.toArray⟩:ByteArray))/\w7.drew.cell? ⟨b5,1,none⟩=some (.string ⟨s.toArray⟩)/\w7.drew.cell? ⟨b5,2,none⟩=some (.bool false):=⟨cell_of (i:=0) h55 rfl,cell_of (i:=1) h55 rfl,cell_of (i:=2) h55 rfl⟩
  obtain ⟨W1,hW1⟩:∃ W1,W1=(((w7.setCell ⟨P0,0,none⟩ (.string (⟨k.toArray⟩:ByteArray))).setCell ⟨P0,1,none⟩ (.string ⟨s.toArray⟩)).setCell ⟨P0,2,none⟩ (.bool false)).drew:=⟨_,rfl⟩
  have hm1:Mod (fun i=>i=P0) w7 W1:=by rw [hW1];exact ((((Mod.refl (fun i=>i=P0) w7).setCell (fun _=>rfl) _).setCell (fun _=>rfl) _).setCell (fun _=>rfl) _).drew
  have hS1:W1.cell? ⟨b5,0,none⟩=some (.string (⟨k.toArray⟩:ByteArray))/\W1.cell? ⟨b5,1,none⟩=some (.string ⟨s.toArray⟩)/\W1.cell? ⟨b5,2,none⟩=some (.bool false):=⟨hm1.cell (cell_of (i:=0) h55 rfl) hb5,hm1.cell (cell_of (i:=1) h55 rfl) hb5,hm1.cell (cell_of (i:=2) h55 rfl) hb5⟩
  have HD0:=rdone_any (hrd.stay (Mod.refl No w7).drew)
  have h1P:W1.heap[P0]? = some (.cells #[.string (⟨k.toArray⟩:ByteArray),.string ⟨s.toArray⟩,.bool false] 33 (0,0)):=by
   rw [hW1]
   show ((((w7.setCell ⟨P0,0,none⟩ (.string (⟨k.toArray⟩:ByteArray))).setCell ⟨P0,1,none⟩ (.string ⟨s.toArray⟩)).setCell ⟨P0,2,none⟩ (.bool false))).heap[P0]? = _
   rw [heap_setCell (heap_setCell (heap_setCell hP0 _) _) _];rfl
  have p0:=cell_of (i:=0) hP0 rfl
  have p1:=cell_of (i:=1) hP0 rfl
  have p2:=cell_of (i:=2) hP0 rfl
  have f0:=frozen_of 0 hP0
  have f1:=frozen_of 1 hP0
  have f2:=frozen_of 2 hP0
  have HDN:=zh (show doneI [] false=0 from rfl)
  rw [HDN.out] at HD0
  have HD0:=zh HD0
  have HW1:=zh hW1
  have HRES:=zh (And.intro h1P (hm5.then hm1 (fun i hi e=>by have:=HPP.out;omega):Mod No w W1))
  clear hm1 h1P hW1 h55 hP0 hb5
  refine wp_region_T (fun w'=>w'.cell? ⟨b5,0,none⟩=some (.string (⟨k.toArray⟩:ByteArray))/\w'.cell? ⟨b5,1,none⟩=some (.string ⟨s.toArray⟩)/\w'.cell? ⟨b5,2,none⟩=some (.bool false)) 99 (by kernel_rfl) ?_
  refine yT 0 (some 19) (.agg #[.string (⟨k.toArray⟩:ByteArray),.string ⟨s.toArray⟩,.bool false]) hS0 ?_ ?_
  ·(intro w' hSw;obtain ⟨s0,s1,s2⟩:=hSw;go_simp)
  simp only [Act.put,yB,yC,yD]
  refine yS 1 20 hS0 ?_
  refine wpAnyT_one 2 rfl (by kernel_rfl) rfl ?_
  intro K hK
  go_simp
  (go_at_call 69;with_reducible refine HD0.out.mono ?_;rintro e w' ⟨rfl,h2⟩;subst h2)
  show K _ _
  refine hK.out _ _ (fun _=>hS0) ?_
  clear hK K
  refine yS 3 22 hS0 ?_
  refine wpAnyT_one 4 rfl (by kernel_rfl) rfl ?_
  intro K hK
  go_simp
  rw [<- HW1.out]
  show K _ _
  refine hK.out _ _ (fun _=>hS1) ?_
  clear hK K
  refine yS 5 3 hS1 ?_
  refine wpAnyT_done (by kernel_rfl) ?_ _
  clear hS0 HD0
  have h1:=HRES.out.1
  have r0:=cell_of (i:=0) h1 rfl
  have r1:=cell_of (i:=1) h1 rfl
  have r2:=cell_of (i:=2) h1 rfl
  clear h1
  go_wp2_with fail
  exact bodyPost_ret (v:=.tuple #[.agg #[.string (⟨k.toArray⟩:ByteArray),.string ⟨s.toArray⟩,.bool false],.bool true]) (by simp [results,results23,go_sem,r0,r1,r2]) rfl (fin hR ⟨rfl,HRES.out.2⟩)
end Go.Proofs.YtmppeipgjcjdkaaGreatDoor
