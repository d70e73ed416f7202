/-
  Layers 0 to 14: helps of the laws of indexes. No statement is proved here; no condition.
-/
import Derived.Test.YtmppeipgjcjdkaaGreatDoorW05
import Derived.Test.YtmppeipgjcjdkaaGreatDoorW04
import Derived.Defers
namespace Go.Proofs.YtmppeipgjcjdkaaGreatDoor
open _root_.Go.Proofs.Tryz
open Go.RowKit
abbrev failV (n:Int):Value:=.iface 189 (.agg #[.int .i64 n])
theorem assert_fail (w:World) (v:Value):(Instr.typeAssert (.iface 189 v) 20 189 true).run prog w=.ok (.tuple #[v,.bool true]) w:=by kernel_rfl
set_option maxRecDepth 100000 in
set_option maxHeartbeats 4000000 in
theorem lstop_caught (p q r:Nat) (n x:Int) (v:Value) (y:Int) (w:World) (hp:w.heap[p]? = some (.cells #[v] 42 (0,0))) (hq:w.heap[q]? = some (.cells #[.int .i64 x] 3 (0,0))) (hr:w.heap[r]? = some (.cells #[.int .i64 y] 26 (0,0))) :
  CallsD prog 103 #[.pointer (some ⟨p,0,none⟩),.pointer (some ⟨q,0,none⟩),.pointer (some ⟨r,0,none⟩)] (.panicking [{ v:=failV n,recovered:=false }]) w fun e u' w' =>
   e=.returned (.tuple #[])/\u'=.panicking [{ v:=failV n,recovered:=true }]/\w'.heap[p]? = some (.cells #[.slice none 0 0] 42 (0,0))/\w'.heap[q]? = some (.cells #[.int .i64 n] 3 (0,0))/\w'.heap[r]? = some (.cells #[.int .i64 63] 26 (0,0))/\Mod (fun k=>k=p\/k=q\/k=r) w w':=by
 refine callsD_of_wpS func103 rfl fun c₀ cs hu=>?_
 apply wpS_seq
 apply wpS_region
 simp [wpOpsS,go_sem,recoverD,hu,ntmps103,Exit.thenS]
 refine wpS_of_wp ?_
 refine wp_mono (Q:=Exit.then (fun a' w'=>a'.defers=[]/\w'.heap[p]? = some (.cells #[.slice none 0 0] 42 (0,0))/\w'.heap[q]? = some (.cells #[.int .i64 n] 3 (0,0))/\w'.heap[r]? = some (.cells #[.int .i64 63] 26 (0,0))/\Mod (fun k=>k=p\/k=q\/k=r) w w') Nope) ?_ ?_
 ·refine wp_part fun J K' hJ hK=>?_
  have has:=assert_fail
  have hpq:p ≠ q:=fun e=>by subst e;rw [hp] at hq;simp at hq
  have hpr:p ≠ r:=fun e=>by subst e;rw [hp] at hr;simp at hr
  have hqr:q ≠ r:=fun e=>by subst e;rw [hq] at hr;simp at hr
  have hpl:=lt_of_heap hp
  have hql:=lt_of_heap hq
  have hrl:=lt_of_heap hr
  obtain ⟨fb,hfb⟩:∃ f,f=w.heap.size:=⟨_,rfl⟩
  obtain ⟨w1,hw1⟩:∃ w1,w1=w.alloc (.cells #[.int .i64 n] 189):=⟨_,rfl⟩
  have m1:Mod No w w1:=by rw [hw1];exact (Mod.refl No w).alloc _
  have hf1:w1.heap[fb]? = some (.cells #[.int .i64 n] 189 (0,0)):=by rw [hw1,hfb];exact heap_alloc_new w _
  have HW1:=zh hw1
  have HFB:=zh hfb
  have HP0:=zh hp
  have HQ0:=zh hq
  have HR0:=zh hr
  have HM1:=zh m1
  have HF1:=zh hf1
  have HNE:=zh (show fb ≠ p/\fb ≠ q/\fb ≠ r by omega)
  have HNP:=zh (And.intro hpq (And.intro hpr hqr))
  clear hw1 hfb hp hq hr m1 hf1 hpq hpr hqr hpl hql hrl
  simp only [Array.replicate_succ,Array.replicate_zero]
  go_upto_region 5 with fail
  rw [<- HW1.out,<- HFB.out]
  obtain ⟨wD,hwD⟩:∃ y,y=w1.drew:=⟨_,rfl⟩
  have hmD:Mod No w wD:=by rw [hwD];exact HM1.out.drew
  have hfD:wD.heap[fb]? = some (.cells #[.int .i64 n] 189 (0,0)):=by rw [hwD];exact HF1.out
  have hpD:=hmD.keep HP0.out (fun f=>f)
  have hqD:=hmD.keep HQ0.out (fun f=>f)
  have hrD:=hmD.keep HR0.out (fun f=>f)
  have mA:Mod (fun k=>k=p) wD (wD.setCell ⟨p,0,none⟩ (.slice none 0 0)):=(Mod.refl (fun k=>k=p) wD).setCell (fun _=>rfl) _
  have hqA:=mA.keep hqD (fun e=>HNP.out.1 e.symm)
  have hrA:=mA.keep hrD (fun e=>HNP.out.2.1 e.symm)
  have hfA:=mA.keep hfD (fun e=>HNE.out.1 e)
  have hpA:=heap_setCell hpD (i:=0) (.slice none 0 0)
  have mB:Mod (fun k=>k=q) (wD.setCell ⟨p,0,none⟩ (.slice none 0 0)) ((wD.setCell ⟨p,0,none⟩ (.slice none 0 0)).setCell ⟨q,0,none⟩ (.int .i64 n)):=(Mod.refl (fun k=>k=q) _).setCell (fun _=>rfl) _
  have hrB:=mB.keep hrA (fun e=>HNP.out.2.2 e.symm)
  have hfB:=mB.keep hfA (fun e=>HNE.out.2.1 e)
  have hpB:=mB.keep hpA (fun e=>HNP.out.1 e)
  have hqB:=heap_setCell hqA (i:=0) (.int .i64 n)
  have mC:Mod (fun k=>k=r) ((wD.setCell ⟨p,0,none⟩ (.slice none 0 0)).setCell ⟨q,0,none⟩ (.int .i64 n)) (((wD.setCell ⟨p,0,none⟩ (.slice none 0 0)).setCell ⟨q,0,none⟩ (.int .i64 n)).setCell ⟨r,0,none⟩ (.int .i64 63)):=(Mod.refl (fun k=>k=r) _).setCell (fun _=>rfl) _
  have hfC:=mC.keep hfB (fun e=>HNE.out.2.2 e)
  have hpC:=mC.keep hpB (fun e=>HNP.out.2.1 e)
  have hqC:=mC.keep hqB (fun e=>HNP.out.2.2 e)
  have hrC:=heap_setCell hrB (i:=0) (.int .i64 63)
  have HE:=zh (show (((wD.setCell ⟨p,0,none⟩ (.slice none 0 0)).setCell ⟨q,0,none⟩ (.int .i64 n)).setCell ⟨r,0,none⟩ (.int .i64 63)).heap[p]? = some (.cells #[.slice none 0 0] 42 (0,0))/\(((wD.setCell ⟨p,0,none⟩ (.slice none 0 0)).setCell ⟨q,0,none⟩ (.int .i64 n)).setCell ⟨r,0,none⟩ (.int .i64 63)).heap[q]? = some (.cells #[.int .i64 n] 3 (0,0))/\(((wD.setCell ⟨p,0,none⟩ (.slice none 0 0)).setCell ⟨q,0,none⟩ (.int .i64 n)).setCell ⟨r,0,none⟩ (.int .i64 63)).heap[r]? = some (.cells #[.int .i64 63] 26 (0,0))/\Mod (fun k=>k=p\/k=q\/k=r) w (((wD.setCell ⟨p,0,none⟩ (.slice none 0 0)).setCell ⟨q,0,none⟩ (.int .i64 n)).setCell ⟨r,0,none⟩ (.int .i64 63)) from
   ⟨hpC,hqC,hrC,(((hmD.weaken (fun _ _ f=>f.elim)).trans (mA.weaken (fun _ _ e=>.inl e))).trans (mB.weaken (fun _ _ e=>.inr (.inl e)))).trans (mC.weaken (fun _ _ e=>.inr (.inr e)))⟩)
  have HP1:=zh (And.intro (show wD.cell? ⟨p,0,none⟩=some v from cell_ofA hpD rfl) (frozen_of 0 hpD))
  have HQ1:=zh (And.intro (show (wD.setCell ⟨p,0,none⟩ (.slice none 0 0)).cell? ⟨q,0,none⟩=some (.int .i64 x) from cell_ofA hqA rfl) (frozen_of 0 hqA))
  have HR1:=zh (And.intro (show ((wD.setCell ⟨p,0,none⟩ (.slice none 0 0)).setCell ⟨q,0,none⟩ (.int .i64 n)).cell? ⟨r,0,none⟩=some (.int .i64 y) from cell_ofA hrB rfl) (frozen_of 0 hrB))
  have hS0:wD.cell? ⟨fb,0,none⟩=some (.int .i64 n):=cell_ofA hfD rfl
  have HSB:=zh (show (wD.setCell ⟨p,0,none⟩ (.slice none 0 0)).cell? ⟨fb,0,none⟩=some (.int .i64 n) from cell_ofA hfA rfl)
  have HSC:=zh (show ((wD.setCell ⟨p,0,none⟩ (.slice none 0 0)).setCell ⟨q,0,none⟩ (.int .i64 n)).cell? ⟨fb,0,none⟩=some (.int .i64 n) from cell_ofA hfB rfl)
  have HSD:=zh (show (((wD.setCell ⟨p,0,none⟩ (.slice none 0 0)).setCell ⟨q,0,none⟩ (.int .i64 n)).setCell ⟨r,0,none⟩ (.int .i64 63)).cell? ⟨fb,0,none⟩=some (.int .i64 n) from cell_ofA hfC rfl)
  have HWD:=zh hwD
  clear hwD hmD hfD hpD hqD hrD mA hqA hrA hfA hpA mB hrB hfB hpB hqB mC hfC hpC hqC hrC has
  refine wp_region_T (fun w'=>w'.cell? ⟨fb,0,none⟩=some (.int .i64 n)) 99 (by kernel_rfl) ?_
  rw [<- HWD.out]
  refine yT 0 (some 17) ?_ hS0 ?_ ?_
  rotate_left
  ·(intro w' hSw;go_simp;try with_reducible rfl)
  simp only [Act.put,yB,yC,yD]
  refine yT 1 (some 18) (.int .i64 n) hS0 ?_ ?_
  ·(intro w' hSw;have q0:=hSw;go_simp;try with_reducible rfl)
  simp only [Act.put,yB,yC,yD]
  refine wpAnyT_one 2 rfl (by kernel_rfl) rfl ?_
  intro K hK
  have k1:=HP1.out.1
  have k2:=HP1.out.2
  go_simp
  clear k1 k2
  show K _ _
  have hS1:=HSB.out
  refine hK.out _ _ (fun _=>hS1) ?_
  clear hK K
  refine wpAnyT_one 3 rfl (by kernel_rfl) rfl ?_
  intro K hK
  have k1:=HQ1.out.1
  have k2:=HQ1.out.2
  go_simp
  clear k1 k2
  show K _ _
  have hS2:=HSC.out
  refine hK.out _ _ (fun _=>hS2) ?_
  clear hK K
  refine wpAnyT_one 4 rfl (by kernel_rfl) rfl ?_
  intro K hK
  have k1:=HR1.out.1
  have k2:=HR1.out.2
  go_simp
  clear k1 k2
  show K _ _
  have hS3:=HSD.out
  refine hK.out _ _ (fun _=>hS3) ?_
  clear hK K
  refine wpAnyT_done (by kernel_rfl) ?_ _
  exact hK _ _ (Met.intro (hJ _ _ ⟨rfl,HE.out.1,HE.out.2.1,HE.out.2.2.1,HE.out.2.2.2⟩))
 ·rintro e a' w' hq
  cases e with
  | normal =>
   obtain ⟨hd,h1,h2,h3,h4⟩:=hq
   cases c₀
   simp_all [bodyPostS,results,results103]
  | exit id=>exact hq.elim
  | goto l=>exact hq.elim
  | ret=>exact hq.elim
  | panic ch=>exact hq.elim
  | outgrown=>exact hq.elim
end Go.Proofs.YtmppeipgjcjdkaaGreatDoor
