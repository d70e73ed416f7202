/-
  Layers 0 to 14: helps of the laws of indexes. No statement is proved here; no condition.
-/
import Derived.Test.YtmppeipgjcjdkaaGreatDoorW00
import Derived.OrdersHeld
import Derived.Great.BuildSlice
import Derived.Great.FillDense
namespace Go.Proofs.YtmppeipgjcjdkaaGreatDoor
open _root_.Go.Proofs.Tryz
open Go.RowKit
section
variable {P:Program} {ops:Array Oper} {Q:Exit->Act->World->Prop} {md:Region.Mode} {S:World->Prop}
def wpAnyT (P:Program) (md:Region.Mode) (ops:Array Oper) (Q:Exit->Act->World->Prop) (S:World->Prop) (z:Nat):Nat->Array Bool->Act->World->Prop
 | 0,listed,a,w=>Region.ready md ops listed=[]/\Q .normal a w
 | fuel+1,listed,a,w =>
  (Region.ready md ops listed=[]->Q .normal a w) ∧
  ∀ i ∈ Region.ready md ops listed,wpOp P ops Q i (fun a' w'=>(i ≠ z->S w')/\wpAnyT P md ops Q S z fuel (listed.setIfInBounds i true) a' w') a w
theorem wpAny_of_T {z:Nat}:∀ (fuel:Nat) (listed:Array Bool) (a:Act) (w:World),wpAnyT P md ops Q S z fuel listed a w->wpAny P md ops Q fuel listed a w
 | 0,_,_,_,h=>h
 | fuel+1,_,_,_,h=>⟨h.1,fun i hi=>wpOp_mono (fun a' w' h'=>wpAny_of_T fuel _ a' w' h'.2) (h.2 i hi)⟩
theorem wpAnyT_first {z i:Nat} {oi oz:Oper} {v:Value} (hi:ops[i]? = some oi) (hz:ops[z]? = some oz) (hzi:∃ e ∈ oz.after,Region.binds md e=true/\e.on=i) (hsel:∀ (j:Nat) (o:Oper) cs b,ops[j]? = some o->o.op ≠ .select cs b)
  (hQ:∀ c a w,Q (.panic c) (a.put oi.dst v) w->Q (.panic c) a w) :
  ∀ (fuel:Nat) (listed:Array Bool) (a:Act) (w:World),
   (∀ j oj,ops[j]? = some oj->j ≠ i->listed.getD j true=false->(∀ e ∈ oj.after,Region.binds md e=true->e.on ≠ i)->oi.apart ops oj=true) →
   i ∈ Region.ready md ops listed->YieldsIf P ops S oi v a->S w →
   wpAnyT P md ops Q S z fuel (listed.setIfInBounds i true) (a.put oi.dst v) w->wpAnyT P md ops Q S z (fuel+1) listed a w:=by
 intro fuel
 induction fuel with
 | zero =>
  intro listed a w _ hr hy hS H
  refine ⟨fun h=>(by rw [h] at hr;cases hr),fun j hj=>?_⟩
  by_cases hji:j=i
  ·subst hji;exact hy.wpOp hi hS ⟨fun _=>hS,H⟩
  ·have:=ready_mono hj hji
   rw [H.1] at this
   cases this
 | succ fuel ih =>
  intro listed a w hfree hr hy hS H
  refine ⟨fun h=>(by rw [h] at hr;cases hr),fun j hj=>?_⟩
  by_cases hji:j=i
  ·subst hji;exact hy.wpOp hi hS ⟨fun _=>hS,H⟩
  ·have h1:=H.2 j (ready_mono hj hji)
   obtain ⟨hjun,oj,hoj,hall⟩:=mem_ready.1 hj
   have hnot:∀ e ∈ oj.after,Region.binds md e=true->e.on ≠ i:=fun e he hb heq=>by
    have h1:=hall e he hb
    have h0:=(mem_ready.1 hr).1
    rw [heq] at h1
    rcases Nat.lt_or_ge i listed.size with h' | h'
    ·simp [h'] at h0 h1;rw [h0] at h1;cases h1
    ·simp [Array.getElem?_eq_none h'] at h1
   have hjz:j ≠ z:=fun e=>by
    subst e
    rw [hz] at hoj
    cases hoj
    obtain ⟨e,he,hb,heq⟩:=hzi
    exact hnot e he hb heq
   have h2:=wpOp_putIf hoj (hfree j oj hoj hji hjun hnot) (fun cs b=>hsel i oi cs b hi) (fun cs b=>hsel j oj cs b hoj) hQ hy h1
   have hfree':∀ k ok,ops[k]? = some ok->k ≠ i->(listed.setIfInBounds j true).getD k true=false →
     (∀ e ∈ ok.after,Region.binds md e=true->e.on ≠ i)->oi.apart ops ok=true:=fun k ok hk hki hun hno=>by
    refine hfree k ok hk hki ?_ hno
    by_cases hjk:j=k
    ·subst hjk;exact hjun
    ·rw [getD_set_ne true hjk] at hun;exact hun
   have hin:i ∈ Region.ready md ops (listed.setIfInBounds j true):=ready_mono hr (Ne.symm hji)
   refine wpOp_mono (fun a' w' h3=>?_) h2
   have hS':S w':=h3.2.1 hjz
   exact ⟨fun _=>hS',ih (listed.setIfInBounds j true) a' w' hfree' hin h3.1 hS' (by rw [Array.setIfInBounds_comm _ _ hji];exact h3.2.2)⟩
def waitsB (md:Region.Mode) (ops:Array Oper) (z i:Nat):Bool :=
 match ops[z]? with
 | some o=>o.after.any fun e=>Region.binds md e && e.on == i
 | none=>false
theorem wpAnyT_take {z:Nat} (i:Nat) (d:Option Tmp) {oi:Oper} (v:Value) {fuel:Nat} {listed:Array Bool} {a:Act} {w:World} (hi:ops[i]? = some oi) (hd:oi.dst=d)
  (hs:(Region.noSelect ops && Region.free md ops listed i && (Region.ready md ops listed).contains i && waitsB md ops z i)=true)
  (hQ:∀ c a w,Q (.panic c) (a.put oi.dst v) w->Q (.panic c) a w) (hS:S w) (hy:YieldsIf P ops S oi v a)
  (h:wpAnyT P md ops Q S z fuel (listed.setIfInBounds i true) (a.put d v) w):wpAnyT P md ops Q S z (fuel+1) listed a w:=by
 subst hd
 simp only [Bool.and_eq_true] at hs
 obtain ⟨⟨⟨h1,h2⟩,h3⟩,h4⟩:=hs
 unfold waitsB at h4
 split at h4
 ·rename_i oz hz
  obtain ⟨e,he,hb⟩:=Array.any_eq_true'.1 h4
  simp only [Bool.and_eq_true,beq_iff_eq] at hb
  exact wpAnyT_first hi hz ⟨e,he,hb⟩ (Region.noSelect_spec h1) hQ fuel listed a w (Region.free_spec hi h2) (by simpa using h3) hy hS h
 ·cases h4
theorem wpAnyT_one {z:Nat} (i:Nat) {oi:Oper} {fuel:Nat} {listed:Array Bool} {a:Act} {w:World} (hi:ops[i]? = some oi) (hr:Region.ready md ops listed=[i]) (hg:oi.guard=none)
  (h:∀ K:Act->World->Prop,Hid (∀ a' w',(i ≠ z->S w')->wpAnyT P md ops Q S z fuel (listed.setIfInBounds i true) a' w'->K a' w')->oi.wp P a w K Q):wpAnyT P md ops Q S z (fuel+1) listed a w:=by
 refine ⟨fun h0=>absurd (hr ▸ h0) (by simp),fun j hj=>?_⟩
 rw [hr] at hj
 obtain rfl:j=i:=by simpa using hj
 unfold wpOp
 simp only [hi,Region.wanted,hg,if_true]
 exact .inl (h _ (zh fun a' w' hs hw=>⟨hs,hw⟩))
theorem wpAnyT_oneW {z:Nat} (i:Nat) {oi:Oper} {fuel:Nat} {listed:Array Bool} {a:Act} {w:World} (hi:ops[i]? = some oi) (hr:Region.ready md ops listed=[i]) (hg:Region.wanted oi (yielded ops a.tmps)=true)
  (h:∀ K:Act->World->Prop,Hid (∀ a' w',(i ≠ z->S w')->wpAnyT P md ops Q S z fuel (listed.setIfInBounds i true) a' w'->K a' w')->oi.wp P a w K Q):wpAnyT P md ops Q S z (fuel+1) listed a w:=by
 refine ⟨fun h0=>absurd (hr ▸ h0) (by simp),fun j hj=>?_⟩
 rw [hr] at hj
 obtain rfl:j=i:=by simpa using hj
 unfold wpOp
 simp only [hi,hg,if_true]
 exact .inl (h _ (zh fun a' w' hs hw=>⟨hs,hw⟩))
theorem wpAnyT_done {z:Nat} {listed:Array Bool} {a:Act} {w:World} (hr:Region.ready md ops listed=[]) (h:Q .normal a w) :
  ∀ fuel,wpAnyT P md ops Q S z fuel listed a w
 | 0=>⟨hr,h⟩
 | _+1=>⟨fun _=>h,by rw [hr];simp⟩
theorem wp_region_T (S:World->Prop) (z:Nat) {id:Nat} {a:Act} {w:World} (hm:P.follows .mixedOrders=true)
  (h:wpAnyT P .any ops Q S z ops.size (Array.replicate ops.size false) a w.drew):(Code.region id ops true).wp P Q a w :=
 wp_region_any hm (wpAny_of_T _ _ _ _ h)
end
section
variable {P : Program} {ops : Array Oper} {Q : Exit -> Act -> World -> Prop} {md : Region.Mode} {S : World -> Prop}
theorem wpAnyT_firstU {z i : Nat} {oi : Oper} {v : Value} (hi : ops[i]? = some oi) (hSa : ∀ w, S w) (hsel : ∀ (j : Nat) (o : Oper) cs b, ops[j]? = some o -> o.op ≠ .select cs b)
  (hQ : ∀ c a w, Q (.panic c) (a.put oi.dst v) w -> Q (.panic c) a w) :
  ∀ (fuel : Nat) (listed : Array Bool) (a : Act) (w : World),
   (∀ j oj, ops[j]? = some oj -> j ≠ i -> listed.getD j true = false -> (∀ e ∈ oj.after, Region.binds md e = true -> e.on ≠ i) -> oi.apart ops oj = true) →
   i ∈ Region.ready md ops listed -> YieldsIf P ops S oi v a -> S w →
   wpAnyT P md ops Q S z fuel (listed.setIfInBounds i true) (a.put oi.dst v) w -> wpAnyT P md ops Q S z (fuel + 1) listed a w := by
 intro fuel
 induction fuel with
 | zero =>
  intro listed a w _ hr hy hS H
  refine ⟨fun h => (by rw [h] at hr; cases hr), fun j hj => ?_⟩
  by_cases hji : j = i
  ·subst hji; exact hy.wpOp hi hS ⟨fun _ => hS, H⟩
  ·have := ready_mono hj hji
   rw [H.1] at this
   cases this
 | succ fuel ih =>
  intro listed a w hfree hr hy hS H
  refine ⟨fun h => (by rw [h] at hr; cases hr), fun j hj => ?_⟩
  by_cases hji : j = i
  ·subst hji; exact hy.wpOp hi hS ⟨fun _ => hS, H⟩
  ·have h1 := H.2 j (ready_mono hj hji)
   obtain ⟨hjun, oj, hoj, hall⟩ := mem_ready.1 hj
   have hnot : ∀ e ∈ oj.after, Region.binds md e = true -> e.on ≠ i := fun e he hb heq => by
    have h1 := hall e he hb
    have h0 := (mem_ready.1 hr).1
    rw [heq] at h1
    rcases Nat.lt_or_ge i listed.size with h' | h'
    ·simp [h'] at h0 h1; rw [h0] at h1; cases h1
    ·simp [Array.getElem?_eq_none h'] at h1
   have h2 := wpOp_putIf hoj (hfree j oj hoj hji hjun hnot) (fun cs b => hsel i oi cs b hi) (fun cs b => hsel j oj cs b hoj) hQ hy h1
   have hfree' : ∀ k ok, ops[k]? = some ok -> k ≠ i -> (listed.setIfInBounds j true).getD k true = false →
     (∀ e ∈ ok.after, Region.binds md e = true -> e.on ≠ i) -> oi.apart ops ok = true := fun k ok hk hki hun hno => by
    refine hfree k ok hk hki ?_ hno
    by_cases hjk : j = k
    ·subst hjk; exact hjun
    ·rw [getD_set_ne true hjk] at hun; exact hun
   have hin : i ∈ Region.ready md ops (listed.setIfInBounds j true) := ready_mono hr (Ne.symm hji)
   refine wpOp_mono (fun a' w' h3 => ?_) h2
   have hS' : S w' := hSa w'
   exact ⟨fun _ => hS', ih (listed.setIfInBounds j true) a' w' hfree' hin h3.1 hS' (by rw [Array.setIfInBounds_comm _ _ hji]; exact h3.2.2)⟩
theorem wpAnyT_takeU {z : Nat} (i : Nat) (d : Option Tmp) {oi : Oper} (v : Value) {fuel : Nat} {listed : Array Bool} {a : Act} {w : World} (hi : ops[i]? = some oi) (hd : oi.dst = d)
  (hs : (Region.noSelect ops && Region.free md ops listed i && (Region.ready md ops listed).contains i) = true)
  (hQ : ∀ c a w, Q (.panic c) (a.put oi.dst v) w -> Q (.panic c) a w) (hy : YieldsIf P ops (fun _ => True) oi v a)
  (h : wpAnyT P md ops Q (fun _ => True) z fuel (listed.setIfInBounds i true) (a.put d v) w) : wpAnyT P md ops Q (fun _ => True) z (fuel + 1) listed a w := by
 subst hd
 simp only [Bool.and_eq_true] at hs
 obtain ⟨⟨h1, h2⟩, h3⟩ := hs
 exact wpAnyT_firstU (z := z) hi (fun _ => trivial) (Region.noSelect_spec h1) hQ fuel listed a w (Region.free_spec hi h2) (by simpa using h3) hy trivial h
theorem wpAnyT_firstV {z i : Nat} {oi : Oper} {v : Value} (hi : ops[i]? = some oi) (hz : ops[z]? = none) (hsel : ∀ (j : Nat) (o : Oper) cs b, ops[j]? = some o -> o.op ≠ .select cs b)
  (hQ : ∀ c a w, Q (.panic c) (a.put oi.dst v) w -> Q (.panic c) a w) :
  ∀ (fuel : Nat) (listed : Array Bool) (a : Act) (w : World),
   (∀ j oj, ops[j]? = some oj -> j ≠ i -> listed.getD j true = false -> (∀ e ∈ oj.after, Region.binds md e = true -> e.on ≠ i) -> oi.apart ops oj = true) →
   i ∈ Region.ready md ops listed -> YieldsIf P ops S oi v a -> S w →
   wpAnyT P md ops Q S z fuel (listed.setIfInBounds i true) (a.put oi.dst v) w -> wpAnyT P md ops Q S z (fuel + 1) listed a w := by
 intro fuel
 induction fuel with
 | zero =>
  intro listed a w _ hr hy hS H
  refine ⟨fun h => (by rw [h] at hr; cases hr), fun j hj => ?_⟩
  by_cases hji : j = i
  ·subst hji; exact hy.wpOp hi hS ⟨fun _ => hS, H⟩
  ·have := ready_mono hj hji
   rw [H.1] at this
   cases this
 | succ fuel ih =>
  intro listed a w hfree hr hy hS H
  refine ⟨fun h => (by rw [h] at hr; cases hr), fun j hj => ?_⟩
  by_cases hji : j = i
  ·subst hji; exact hy.wpOp hi hS ⟨fun _ => hS, H⟩
  ·have h1 := H.2 j (ready_mono hj hji)
   obtain ⟨hjun, oj, hoj, hall⟩ := mem_ready.1 hj
   have hnot : ∀ e ∈ oj.after, Region.binds md e = true -> e.on ≠ i := fun e he hb heq => by
    have h1 := hall e he hb
    have h0 := (mem_ready.1 hr).1
    rw [heq] at h1
    rcases Nat.lt_or_ge i listed.size with h' | h'
    ·simp [h'] at h0 h1; rw [h0] at h1; cases h1
    ·simp [Array.getElem?_eq_none h'] at h1
   have h2 := wpOp_putIf hoj (hfree j oj hoj hji hjun hnot) (fun cs b => hsel i oi cs b hi) (fun cs b => hsel j oj cs b hoj) hQ hy h1
   have hfree' : ∀ k ok, ops[k]? = some ok -> k ≠ i -> (listed.setIfInBounds j true).getD k true = false →
     (∀ e ∈ ok.after, Region.binds md e = true -> e.on ≠ i) -> oi.apart ops ok = true := fun k ok hk hki hun hno => by
    refine hfree k ok hk hki ?_ hno
    by_cases hjk : j = k
    ·subst hjk; exact hjun
    ·rw [getD_set_ne true hjk] at hun; exact hun
   have hin : i ∈ Region.ready md ops (listed.setIfInBounds j true) := ready_mono hr (Ne.symm hji)
   refine wpOp_mono (fun a' w' h3 => ?_) h2
   have hS' : S w' := h3.2.1 (fun e => by subst e; rw [hz] at hoj; cases hoj)
   exact ⟨fun _ => hS', ih (listed.setIfInBounds j true) a' w' hfree' hin h3.1 hS' (by rw [Array.setIfInBounds_comm _ _ hji]; exact h3.2.2)⟩
theorem wpAnyT_takeV {z : Nat} (i : Nat) (d : Option Tmp) {oi : Oper} (v : Value) {fuel : Nat} {listed : Array Bool} {a : Act} {w : World} (hi : ops[i]? = some oi) (hd : oi.dst = d)
  (hs : (Region.noSelect ops && Region.free md ops listed i && (Region.ready md ops listed).contains i && (ops[z]?).isNone) = true)
  (hQ : ∀ c a w, Q (.panic c) (a.put oi.dst v) w -> Q (.panic c) a w) (hS : S w) (hy : YieldsIf P ops S oi v a)
  (h : wpAnyT P md ops Q S z fuel (listed.setIfInBounds i true) (a.put d v) w) : wpAnyT P md ops Q S z (fuel + 1) listed a w := by
 subst hd
 simp only [Bool.and_eq_true] at hs
 obtain ⟨⟨⟨h1, h2⟩, h3⟩, h4⟩ := hs
 exact wpAnyT_firstV (z := z) hi (by simpa using h4) (Region.noSelect_spec h1) hQ fuel listed a w (Region.free_spec hi h2) (by simpa using h3) hy hS h
theorem yT {z : Nat} (i : Nat) (d : Option Tmp) {oi : Oper} (v : Value) {fuel : Nat} {listed : Array Bool} {a : Act} {w : World} (hS : S w)
  (hy : ∀ w', S w' → (execOp a.eval oi).run P w' = .ok (.value v) w')
  (h : wpAnyT P md ops Q S z fuel (listed.setIfInBounds i true) (a.put d v) w)
  (hi : ops[i]? = some oi := by rfl) (hd : oi.dst = d := by rfl)
  (hs : (Region.noSelect ops && Region.free md ops listed i && (Region.ready md ops listed).contains i && (ops[z]?).isNone) = true := by kernel_rfl)
  (hQ : ∀ c a w, Q (.panic c) (a.put oi.dst v) w → Q (.panic c) a w := by exact fun _ _ _ h => h)
  (hg : Region.wanted oi (yielded ops a.tmps) = true := by rfl) : wpAnyT P md ops Q S z (fuel + 1) listed a w :=
 wpAnyT_takeV (z := z) i d v hi hd hs hQ hS (Or.inl ⟨hg, hy⟩) h
end
section
variable {P:Program} {ops:Array Oper} {Q:Exit->Act->World->Prop} {md:Region.Mode} {S:World->Prop}
end
section
variable {P:Program} {ops:Array Oper} {Q:Exit->Act->World->Prop} {md:Region.Mode} {S:World->Prop}
theorem wpAnyT_firstC {z i:Nat} {oi:Oper} {v:Value} (V:List Nat) (hi:ops[i]? = some oi) (hzV:z ∈ V)
  (hV:∀ k ∈ V,k ≠ i/\∃ ok,ops[k]? = some ok/\∃ e ∈ ok.after,Region.binds md e=true/\(e.on=i\/e.on ∈ V)) (hsel:∀ (j:Nat) (o:Oper) cs b,ops[j]? = some o->o.op ≠ .select cs b)
  (hQ:∀ c a w,Q (.panic c) (a.put oi.dst v) w->Q (.panic c) a w) :
  ∀ (fuel:Nat) (listed:Array Bool) (a:Act) (w:World),(∀ k ∈ V,listed.getD k true=false) →
   (∀ j oj,ops[j]? = some oj->j ≠ i->listed.getD j true=false->(∀ e ∈ oj.after,Region.binds md e=true->e.on ≠ i)->oi.apart ops oj=true) →
   i ∈ Region.ready md ops listed->YieldsIf P ops S oi v a->S w →
   wpAnyT P md ops Q S z fuel (listed.setIfInBounds i true) (a.put oi.dst v) w->wpAnyT P md ops Q S z (fuel+1) listed a w:=by
 intro fuel
 induction fuel with
 | zero =>
  intro listed a w _ _ hr hy hS H
  refine ⟨fun h=>(by rw [h] at hr;cases hr),fun j hj=>?_⟩
  by_cases hji:j=i
  ·subst hji;exact hy.wpOp hi hS ⟨fun _=>hS,H⟩
  ·have:=ready_mono hj hji
   rw [H.1] at this
   cases this
 | succ fuel ih =>
  intro listed a w hun hfree hr hy hS H
  refine ⟨fun h=>(by rw [h] at hr;cases hr),fun j hj=>?_⟩
  by_cases hji:j=i
  ·subst hji;exact hy.wpOp hi hS ⟨fun _=>hS,H⟩
  ·have h1:=H.2 j (ready_mono hj hji)
   obtain ⟨hjun,oj,hoj,hall⟩:=mem_ready.1 hj
   have hno:∀ k,listed.getD k true=false->∀ e ∈ oj.after,Region.binds md e=true->e.on ≠ k:=fun k h0 e he hb heq=>by
    have h1:=hall e he hb
    rw [heq] at h1
    rcases Nat.lt_or_ge k listed.size with h' | h'
    ·simp [h'] at h0 h1;rw [h0] at h1;cases h1
    ·simp [Array.getElem?_eq_none h'] at h1
   have hnot:=hno i (mem_ready.1 hr).1
   have hjV:j ∉ V:=fun hjv=>by
    obtain ⟨_,ok,hok,e,he,hb,hor⟩:=hV j hjv
    rw [hoj] at hok
    cases hok
    rcases hor with h | h
    ·exact hnot e he hb h
    ·exact hno _ (hun _ h) e he hb rfl
   have hjz:j ≠ z:=fun e=>hjV (e ▸ hzV)
   have h2:=wpOp_putIf hoj (hfree j oj hoj hji hjun hnot) (fun cs b=>hsel i oi cs b hi) (fun cs b=>hsel j oj cs b hoj) hQ hy h1
   have hfree':∀ k ok,ops[k]? = some ok->k ≠ i->(listed.setIfInBounds j true).getD k true=false →
     (∀ e ∈ ok.after,Region.binds md e=true->e.on ≠ i)->oi.apart ops ok=true:=fun k ok hk hki hun hno=>by
    refine hfree k ok hk hki ?_ hno
    by_cases hjk:j=k
    ·subst hjk;exact hjun
    ·rw [getD_set_ne true hjk] at hun;exact hun
   have hun':∀ k ∈ V,(listed.setIfInBounds j true).getD k true=false:=fun k hk=>by
    have hjk:j ≠ k:=fun e=>hjV (e.symm ▸ hk)
    rw [getD_set_ne true hjk];exact hun k hk
   have hin:i ∈ Region.ready md ops (listed.setIfInBounds j true):=ready_mono hr (Ne.symm hji)
   refine wpOp_mono (fun a' w' h3=>?_) h2
   have hS':S w':=h3.2.1 hjz
   exact ⟨fun _=>hS',ih (listed.setIfInBounds j true) a' w' hun' hfree' hin h3.1 hS' (by rw [Array.setIfInBounds_comm _ _ hji];exact h3.2.2)⟩
def chainB (md:Region.Mode) (ops:Array Oper) (listed:Array Bool) (V:List Nat) (z i:Nat):Bool :=
 V.contains z && V.all fun k=>!listed.getD k true && !(k == i) && match ops[k]? with
  | some o=>o.after.any fun e=>Region.binds md e && (e.on == i || V.contains e.on)
  | none=>false
theorem wpAnyT_takeC {z:Nat} (V:List Nat) (i:Nat) (d:Option Tmp) {oi:Oper} (v:Value) {fuel:Nat} {listed:Array Bool} {a:Act} {w:World} (hi:ops[i]? = some oi) (hd:oi.dst=d)
  (hs:(Region.noSelect ops && Region.free md ops listed i && (Region.ready md ops listed).contains i && chainB md ops listed V z i)=true)
  (hQ:∀ c a w,Q (.panic c) (a.put oi.dst v) w->Q (.panic c) a w) (hS:S w) (hy:YieldsIf P ops S oi v a)
  (h:wpAnyT P md ops Q S z fuel (listed.setIfInBounds i true) (a.put d v) w):wpAnyT P md ops Q S z (fuel+1) listed a w:=by
 subst hd
 simp only [Bool.and_eq_true] at hs
 obtain ⟨⟨⟨h1,h2⟩,h3⟩,h4⟩:=hs
 unfold chainB at h4
 simp only [Bool.and_eq_true,List.all_eq_true,Bool.not_eq_true',beq_eq_false_iff_ne,ne_eq] at h4
 obtain ⟨hz,hall⟩:=h4
 refine wpAnyT_firstC V hi (by simpa using hz) (fun k hk=>?_) (Region.noSelect_spec h1) hQ fuel listed a w (fun k hk=>(hall k hk).1.1) (Region.free_spec hi h2) (by simpa using h3) hy hS h
 obtain ⟨⟨_,hne⟩,h5⟩:=hall k hk
 refine ⟨hne,?_⟩
 split at h5
 ·rename_i o ho
  obtain ⟨e,he,hb⟩:=Array.any_eq_true'.1 h5
  simp only [Bool.and_eq_true,Bool.or_eq_true,beq_iff_eq] at hb
  exact ⟨o,ho,e,he,hb.1,hb.2.imp id (fun h=>by simpa using h)⟩
 ·cases h5
end
theorem run_app_full {P:Program} {w:World} (t ty e:TypeId) (i:TypeInfo) (z:Value) (size bytes base:Nat) (ht:P.underlying t=some (.slice e)) (hi:P.info? e=some i) (hz:i.zero=some z)
  (hsize:i.size=size) (hby:i.bytes=bytes) (hzs:z.cells.size=size) (sv:Value) (n:Nat) (olds:List Value)
  (hcase:(sv=.slice none 0 0/\n=0/\olds=[])\/∃ a0,sv=.slice (some a0) n n/\olds.length=n*size/\∀ j v,olds[j]? = some v->w.cell? (a0.add j)=some v)
  (xa:Addr) (m c:Nat) (news:List Value) (hm:0 < m) (hl:news.length=m*size) (hnews:∀ j v,news[j]? = some v->w.cell? (xa.add j)=some v)
  (h63:n+m<=maxLen) (hbytes:(n+m)*bytes<=140737488355328) (hbase:base<=w.heap.size) :
  ∃ v' w',(Builtin.append_ #[t,t] ty #[sv,.slice (some xa) m c]).run P w=.ok v' w'/\w'.ownsRow base e size v' (n+m) (olds++news)/\Mod No w w':=by
 subst hsize
 subst hby
 have hol:olds.length=n*i.size:=by
  rcases hcase with ⟨-,rfl,rfl⟩ | ⟨a0,-,h,-⟩
  ·simp
  ·exact h
 have hlen:(olds++news).length=(n+m)*i.size:=by rw [List.length_append,hol,hl,Nat.add_mul]
 have grown:∀ (old:Nat),old < n+m →
   (w.drew.alloc (.cells (olds.toArray++news.toArray++Builtin.zeroCells z.cells (grownCap w (n+m) old e - (n+m))) e)).ownsRow base e i.size
    (.slice (some ⟨w.heap.size,0,none⟩) (n+m) (grownCap w (n+m) old e)) (n+m) (olds++news) ∧
   Mod No w (w.drew.alloc (.cells (olds.toArray++news.toArray++Builtin.zeroCells z.cells (grownCap w (n+m) old e - (n+m))) e)):=by
  intro old ho
  have hge:=grownCap_ge w (n+m) old e
  have hcm:grownCap w (n+m) old e<=maxLen:=grownCap_le_maxLen w (n+m) old e h63
  refine ⟨⟨hlen,.inr ⟨w.heap.size,_,_,rfl,hbase,heap_alloc_new w.drew _,hge,hcm,?_,?_⟩⟩,((Mod.refl No w).drew).alloc _⟩
  ·simp only [Array.size_append,List.size_toArray,size_zeroCells,hzs,hol,hl,<- Nat.add_mul]
   congr 1
   omega
  ·simp only [Array.toList_append,List.append_assoc]
   rw [<- List.append_assoc,<- hlen]
   exact List.take_left
 have h63':((n+m:Nat):Int)<=9223372036854775807:=by unfold maxLen at h63;omega
 rcases hcase with ⟨rfl,rfl,rfl⟩ | ⟨a0,rfl,h1,h2⟩
 ·have hr:=run_append_nil (P:=P) w t ty e i z ht hi hz xa m c news hl hnews hm (by simpa using h63') (by have hb:=hbytes;simp only [Nat.zero_add] at hb;omega)
  have hgr:=grown 0 (by omega)
  simp only [Nat.zero_add,List.nil_append,Array.empty_append] at hgr ⊢
  exact ⟨_,_,hr,hgr.1,hgr.2⟩
 ·have hr:=run_append_grow (P:=P) w t ty e i z ht hi hz a0 n n olds h1 h2 xa m c news hl hnews (by omega) h63' (growslice_fits (by omega) hbytes)
  have hgr:=grown n (by omega)
  exact ⟨_,_,hr,hgr.1,hgr.2⟩
theorem wp_app_full {P:Program} (w:World) {o:Oper} {a:Act} {K:Act->World->Prop} {Q:Exit->Act->World->Prop} (s x:Operand) (t:TypeId)
  (ho:o.op=.call { callee:=.builtin .append,args:=#[s,x],argTypes:=#[t,t] })
  (base:Nat) (e:TypeId) (i:TypeInfo) (z:Value) (size bytes:Nat) (ht:P.underlying t=some (.slice e)) (hi:P.info? e=some i) (hz:i.zero=some z)
  (hsize:i.size=size) (hby:i.bytes=bytes) (hzs:z.cells.size=size)
  (sv:Value) (n:Nat) (olds:List Value) (hs:a.eval s=sv)
  (hcase:(sv=.slice none 0 0/\n=0/\olds=[])\/∃ a0,sv=.slice (some a0) n n/\olds.length=n*size/\∀ j v,olds[j]? = some v->w.cell? (a0.add j)=some v)
  (xa:Addr) (m c:Nat) (news:List Value) (hx:a.eval x=.slice (some xa) m c) (hm:0 < m) (hl:news.length=m*size) (hnews:∀ j v,news[j]? = some v->w.cell? (xa.add j)=some v)
  (h63:n+m<=maxLen) (hbytes:(n+m)*bytes<=140737488355328) (hbase:base<=w.heap.size)
  (h:∀ v' w',w'.ownsRow base e size v' (n+m) (olds++news)->Mod No w w'->K (a.put o.dst v') w'):o.wp P a w K Q:=by
 obtain ⟨v',w',hr,h1,h2⟩:=run_app_full (P:=P) t o.type e i z size bytes base ht hi hz hsize hby hzs sv n olds hcase xa m c news hm hl hnews h63 hbytes hbase
 unfold Oper.wp
 simp only [execOp,ho,resolve,invoke,builtin,Sem.run_bind,Sem.run_pure,Result.andThen_ok,List.map_toArray,List.map_cons,List.map_nil,hs,hx,hr]
 exact h v' w' h1 h2
theorem yslice3 {t:TypeId} {v h m r:Value} {w:World} (hr:(Instr.sliceAt t v none (some h) (some m)).run prog w=.ok r w) {o:Oper} {ρ:Operand->Value} (x y z:Operand) (ho:o.op=.slice t x none (some y) (some z)) (hx:ρ x=v) (hy:ρ y=h) (hz:ρ z=m):(execOp ρ o).run prog w=.ok (.value r) w:=by
 unfold execOp
 simp only [ho,Option.map_none,Option.map_some,hx,hy,hz,Sem.run_bind,Sem.run_pure,hr,Result.andThen_ok]
theorem yslice1 {t:TypeId} {v h r:Value} {w:World} (hr:(Instr.sliceAt t v (some h) none none).run prog w=.ok r w) {o:Oper} {ρ:Operand->Value} (x y:Operand) (ho:o.op=.slice t x (some y) none none) (hx:ρ x=v) (hy:ρ y=h):(execOp ρ o).run prog w=.ok (.value r) w:=by
 unfold execOp
 simp only [ho,Option.map_none,Option.map_some,hx,hy,Sem.run_bind,Sem.run_pure,hr,Result.andThen_ok]
theorem wp_value {P:Program} {o:Oper} {a:Act} {w w':World} {K:Act->World->Prop} {Q:Exit->Act->World->Prop} {v:Value} (hr:(execOp a.eval o).run P w=.ok (.value v) w') (h:K (a.put o.dst v) w'):o.wp P a w K Q:=by
 unfold Oper.wp
 rw [hr,Oper.upon_value]
 exact h
theorem yloadv {ty:TypeId} {a:Addr} {v:Value} {w:World} {o:Oper} {ρ:Operand->Value} (hl:(loadVar ty a).run prog w=.ok v w) (x:Operand) (ho:o.op=.load ty x) (hx:ρ x=.pointer (some a)) :
  (execOp ρ o).run prog w=.ok (.value v) w:=by
 unfold execOp
 simp only [ho,hx,Instr.loadAt,Instr.sureAddr,Sem.run_bind,Sem.run_pure,Result.andThen_ok,hl]
end Go.Proofs.YtmppeipgjcjdkaaGreatDoor
