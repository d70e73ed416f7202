/-
  Layers 0 to 14: helps of the laws of indexes. No statement is proved here; no condition.
-/
import Derived.Test.YtgiigemfbebcgaaGreatDoorU01
namespace Go.Proofs.YtgiigemfbebcgaaGreatDoor
open _root_.Go.Proofs.Tryz
open Go.RowKit
section
variable {P:Program} {md:Region.Mode} {ops:Array Oper} {Q:Exit->Act->World->Prop} {S:World->Prop}
theorem wpAnyT_three {z:Nat} (i j k:Nat) {oi oj ok:Oper} {fuel:Nat} {listed:Array Bool} {a:Act} {w:World} (hi:ops[i]? = some oi) (hj:ops[j]? = some oj) (hk:ops[k]? = some ok) (hr:Region.ready md ops listed=[i,j,k]) (hgi:oi.guard=none) (hgj:oj.guard=none) (hgk:ok.guard=none)
  (h1:∀ K:Act->World->Prop,Hid (∀ a' w',(i ≠ z->S w')->wpAnyT P md ops Q S z fuel (listed.setIfInBounds i true) a' w'->K a' w')->oi.wp P a w K Q)
  (h2:∀ K:Act->World->Prop,Hid (∀ a' w',(j ≠ z->S w')->wpAnyT P md ops Q S z fuel (listed.setIfInBounds j true) a' w'->K a' w')->oj.wp P a w K Q)
  (h3:∀ K:Act->World->Prop,Hid (∀ a' w',(k ≠ z->S w')->wpAnyT P md ops Q S z fuel (listed.setIfInBounds k true) a' w'->K a' w')->ok.wp P a w K Q):wpAnyT P md ops Q S z (fuel+1) listed a w:=by
 refine ⟨fun h0=>absurd (hr ▸ h0) (by simp),fun q hq=>?_⟩
 rw [hr] at hq
 have hq':q=i\/q=j\/q=k:=by simpa using hq
 rcases hq' with rfl | rfl | rfl
 ·unfold wpOp
  simp only [hi,Region.wanted,hgi,if_true]
  exact .inl (h1 _ (zh fun a' w' hs hw=>⟨hs,hw⟩))
 ·unfold wpOp
  simp only [hj,Region.wanted,hgj,if_true]
  exact .inl (h2 _ (zh fun a' w' hs hw=>⟨hs,hw⟩))
 ·unfold wpOp
  simp only [hk,Region.wanted,hgk,if_true]
  exact .inl (h3 _ (zh fun a' w' hs hw=>⟨hs,hw⟩))
end
end Go.Proofs.YtgiigemfbebcgaaGreatDoor
