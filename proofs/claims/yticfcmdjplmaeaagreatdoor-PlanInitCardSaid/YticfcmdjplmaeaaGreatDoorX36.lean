/-
  Layers 0 to 14: helps of the laws of indexes. No statement is proved here; no condition.
-/
import Derived.Test.YticfcmdjplmaeaaGreatDoorX34
import Derived.Test.YticfcmdjplmaeaaGreatDoorX35
import Derived.Test.YticfcmdjplmaeaaGreatDoorX16
set_option maxRecDepth 100000
set_option maxHeartbeats 64000000
namespace Go.Proofs.YticfcmdjplmaeaaGreatDoor
open _root_.Go.Proofs.Tryz
open Go.RowKit Go.Sort
theorem verTK_len:∀ k:Fin 6,(verTK k.1).length<=100:=by decide +kernel
theorem spanTK_len:∀ k:Fin 10,(spanTK k.1).length<=100:=by decide +kernel
theorem verTK_leK (k:Nat):(verTK k).length<=100:=by
 have h:=verTK_len ⟨k % 6,Nat.mod_lt _ (by omega)⟩;have e:verTK (k % 6)=verTK k:=by unfold verTK;rw [Nat.mod_mod]
 rw [<- e];exact h
theorem spanTK_leK (k:Nat):(spanTK k).length<=100:=by
 have h:=spanTK_len ⟨k % 10,Nat.mod_lt _ (by omega)⟩;have e:spanTK (k % 10)=spanTK k:=by unfold spanTK;rw [Nat.mod_mod]
 rw [<- e];exact h
theorem ndK_ok (x:Nat):SpnOk (ndK x).span/\(ndK x).name.length<=1/\(ndK x).text.length<=100:=by
 have h:=(spanK_good (x / 6 % 10)).1;exact ⟨spanL_ok (by have:=spanTK_leK (x / 6 % 10);omega) h,by show (nameK (x % 6)).length<=1;simp [nameK],spanTK_leK _⟩
theorem ndsK_ok {name:List UInt8} {l:List Nat} {n:Nd} (h:n ∈ ndsK name l):SpnOk n.span/\n.name.length<=1/\n.text.length<=100:=by
 rcases ndsK_mem name l [] n h with h | ⟨x,rfl⟩
 ·cases h
 ·exact ndK_ok x
def sixN:List (List UInt8):=[nameK 0,nameK 1,nameK 2,nameK 3,nameK 4,nameK 5]
theorem nameK_six (k:Nat):nameK k ∈ sixN:=by
 have h:∀ j:Fin 6,nameK j.1 ∈ sixN:=by decide +kernel
 have e:nameK (k % 6)=nameK k:=by unfold nameK;rw [Nat.mod_mod]
 rw [<- e];exact h ⟨k % 6,Nat.mod_lt _ (by omega)⟩
theorem rows_in {B:Nat} {w:World} {l:List SRow} {rv av:Value} {ys:List RwX} {as':List ArX} (h:MadeR B w l rv av ys as') (hl:l.length<=19) (h4:∀ r ∈ l,r.needs.length<=4):∃ nx,RowsIn w rv ys nx:=by
 have hK:∀ y ∈ ys,∃ r ∈ l,y.r=rowK r:=fun y hy=>by
  have h1:y.r ∈ (keptK [] l).map rowK:=by rw [<- h.told];exact List.mem_map.2 ⟨y,hy,rfl⟩
  obtain ⟨r,hr,e⟩:=List.mem_map.1 h1;rcases kept_mem l [] r hr with hr | hr
  ·cases hr
  ·exact ⟨r,hr,e.symm⟩
 have hlen:ys.length<=19:=by
  have h1:=congrArg List.length h.told;rw [List.length_map,List.length_map] at h1;have h2:=kept_length l [];simp only [List.length_nil,Nat.zero_add] at h2;omega
 have hn:∀ i,∃ nl:List NdX,i < ys.length->nl.map NdX.n=(rxAt ys i).r.needs/\NdGood nl/\NdL No w (rxAt ys i).nv nl:=fun i=>by
  by_cases hi:i < ys.length
  ·have hm:=rxAt_mem hi;obtain ⟨r,hr,e⟩:=hK _ hm;obtain ⟨xs,h1,h2,h3⟩:=(h.rows.each _ hm).nds;have hmem:∀ y ∈ xs,y.n ∈ ndsK (nameK r.n) r.needs:=fun y hy=>by
    have:y.n ∈ (rxAt ys i).r.needs:=by rw [<- h1];exact List.mem_map.2 ⟨y,hy,rfl⟩
    rw [e] at this;exact this
   have hl4:xs.length<=4:=by
    have h5:=congrArg List.length h1;rw [List.length_map,e] at h5;have h6:=ndsK_le (nameK r.n) r.needs;have h7:=h4 r hr;have h8:(rowK r).needs.length=(ndsK (nameK r.n) r.needs).length:=rfl;omega
   refine ⟨xs,fun _=>⟨h1,⟨by omega,fun y hy=>(ndsK_ok (hmem y hy)).1,fun y hy=>by have:=(ndsK_ok (hmem y hy)).2.1;omega⟩,?_,?_⟩⟩
   ·have h5:=congrArg List.length h1;rw [List.length_map] at h5;rw [h5];exact h3
   ·intro y hy;obtain ⟨os,o1,o2,o3⟩:=h2 y hy;exact ⟨os,o1,fun x hx=>o2 x hx,o3⟩
  ·exact ⟨[],fun h=>absurd h hi⟩
 refine ⟨fun i=>(hn i).choose,⟨Sl.of_own h.rows.own (fun _ _ f=>f),fun y hy=>(h.rows.each y hy).ok.pre,fun y hy=>(h.rows.each y hy).ok.sum,fun y hy=>(h.rows.each y hy).ok.small⟩,fun i hi=>((hn i).choose_spec hi).2.2,hlen,fun y hy=>?_,⟨sixN,by decide,fun y hy=>?_⟩,fun i hi=>⟨((hn i).choose_spec hi).1,((hn i).choose_spec hi).2.1⟩,fun y hy=>?_,fun y hy=>?_⟩
 ·obtain ⟨r,-,e⟩:=hK y hy;rw [e];show (nameK r.n).length<=_
  simp [nameK]
 ·obtain ⟨r,-,e⟩:=hK y hy;rw [e];exact nameK_six r.n
 ·obtain ⟨r,-,e⟩:=hK y hy;rw [e];exact verOf_nat (verK_good r.v)
 ·obtain ⟨r,-,e⟩:=hK y hy;rw [e];show (verT (verK r.v)).length<=_
  rw [verT_of (verK_good r.v)];have:=verTK_leK r.v;omega
theorem rows_no (w:World):RowsIn w (.slice none 0 0) [] (fun _=>[]) :=
 ⟨⟨.inl ⟨rfl,rfl,rfl⟩,fun _ h=>(by cases h),fun _ h=>(by cases h),fun _ h=>(by cases h)⟩,fun i hi=>absurd hi (by simp),by simp,fun _ h=>(by cases h),⟨[],by simp,fun _ h=>(by cases h)⟩,fun i hi=>absurd hi (by simp),fun _ h=>(by cases h),fun _ h=>(by cases h)⟩
end Go.Proofs.YticfcmdjplmaeaaGreatDoor
