/-
  Layers 0 to 14: helps of the laws of indexes. No statement is proved here; no condition.
-/
import Derived.Test.YtmppeipgjcjdkaaGreatDoorW01
import Derived.Test.YtmppeipgjcjdkaaGreatDoorW10
namespace Go.Proofs.YtmppeipgjcjdkaaGreatDoor
open _root_.Go.Proofs.Tryz
open Go.RowKit Go.Maps Go.Sort Go.Shelf
theorem sortsI (m:Nat):AnyZI.SortsIn prog Tryz.sortedI_ren Fence.wide m :=
 ⟨fun blk off cap ss W hH hblk hsz=>callsIn_wide.2 (AnyM.slices_Sort_int Tryz.sortI blk off cap ss W hH hblk hsz),
  fun p cap W=>callsIn_wide.2 (AnyM.slices_Sort_int_none Tryz.sortI p cap W)⟩
theorem keysI_any (mb:Option Nat) (w:World) :
  Calls prog 287 #[.map mb] w fun e w'=>e=.returned (.func (.func 314) #[] #[.pointer (some ⟨w.heap.size,0,none⟩)])/\w'=w.alloc (.cells #[.map mb] 79) :=
 callsIn_wide.1 (AnyZI.keys_in Tryz.keysI Fence.wide 5 trivial rfl mb w)
set_option maxRecDepth 100000 in
set_option maxHeartbeats 1000000 in
theorem sortedI_any (b:Nat) (D:DataW Value) (w:World) (h:Mp w 3 b D) (hmax:Maps.size D<=1000000) :
  Calls prog 286 #[.func (.func 314) #[] #[.pointer (some ⟨w.heap.size,0,none⟩)]] (w.alloc (.cells #[.map (some b)] 79)) fun e w' =>
   ∃ (v:Value) (ss:List Int),e=.returned v/\ss.Perm (intKeys D)/\w'.ownsRow (w.heap.size+1) 3 1 v ss.length ((ss.mergeSort (fun x y=>decide (x<=y))).map encZ)/\Mod No (w.alloc (.cells #[.map (some b)] 79)) w':=by
 have hbl:=World.ownsMap.lt h
 have hseq:SeqGives Fence.wide 2 prog 314 #[.pointer (some ⟨w.heap.size,0,none⟩)] encZ (fun ss=>ss.Perm (intKeys D)) (Maps.size D) (w.alloc (.cells #[.map (some b)] 79)) :=
  AnyZI.keys_gives (ρ:=Tryz.keysI_ren) { Tryz.keysI with } Fence.wide _ trivial rfl (by omega) w.heap.size b _ D _ (by simp) (by simp) (by
   obtain ⟨es,clock,hb,Ft,hs,hD⟩:=h
   exact ⟨es,clock,(Below.heap_alloc _ _ b hbl).trans hb,Ft,hs,hD⟩)
 have cS:=AnyZI.sorted_in Tryz.sortedI Fence.wide 5 trivial trivial trivial trivial rfl (by omega) (sortsI _) (enters_of func313 (by kernel_rfl) rfl) 314 #[.pointer (some ⟨w.heap.size,0,none⟩)] trivial (enters_of func314 (by kernel_rfl) rfl) _ _ (by unfold maxLen;omega) (by omega) _ hseq
 change CallsIn _ _ prog 286 _ _ _ at cS
 refine (callsIn_wide.1 cS).mono ?_
 rintro e w' ⟨v,ss,rfl,hS,hrow,hnil,hb⟩
 refine ⟨v,ss,rfl,hS,?_,Mod.of_below hb⟩
 have:=hrow
 rw [World.size_alloc] at this
 exact this
def dirtyList (n:Nat) (dirty:Nat->Option (List UInt8)):List Nat:=(List.range n).filter fun i=>(dirty i).isSome
theorem dirty_sorted {X:Nat->Prop} {w:World} {mb n sz:Nat} {dirty:Nat->Option (List UInt8)} {D:DataW Value} (h:DirtyAt w X mb n sz dirty D) {ss:List Int} (hs:ss.Perm (intKeys D)) :
  ss.mergeSort (fun x y=>decide (x<=y))=(dirtyList n dirty).map fun i:Nat=>(i:Int):=by
 obtain ⟨es,hD,hp⟩:=h.mp.tidy key_int
 obtain ⟨es',hD',hk⟩:=World.ownsMap.keysOf h.mp
 rw [hD] at hD'
 cases hD'
 have hkey:∀ p ∈ es,∃ i:Nat,i < n/\p.1=.int .i64 (i:Int):=fun p hpm=>by
  obtain ⟨v,hv⟩:=hk p hpm
  obtain ⟨x,_,hx,_⟩:=Maps.keyOf_int_inv underlying3 hv
  exact h.keys p.1 (by rw [hD];exact has_iff.2 ⟨p,hpm,by rw [hx];exact sameKey_self_int _ _⟩)
 have hmem:∀ x:Int,x ∈ intKeys D ↔ ∃ i:Nat,x=i/\i < n/\(dirty i).isSome=true:=fun x=>by
  rw [hD]
  simp only [intKeys,List.mem_map]
  constructor
  ·rintro ⟨p,hpm,rfl⟩
   obtain ⟨i,hi,e⟩:=hkey p hpm
   refine ⟨i,by rw [e];rfl,hi,?_⟩
   cases hd:dirty i with
   | none =>
    have h1:=h.gone i hi hd
    rw [hD] at h1
    have h2:Maps.has (.map es) (.int .i64 (i:Int))=true:=has_iff.2 ⟨p,hpm,by rw [e];exact sameKey_self_int _ _⟩
    rw [h2] at h1
    cases h1
   | some l=>rfl
  ·rintro ⟨i,rfl,hi,hs⟩
   obtain ⟨l,hl⟩:=Option.isSome_iff_exists.1 hs
   obtain ⟨hh,_⟩:=h.here i l hi hl
   rw [hD] at hh
   obtain ⟨p,hpm,hsame⟩:=has_iff.1 hh
   obtain ⟨j,hj,e⟩:=hkey p hpm
   refine ⟨p,hpm,?_⟩
   rw [e] at hsame ⊢
   show (j:Int)=i
   simpa [Lit.sameKey] using hsame
 have hnd:(intKeys D).Nodup:=by
  rw [hD]
  simp only [intKeys]
  rw [List.nodup_iff_pairwise_ne,List.pairwise_map]
  refine hp.imp_of_mem fun {p q} hpm hqm hne e=>hne ?_
  obtain ⟨i,_,e1⟩:=hkey p hpm
  obtain ⟨j,_,e2⟩:=hkey q hqm
  rw [e1,e2] at e ⊢
  have e3:(i:Int)=j:=e
  rw [e3]
 have hl:((dirtyList n dirty).map fun i:Nat=>(i:Int)).Pairwise (·<=·):=by
  rw [List.pairwise_map]
  refine List.Pairwise.imp (R:=(· < ·)) (fun h=>by omega) ?_
  exact List.Pairwise.sublist List.filter_sublist List.pairwise_lt_range
 have hperm:(ss.mergeSort (fun x y=>decide (x<=y))).Perm ((dirtyList n dirty).map fun i:Nat=>(i:Int)):=by
  refine (List.mergeSort_perm _ _).trans (hs.trans ?_)
  refine (List.perm_ext_iff_of_nodup hnd ?_).2 fun x=>?_
  ·rw [List.nodup_iff_pairwise_ne,List.pairwise_map]
   refine List.Pairwise.imp (R:=(· < ·)) (fun h=>by omega) ?_
   exact List.Pairwise.sublist List.filter_sublist List.pairwise_lt_range
  ·rw [hmem]
   simp only [dirtyList,List.mem_map,List.mem_filter,List.mem_range]
   constructor
   ·rintro ⟨i,rfl,h1,h2⟩;exact ⟨i,⟨h1,h2⟩,rfl⟩
   ·rintro ⟨i,⟨h1,h2⟩,rfl⟩;exact ⟨i,rfl,h1,h2⟩
 have hsort:(ss.mergeSort (fun x y=>decide (x<=y))).Pairwise (·<=·):=by
  have:=List.pairwise_mergeSort (le:=fun x y:Int=>decide (x<=y)) (fun a b c h1 h2=>by simp at *;omega) (fun a b=>by simp;omega) ss
  exact this.imp fun h=>by simpa using h
 exact List.Perm.eq_of_pairwise (fun a b _ _ h1 h2=>by omega) hsort hl hperm
end Go.Proofs.YtmppeipgjcjdkaaGreatDoor
