/-
  Layers 0 to 14: helps of the laws of indexes. No statement is proved here; no condition.
-/
import Derived.Test.YtmppeipgjcjdkaaGreatDoorW09
import Derived.Test.YtmppeipgjcjdkaaGreatDoorW10
namespace Go.Proofs.YtmppeipgjcjdkaaGreatDoor
open _root_.Go.Proofs.Tryz
open Go.RowKit Go.Maps Go.Sort Go.Shelf
theorem clone_map {w:World} {b n:Nat} {M:Mt} (h:SMp w b n M) :
  Calls prog 31 #[.map (some b)] w fun e w'=>e=.returned (.map (some w.heap.size))/\SMp w' w.heap.size n M/\Mod No w w':=by
 obtain ⟨D,h1,h2,h3⟩:=h.row
 have hc:=AnyW.maps_Clone_owns Tryz.cloneM 9 heldR b (Maps.size D) D w h1
 change Calls prog 31 _ _ _ at hc
 refine hc.mono ?_
 rintro e w' ⟨rfl,ho,-,hb⟩
 exact ⟨rfl,⟨D,ho,h2,h3⟩,Mod.of_below hb⟩
theorem sortsS (m:Nat):AnyZ.SortsIn prog Tryz.sortedS_ren Fence.wide m :=
 ⟨fun blk off cap ss W hH hblk hsz=>callsIn_wide.2 (AnyM.slices_Sort_string Tryz.sortS blk off cap ss W hH hblk hsz),
  fun p cap W=>callsIn_wide.2 (AnyM.slices_Sort_string_none Tryz.sortS p cap W)⟩
theorem keysS_any (mb:Option Nat) (w:World) :
  Calls prog 88 #[.map mb] w fun e w'=>e=.returned (.func (.func 150) #[] #[.pointer (some ⟨w.heap.size,0,none⟩)])/\w'=w.alloc (.cells #[.map mb] 72) :=
 callsIn_wide.1 (AnyZ.keys_in Tryz.keysS Fence.wide 5 trivial rfl mb w)
set_option maxRecDepth 100000 in
set_option maxHeartbeats 1000000 in
theorem sortedS_any (b:Nat) (D:DataW Value) (w:World) (h:Mp w 9 b D) (hmax:Maps.size D<=1000000) :
  Calls prog 87 #[.func (.func 150) #[] #[.pointer (some ⟨w.heap.size,0,none⟩)]] (w.alloc (.cells #[.map (some b)] 72)) fun e w' =>
   ∃ (v:Value) (ss:List (List UInt8)),e=.returned v/\ss.Perm (strKeys D)/\w'.ownsRow (w.heap.size+1) 9 1 v ss.length ((ss.mergeSort (fun x y=>decide (x<=y))).map encStr)/\Mod No (w.alloc (.cells #[.map (some b)] 72)) w':=by
 have hbl:=World.ownsMap.lt h
 have hseq:SeqGives Fence.wide 2 prog 150 #[.pointer (some ⟨w.heap.size,0,none⟩)] encStr (fun ss=>ss.Perm (strKeys D)) (Maps.size D) (w.alloc (.cells #[.map (some b)] 72)) :=
  AnyZ.keys_gives (ρ:=Tryz.keysS_ren) { Tryz.keysS with } Fence.wide _ trivial rfl (by omega) w.heap.size b _ D _ (by simp) (by simp) (by
   obtain ⟨es,clock,hb,Ft,hs,hD⟩:=h
   exact ⟨es,clock,(Below.heap_alloc _ _ b hbl).trans hb,Ft,hs,hD⟩)
 have cS:=AnyZ.sorted_in Tryz.sortedS Fence.wide 5 trivial trivial trivial trivial rfl (by omega) (sortsS _) (enters_of func149 (by kernel_rfl) rfl) 150 #[.pointer (some ⟨w.heap.size,0,none⟩)] trivial (enters_of func150 (by kernel_rfl) rfl) _ _ (by unfold maxLen;omega) (by omega) _ hseq
 change CallsIn _ _ prog 87 _ _ _ at cS
 refine (callsIn_wide.1 cS).mono ?_
 rintro e w' ⟨v,ss,rfl,hS,hrow,hnil,hb⟩
 refine ⟨v,ss,rfl,hS,?_,Mod.of_below hb⟩
 have:=hrow
 rw [World.size_alloc] at this
 exact this
structure KeysOfM (M:Mt) (ks:List (List UInt8)):Prop where
 nodup:ks.Nodup
 mem:∀ k,k ∈ ks ↔ (M k).isSome=true
 sorted:ks.Pairwise fun a b=>leB a b=true
theorem keys_sorted {w:World} {b n:Nat} {M:Mt} {D:DataW Value} (d1:Mp w 9 b D) (d2:Maps.size D<=n) (d3:∀ k,(M k=none->Maps.has D (.string k)=false)/\∀ v,M k=some v->Maps.has D (.string k)=true/\∀ zd,D.atKey (.string k) zd=.held (.string ⟨v.toArray⟩))
  {ss:List (List UInt8)} (hs:ss.Perm (strKeys D)):KeysOfM M (ss.mergeSort leB)/\(ss.mergeSort leB).length<=n/\ss.length=(ss.mergeSort leB).length:=by
 obtain ⟨es,hD,hp⟩:=d1.tidy key_str
 obtain ⟨es',hD',hk⟩:=World.ownsMap.keysOf d1
 rw [hD] at hD'
 cases hD'
 have hkey:∀ p ∈ es,∃ x,p.1=.string x:=fun p hpm=>by
  obtain ⟨v,hv⟩:=hk p hpm
  obtain ⟨x,_,hx,_⟩:=Maps.keyOf_str underlying9 hv
  exact ⟨x,hx⟩
 have hmem:∀ x,x ∈ strKeys D ↔ (M x).isSome=true:=fun x=>by
  have hh:Maps.has D (.string x)=true ↔ (M x).isSome=true:=by
   cases hM:M x with
   | none=>rw [(d3 x).1 hM];simp
   | some v=>rw [((d3 x).2 v hM).1];simp
  rw [<- hh,hD,has_iff]
  simp only [strKeys,List.mem_map]
  constructor
  ·rintro ⟨p,hpm,rfl⟩
   obtain ⟨y,hy⟩:=hkey p hpm
   exact ⟨p,hpm,by rw [hy];exact WideAt.sameKey_self (isKey_str _)⟩
  ·rintro ⟨p,hpm,hsame⟩
   obtain ⟨y,hy⟩:=hkey p hpm
   refine ⟨p,hpm,?_⟩
   have:=WideAt.sameKey_eq hsame
   rw [this];rfl
 have hnd:(strKeys D).Nodup:=by
  rw [hD]
  show (es.map fun p=>strOf p.1).Nodup
  refine List.pairwise_map.2 (hp.imp_of_mem fun {p q} hp' hq' hne e=>hne ?_)
  obtain ⟨x,hx⟩:=hkey p hp'
  obtain ⟨y,hy⟩:=hkey q hq'
  rw [hx,hy] at e ⊢
  exact congrArg _ e
 have hperm:(ss.mergeSort leB).Perm (strKeys D):=(List.mergeSort_perm ss leB).trans hs
 have tr:∀ a b c:List UInt8,leB a b=true->leB b c=true->leB a c=true:=fun a b c h1 h2=>by simp only [leB,decide_eq_true_eq] at *;exact List.le_trans h1 h2
 have hto:∀ a b:List UInt8,(leB a b || leB b a)=true:=fun a b=>by simp only [leB,Bool.or_eq_true,decide_eq_true_eq];exact List.le_total a b
 refine ⟨⟨hperm.nodup_iff.2 hnd,fun k=>by rw [hperm.mem_iff,hmem],List.pairwise_mergeSort tr hto ss⟩,?_,by simp⟩
 rw [hperm.length_eq,hD]
 have:(strKeys (.map es:DataW Value)).length=Maps.size (.map es:DataW Value):=by simp [strKeys,Maps.size_eq]
 rw [this,<- hD];exact d2
theorem sorted_keys {w:World} {b n:Nat} {M:Mt} (h:SMp w b n M) (hn:n<=1000000) :
  Calls prog 87 #[.func (.func 150) #[] #[.pointer (some ⟨w.heap.size,0,none⟩)]] (w.alloc (.cells #[.map (some b)] 72)) fun e w' =>
   ∃ (v:Value) (ks:List (List UInt8)),e=.returned v/\KeysOfM M ks/\ks.length<=n/\w'.ownsRow (w.heap.size+1) 9 1 v ks.length (ks.map encStr)/\Mod No w w':=by
 obtain ⟨D,d1,d2,d3⟩:=h.row
 refine (sortedS_any b D w d1 (by omega)).mono ?_
 rintro e w' ⟨v,ss,rfl,hp,ho,hm⟩
 obtain ⟨k1,k2,k3⟩:=keys_sorted d1 d2 d3 hp
 exact ⟨v,_,rfl,k1,k2,by rw [<- k3];exact ho,((Mod.refl No w).alloc _).trans hm⟩
def recsOf (M:Mt) (ks:List (List UInt8)):List Pr:=ks.map fun k=>⟨k,(M k).getD [],false⟩
theorem changes_recs {M:Mt}:∀ (ks:List (List UInt8)) (A:Mt),ks.Nodup->(∀ k ∈ ks,(M k).isSome=true)->A.changes (recsOf M ks)=fun k=>if k ∈ ks then M k else A k
 | [],A,_,_=>by funext k;simp [Mt.changes,recsOf]
 | x :: ks,A,hn,hs=>by
  have hn':=List.nodup_cons.1 hn
  have ih:=changes_recs ks (A.put x ((M x).getD [])) hn'.2 fun k hk=>hs k (by simp [hk])
  have e:A.changes (recsOf M (x :: ks))=(A.put x ((M x).getD [])).changes (recsOf M ks):=rfl
  rw [e,ih]
  funext k
  obtain ⟨v,hv⟩:=Option.isSome_iff_exists.1 (hs x (by simp))
  by_cases hk:k=x
  ·subst hk
   simp [hn'.1,Mt.put,hv]
  ·simp [Mt.put,hk]
theorem recsOf_replay {M:Mt} {ks:List (List UInt8)} (h:KeysOfM M ks):Mt.changes (fun _=>none) (recsOf M ks)=M:=by
 rw [changes_recs ks _ h.nodup fun k hk=>(h.mem k).1 hk]
 funext k
 by_cases hk:k ∈ ks
 ·simp [hk]
 ·have:(M k).isSome=false:=by
   cases hM:(M k).isSome with
   | true=>exact absurd ((h.mem k).2 hM) hk
   | false=>rfl
  simp [hk]
  cases hM:M k with
  | none=>rfl
  | some v=>rw [hM] at this;cases this
theorem changes_append (M:Mt) (a b:List Pr):M.changes (a++b)=(M.changes a).changes b:=by unfold Mt.changes;rw [List.foldl_append]
end Go.Proofs.YtmppeipgjcjdkaaGreatDoor
