/-
  Layers 0 to 14: helps of the laws of indexes. No statement is proved here; no condition.
-/
import Derived.Test.YtmppeipgjcjdkaaGreatDoorX22
import Derived.Test.YtmppeipgjcjdkaaGreatDoorX23
import Derived.Test.YtmppeipgjcjdkaaGreatDoorX07
import Derived.Test.YtmppeipgjcjdkaaGreatDoorX00
namespace Go.Proofs.YtmppeipgjcjdkaaGreatDoor
open _root_.Go.Proofs.Tryz
open Go.RowKit Go.Maps Go.Sort Go.Shelf
theorem clone_map {w:World} {b n:Nat} {M:Mt} (h:SMp w b n M) :
  Calls prog 31 #[.map (some b)] w fun e w'=>e=.returned (.map (some w.heap.size))/\SMp w' w.heap.size n M/\Mod No w w':=by
 obtain ⟨D,h1,h2,h3⟩:=h.row
 have hc:=AnyW.maps_Clone_owns Tryz.cloneM 9 heldR b (Maps.size D) D w h1
 change Calls prog 31 _ _ _ at hc
 refine hc.mono ?_
 rintro e w' ⟨rfl,ho,-,hb⟩
 exact ⟨rfl,⟨D,ho,h2,h3⟩,Mod.of_below hb⟩
theorem sortsS (m:Nat):AnyZ.SortsIn prog Tryz.sortedS_ren Fence.wide m :=
 ⟨fun blk off cap ss W hH hblk hsz=>callsIn_wide.2 (AnyM.slices_Sort_string Tryz.sortS blk off cap ss W hH hblk hsz),
  fun p cap W=>callsIn_wide.2 (AnyM.slices_Sort_string_none Tryz.sortS p cap W)⟩
theorem keysS_any (mb:Option Nat) (w:World) :
  Calls prog 88 #[.map mb] w fun e w'=>e=.returned (.func (.func 150) #[] #[.pointer (some ⟨w.heap.size,0,none⟩)])/\w'=w.alloc (.cells #[.map mb] 72) :=
 callsIn_wide.1 (AnyZ.keys_in Tryz.keysS Fence.wide 5 trivial rfl mb w)
set_option maxRecDepth 100000 in
set_option maxHeartbeats 1000000 in
theorem sortedS_any (b:Nat) (D:DataW Value) (w:World) (h:Mp w 9 b D) (hmax:Maps.size D<=1000000) :
  Calls prog 87 #[.func (.func 150) #[] #[.pointer (some ⟨w.heap.size,0,none⟩)]] (w.alloc (.cells #[.map (some b)] 72)) fun e w' =>
   ∃ (v:Value) (ss:List (List UInt8)),e=.returned v/\ss.Perm (strKeys D)/\w'.ownsRow (w.heap.size+1) 9 1 v ss.length ((ss.mergeSort (fun x y=>decide (x<=y))).map encStr)/\Mod No (w.alloc (.cells #[.map (some b)] 72)) w':=by
 have hbl:=World.ownsMap.lt h
 have hseq:SeqGives Fence.wide 2 prog 150 #[.pointer (some ⟨w.heap.size,0,none⟩)] encStr (fun ss=>ss.Perm (strKeys D)) (Maps.size D) (w.alloc (.cells #[.map (some b)] 72)) :=
  AnyZ.keys_gives (ρ:=Tryz.keysS_ren) { Tryz.keysS with } Fence.wide _ trivial rfl (by omega) w.heap.size b _ D _ (by simp) (by simp) (by
   obtain ⟨es,clock,hb,Ft,hs,hD⟩:=h
   exact ⟨es,clock,(Below.heap_alloc _ _ b hbl).trans hb,Ft,hs,hD⟩)
 have cS:=AnyZ.sorted_in Tryz.sortedS Fence.wide 5 trivial trivial trivial trivial rfl (by omega) (sortsS _) (enters_of func149 (by kernel_rfl) rfl) 150 #[.pointer (some ⟨w.heap.size,0,none⟩)] trivial (enters_of func150 (by kernel_rfl) rfl) _ _ (by unfold maxLen;omega) (by omega) _ hseq
 change CallsIn _ _ prog 87 _ _ _ at cS
 refine (callsIn_wide.1 cS).mono ?_
 rintro e w' ⟨v,ss,rfl,hS,hrow,hnil,hb⟩
 refine ⟨v,ss,rfl,hS,?_,Mod.of_below hb⟩
 have:=hrow
 rw [World.size_alloc] at this
 exact this
structure KeysOfM (M:Mt) (ks:List (List UInt8)):Prop where
 nodup:ks.Nodup
 mem:∀ k,k ∈ ks ↔ (M k).isSome=true
 sorted:ks.Pairwise fun a b=>leB a b=true
theorem keys_sorted {w:World} {b n:Nat} {M:Mt} {D:DataW Value} (d1:Mp w 9 b D) (d2:Maps.size D<=n) (d3:∀ k,(M k=none->Maps.has D (.string k)=false)/\∀ v,M k=some v->Maps.has D (.string k)=true/\∀ zd,D.atKey (.string k) zd=.held (.string ⟨v.toArray⟩))
  {ss:List (List UInt8)} (hs:ss.Perm (strKeys D)):KeysOfM M (ss.mergeSort leB)/\(ss.mergeSort leB).length<=n/\ss.length=(ss.mergeSort leB).length:=by
 obtain ⟨es,hD,hp⟩:=d1.tidy key_str
 obtain ⟨es',hD',hk⟩:=World.ownsMap.keysOf d1
 rw [hD] at hD'
 cases hD'
 have hkey:∀ p ∈ es,∃ x,p.1=.string x:=fun p hpm=>by
  obtain ⟨v,hv⟩:=hk p hpm
  obtain ⟨x,_,hx,_⟩:=Maps.keyOf_str underlying9 hv
  exact ⟨x,hx⟩
 have hmem:∀ x,x ∈ strKeys D ↔ (M x).isSome=true:=fun x=>by
  have hh:Maps.has D (.string x)=true ↔ (M x).isSome=true:=by
   cases hM:M x with
   | none=>rw [(d3 x).1 hM];simp
   | some v=>rw [((d3 x).2 v hM).1];simp
  rw [<- hh,hD,has_iff]
  simp only [strKeys,List.mem_map]
  constructor
  ·rintro ⟨p,hpm,rfl⟩
   obtain ⟨y,hy⟩:=hkey p hpm
   exact ⟨p,hpm,by rw [hy];exact WideAt.sameKey_self (isKey_str _)⟩
  ·rintro ⟨p,hpm,hsame⟩
   obtain ⟨y,hy⟩:=hkey p hpm
   refine ⟨p,hpm,?_⟩
   have:=WideAt.sameKey_eq hsame
   rw [this];rfl
 have hnd:(strKeys D).Nodup:=by
  rw [hD]
  show (es.map fun p=>strOf p.1).Nodup
  refine List.pairwise_map.2 (hp.imp_of_mem fun {p q} hp' hq' hne e=>hne ?_)
  obtain ⟨x,hx⟩:=hkey p hp'
  obtain ⟨y,hy⟩:=hkey q hq'
  rw [hx,hy] at e ⊢
  exact congrArg _ e
 have hperm:(ss.mergeSort leB).Perm (strKeys D):=(List.mergeSort_perm ss leB).trans hs
 have tr:∀ a b c:List UInt8,leB a b=true->leB b c=true->leB a c=true:=fun a b c h1 h2=>by simp only [leB,decide_eq_true_eq] at *;exact List.le_trans h1 h2
 have hto:∀ a b:List UInt8,(leB a b || leB b a)=true:=fun a b=>by simp only [leB,Bool.or_eq_true,decide_eq_true_eq];exact List.le_total a b
 refine ⟨⟨hperm.nodup_iff.2 hnd,fun k=>by rw [hperm.mem_iff,hmem],List.pairwise_mergeSort tr hto ss⟩,?_,by simp⟩
 rw [hperm.length_eq,hD]
 have:(strKeys (.map es:DataW Value)).length=Maps.size (.map es:DataW Value):=by simp [strKeys,Maps.size_eq]
 rw [this,<- hD];exact d2
theorem sorted_keys {w:World} {b n:Nat} {M:Mt} (h:SMp w b n M) (hn:n<=1000000) :
  Calls prog 87 #[.func (.func 150) #[] #[.pointer (some ⟨w.heap.size,0,none⟩)]] (w.alloc (.cells #[.map (some b)] 72)) fun e w' =>
   ∃ (v:Value) (ks:List (List UInt8)),e=.returned v/\KeysOfM M ks/\ks.length<=n/\w'.ownsRow (w.heap.size+1) 9 1 v ks.length (ks.map encStr)/\Mod No w w':=by
 obtain ⟨D,d1,d2,d3⟩:=h.row
 refine (sortedS_any b D w d1 (by omega)).mono ?_
 rintro e w' ⟨v,ss,rfl,hp,ho,hm⟩
 obtain ⟨k1,k2,k3⟩:=keys_sorted d1 d2 d3 hp
 exact ⟨v,_,rfl,k1,k2,by rw [<- k3];exact ho,((Mod.refl No w).alloc _).trans hm⟩
def recsOf (M:Mt) (ks:List (List UInt8)):List Pr:=ks.map fun k=>⟨k,(M k).getD [],false⟩
theorem changes_recs {M:Mt}:∀ (ks:List (List UInt8)) (A:Mt),ks.Nodup->(∀ k ∈ ks,(M k).isSome=true)->A.changes (recsOf M ks)=fun k=>if k ∈ ks then M k else A k
 | [],A,_,_=>by funext k;simp [Mt.changes,recsOf]
 | x :: ks,A,hn,hs=>by
  have hn':=List.nodup_cons.1 hn
  have ih:=changes_recs ks (A.put x ((M x).getD [])) hn'.2 fun k hk=>hs k (by simp [hk])
  have e:A.changes (recsOf M (x :: ks))=(A.put x ((M x).getD [])).changes (recsOf M ks):=rfl
  rw [e,ih]
  funext k
  obtain ⟨v,hv⟩:=Option.isSome_iff_exists.1 (hs x (by simp))
  by_cases hk:k=x
  ·subst hk
   simp [hn'.1,Mt.put,hv]
  ·simp [Mt.put,hk]
theorem recsOf_replay {M:Mt} {ks:List (List UInt8)} (h:KeysOfM M ks):Mt.changes (fun _=>none) (recsOf M ks)=M:=by
 rw [changes_recs ks _ h.nodup fun k hk=>(h.mem k).1 hk]
 funext k
 by_cases hk:k ∈ ks
 ·simp [hk]
 ·have:(M k).isSome=false:=by
   cases hM:(M k).isSome with
   | true=>exact absurd ((h.mem k).2 hM) hk
   | false=>rfl
  simp [hk]
  cases hM:M k with
  | none=>rfl
  | some v=>rw [hM] at this;cases this
theorem changes_append (M:Mt) (a b:List Pr):M.changes (a++b)=(M.changes a).changes b:=by unfold Mt.changes;rw [List.foldl_append]
theorem sortsI (m:Nat):AnyZI.SortsIn prog Tryz.sortedI_ren Fence.wide m :=
 ⟨fun blk off cap ss W hH hblk hsz=>callsIn_wide.2 (AnyM.slices_Sort_int Tryz.sortI blk off cap ss W hH hblk hsz),
  fun p cap W=>callsIn_wide.2 (AnyM.slices_Sort_int_none Tryz.sortI p cap W)⟩
theorem keysI_any (mb:Option Nat) (w:World) :
  Calls prog 287 #[.map mb] w fun e w'=>e=.returned (.func (.func 314) #[] #[.pointer (some ⟨w.heap.size,0,none⟩)])/\w'=w.alloc (.cells #[.map mb] 79) :=
 callsIn_wide.1 (AnyZI.keys_in Tryz.keysI Fence.wide 5 trivial rfl mb w)
set_option maxRecDepth 100000 in
set_option maxHeartbeats 1000000 in
theorem sortedI_any (b:Nat) (D:DataW Value) (w:World) (h:Mp w 3 b D) (hmax:Maps.size D<=1000000) :
  Calls prog 286 #[.func (.func 314) #[] #[.pointer (some ⟨w.heap.size,0,none⟩)]] (w.alloc (.cells #[.map (some b)] 79)) fun e w' =>
   ∃ (v:Value) (ss:List Int),e=.returned v/\ss.Perm (intKeys D)/\w'.ownsRow (w.heap.size+1) 3 1 v ss.length ((ss.mergeSort (fun x y=>decide (x<=y))).map encZ)/\Mod No (w.alloc (.cells #[.map (some b)] 79)) w':=by
 have hbl:=World.ownsMap.lt h
 have hseq:SeqGives Fence.wide 2 prog 314 #[.pointer (some ⟨w.heap.size,0,none⟩)] encZ (fun ss=>ss.Perm (intKeys D)) (Maps.size D) (w.alloc (.cells #[.map (some b)] 79)) :=
  AnyZI.keys_gives (ρ:=Tryz.keysI_ren) { Tryz.keysI with } Fence.wide _ trivial rfl (by omega) w.heap.size b _ D _ (by simp) (by simp) (by
   obtain ⟨es,clock,hb,Ft,hs,hD⟩:=h
   exact ⟨es,clock,(Below.heap_alloc _ _ b hbl).trans hb,Ft,hs,hD⟩)
 have cS:=AnyZI.sorted_in Tryz.sortedI Fence.wide 5 trivial trivial trivial trivial rfl (by omega) (sortsI _) (enters_of func313 (by kernel_rfl) rfl) 314 #[.pointer (some ⟨w.heap.size,0,none⟩)] trivial (enters_of func314 (by kernel_rfl) rfl) _ _ (by unfold maxLen;omega) (by omega) _ hseq
 change CallsIn _ _ prog 286 _ _ _ at cS
 refine (callsIn_wide.1 cS).mono ?_
 rintro e w' ⟨v,ss,rfl,hS,hrow,hnil,hb⟩
 refine ⟨v,ss,rfl,hS,?_,Mod.of_below hb⟩
 have:=hrow
 rw [World.size_alloc] at this
 exact this
def dirtyList (n:Nat) (dirty:Nat->Option (List UInt8)):List Nat:=(List.range n).filter fun i=>(dirty i).isSome
theorem dirty_sorted {X:Nat->Prop} {w:World} {mb n sz:Nat} {dirty:Nat->Option (List UInt8)} {D:DataW Value} (h:DirtyAt w X mb n sz dirty D) {ss:List Int} (hs:ss.Perm (intKeys D)) :
  ss.mergeSort (fun x y=>decide (x<=y))=(dirtyList n dirty).map fun i:Nat=>(i:Int):=by
 obtain ⟨es,hD,hp⟩:=h.mp.tidy key_int
 obtain ⟨es',hD',hk⟩:=World.ownsMap.keysOf h.mp
 rw [hD] at hD'
 cases hD'
 have hkey:∀ p ∈ es,∃ i:Nat,i < n/\p.1=.int .i64 (i:Int):=fun p hpm=>by
  obtain ⟨v,hv⟩:=hk p hpm
  obtain ⟨x,_,hx,_⟩:=Maps.keyOf_int_inv underlying3 hv
  exact h.keys p.1 (by rw [hD];exact has_iff.2 ⟨p,hpm,by rw [hx];exact sameKey_self_int _ _⟩)
 have hmem:∀ x:Int,x ∈ intKeys D ↔ ∃ i:Nat,x=i/\i < n/\(dirty i).isSome=true:=fun x=>by
  rw [hD]
  simp only [intKeys,List.mem_map]
  constructor
  ·rintro ⟨p,hpm,rfl⟩
   obtain ⟨i,hi,e⟩:=hkey p hpm
   refine ⟨i,by rw [e];rfl,hi,?_⟩
   cases hd:dirty i with
   | none =>
    have h1:=h.gone i hi hd
    rw [hD] at h1
    have h2:Maps.has (.map es) (.int .i64 (i:Int))=true:=has_iff.2 ⟨p,hpm,by rw [e];exact sameKey_self_int _ _⟩
    rw [h2] at h1
    cases h1
   | some l=>rfl
  ·rintro ⟨i,rfl,hi,hs⟩
   obtain ⟨l,hl⟩:=Option.isSome_iff_exists.1 hs
   obtain ⟨hh,_⟩:=h.here i l hi hl
   rw [hD] at hh
   obtain ⟨p,hpm,hsame⟩:=has_iff.1 hh
   obtain ⟨j,hj,e⟩:=hkey p hpm
   refine ⟨p,hpm,?_⟩
   rw [e] at hsame ⊢
   show (j:Int)=i
   simpa [Lit.sameKey] using hsame
 have hnd:(intKeys D).Nodup:=by
  rw [hD]
  simp only [intKeys]
  rw [List.nodup_iff_pairwise_ne,List.pairwise_map]
  refine hp.imp_of_mem fun {p q} hpm hqm hne e=>hne ?_
  obtain ⟨i,_,e1⟩:=hkey p hpm
  obtain ⟨j,_,e2⟩:=hkey q hqm
  rw [e1,e2] at e ⊢
  have e3:(i:Int)=j:=e
  rw [e3]
 have hl:((dirtyList n dirty).map fun i:Nat=>(i:Int)).Pairwise (·<=·):=by
  rw [List.pairwise_map]
  refine List.Pairwise.imp (R:=(· < ·)) (fun h=>by omega) ?_
  exact List.Pairwise.sublist List.filter_sublist List.pairwise_lt_range
 have hperm:(ss.mergeSort (fun x y=>decide (x<=y))).Perm ((dirtyList n dirty).map fun i:Nat=>(i:Int)):=by
  refine (List.mergeSort_perm _ _).trans (hs.trans ?_)
  refine (List.perm_ext_iff_of_nodup hnd ?_).2 fun x=>?_
  ·rw [List.nodup_iff_pairwise_ne,List.pairwise_map]
   refine List.Pairwise.imp (R:=(· < ·)) (fun h=>by omega) ?_
   exact List.Pairwise.sublist List.filter_sublist List.pairwise_lt_range
  ·rw [hmem]
   simp only [dirtyList,List.mem_map,List.mem_filter,List.mem_range]
   constructor
   ·rintro ⟨i,rfl,h1,h2⟩;exact ⟨i,⟨h1,h2⟩,rfl⟩
   ·rintro ⟨i,⟨h1,h2⟩,rfl⟩;exact ⟨i,rfl,h1,h2⟩
 have hsort:(ss.mergeSort (fun x y=>decide (x<=y))).Pairwise (·<=·):=by
  have:=List.pairwise_mergeSort (le:=fun x y:Int=>decide (x<=y)) (fun a b c h1 h2=>by simp at *;omega) (fun a b=>by simp;omega) ss
  exact this.imp fun h=>by simpa using h
 exact List.Perm.eq_of_pairwise (fun a b _ _ h1 h2=>by omega) hsort hl hperm
end Go.Proofs.YtmppeipgjcjdkaaGreatDoor
namespace Go.Proofs.YtmppeipgjcjdkaaGreatDoor
open _root_.Go.Proofs.Tryz
open Go.RowKit Go.Maps
def rank (dirty:Nat->Option (List UInt8)) (i:Nat):Nat:=(dirtyList i dirty).length
def settleTo (g:Nat->List UInt8->List UInt8->List UInt8) (sure:Nat->List UInt8) (dirty:Nat->Option (List UInt8)) (k:Nat) (i:Nat):List UInt8 :=
 match dirty i with
 | some l=>if rank dirty i < k then g (rank dirty i) (sure i) l else sure i
 | none=>sure i
def Dk.settle (d:Dk) (g:Nat->List UInt8->List UInt8->List UInt8):Dk :=
 { d with sure:=fun i=>match d.dirty i with | some l=>g (rank d.dirty i) (d.sure i) l | none=>d.sure i,dirty:=fun _=>none }
theorem dirtyList_succ (n:Nat) (dirty:Nat->Option (List UInt8)):dirtyList (n+1) dirty=dirtyList n dirty++if (dirty n).isSome then [n] else []:=by
 unfold dirtyList
 rw [List.range_succ,List.filter_append]
 by_cases h:(dirty n).isSome=true <;> simp [h]
theorem rank_lt {dirty:Nat->Option (List UInt8)} {i n:Nat} (h:i < n) (hs:(dirty i).isSome=true):rank dirty i < (dirtyList n dirty).length:=by
 induction n with
 | zero=>omega
 | succ n ih =>
  rw [dirtyList_succ,List.length_append]
  by_cases e:i=n
  ·subst e;simp [rank,hs]
  ·have:=ih (by omega);omega
theorem rank_at {dirty:Nat->Option (List UInt8)} {n k i:Nat} (h:(dirtyList n dirty)[k]? = some i):i < n/\(dirty i).isSome=true/\rank dirty i=k:=by
 induction n with
 | zero=>simp [dirtyList] at h
 | succ n ih =>
  rw [dirtyList_succ] at h
  rcases Nat.lt_or_ge k (dirtyList n dirty).length with hk | hk
  ·rw [List.getElem?_append_left hk] at h
   obtain ⟨h1,h2,h3⟩:=ih h
   exact ⟨by omega,h2,h3⟩
  ·rw [List.getElem?_append_right hk] at h
   by_cases hs:(dirty n).isSome=true
   ·simp only [hs,if_true] at h
    have hk2:k - (dirtyList n dirty).length=0:=by
     rcases Nat.eq_zero_or_pos (k - (dirtyList n dirty).length) with h0 | h0
     ·exact h0
     ·rw [List.getElem?_eq_none (by simp;omega)] at h;cases h
    rw [hk2] at h
    simp at h
    subst h
    exact ⟨by omega,hs,by unfold rank;omega⟩
   ·simp [hs] at h
theorem rank_inj {dirty:Nat->Option (List UInt8)} {i j:Nat} (hi:(dirty i).isSome=true) (hj:(dirty j).isSome=true) (h:rank dirty i=rank dirty j):i=j:=by
 rcases Nat.lt_trichotomy i j with h1 | h1 | h1
 ·have:=rank_lt h1 hi;unfold rank at *;omega
 ·exact h1
 ·have:=rank_lt h1 hj;unfold rank at *;omega
theorem settleTo_zero (g:Nat->List UInt8->List UInt8->List UInt8) (sure:Nat->List UInt8) (dirty:Nat->Option (List UInt8)) (i:Nat):settleTo g sure dirty 0 i=sure i:=by
 unfold settleTo;split <;> simp
theorem settleTo_succ (g:Nat->List UInt8->List UInt8->List UInt8) (sure:Nat->List UInt8) (dirty:Nat->Option (List UInt8)) {k i:Nat} {l:List UInt8} (hd:dirty i=some l) (hr:rank dirty i=k) (j:Nat) :
  settleTo g sure dirty (k+1) j=if j=i then g k (sure i) l else settleTo g sure dirty k j:=by
 unfold settleTo
 by_cases e:j=i
 ·subst e;simp [hd,hr]
 ·simp only [if_neg e]
  cases hj:dirty j with
  | none=>rfl
  | some l' =>
   have:rank dirty j ≠ k:=fun h=>e (rank_inj (by simp [hj]) (by simp [hd]) (h.trans hr.symm))
   simp only
   by_cases h:rank dirty j < k
   ·rw [if_pos h,if_pos (by omega)]
   ·rw [if_neg h,if_neg (by omega)]
theorem settleTo_all (g:Nat->List UInt8->List UInt8->List UInt8) (sure:Nat->List UInt8) (dirty:Nat->Option (List UInt8)) {n i:Nat} (h:i < n) :
  settleTo g sure dirty (dirtyList n dirty).length i=match dirty i with | some l=>g (rank dirty i) (sure i) l | none=>sure i:=by
 unfold settleTo
 cases hd:dirty i with
 | none=>rfl
 | some l=>simp only;rw [if_pos (rank_lt h (by simp [hd]))]
theorem sortedD_any {X:Nat->Prop} {w:World} {mb n sz:Nat} {dirty:Nat->Option (List UInt8)} {D:DataW Value} (h:DirtyAt w X mb n sz dirty D) (hn:n<=4096) :
  Calls prog 286 #[.func (.func 314) #[] #[.pointer (some ⟨w.heap.size,0,none⟩)]] (w.alloc (.cells #[.map (some mb)] 79)) fun e w' =>
   ∃ ka kc,e=.returned (.slice ka (dirtyList n dirty).length kc)/\w'.ownsRow (w.heap.size+1) 3 1 (.slice ka (dirtyList n dirty).length kc) (dirtyList n dirty).length ((dirtyList n dirty).map fun i:Nat=>.int .i64 (i:Int))/\Mod No (w.alloc (.cells #[.map (some mb)] 79)) w':=by
 have hsz:=h.size
 refine (sortedI_any mb D w h.mp (by omega)).mono ?_
 rintro e w' ⟨v,ss,rfl,hS,hrow,hm⟩
 have hL:=dirty_sorted h hS
 have hlen:ss.length=(dirtyList n dirty).length:=by rw [<- List.length_mergeSort (le:=fun x y=>decide (x<=y)) ss,hL,List.length_map]
 rw [hL,hlen] at hrow
 obtain ⟨ka,kc,rfl⟩:=own_len hrow
 refine ⟨ka,kc,rfl,?_,hm⟩
 simpa [List.map_map,Function.comp_def] using hrow
structure SetInv (w0 wr:World) (X:Nat->Prop) (sb:Nat) (d:Dk) (g:Nat->List UInt8->List UInt8->List UInt8) (k:Nat):Prop where
 sure:∃ cur,SureAt wr X sb d.n d.sz (settleTo g d.sure d.dirty k) cur
 mod:Mod (· = sb) w0 wr
def settleFAsks (w0:World) (X:Nat->Prop) (sb sz:Nat) (g:Nat->List UInt8->List UInt8->List UInt8):Prop :=
 ∀ (k:Nat) (vs vl:Value) (s l:List UInt8) (W:World),k<=4096->Mod (· = sb) w0 W->Sl W X 5 vs sz (bv s)->Sl W X 5 vl sz (bv l)->s.length=sz->l.length=sz →
  Calls prog 246 #[.int .i64 (k:Int),vs,vl] W fun e w'=>∃ v,e=.returned v/\Sl w' X 5 v sz (bv (g k s l))/\Mod No W w'
set_option maxRecDepth 100000 in
set_option maxHeartbeats 4000000 in
theorem settleF (X:Nat->Prop) (b sb mb:Nat) (d:Dk) (g:Nat->List UInt8->List UInt8->List UInt8) (w:World) (h:DkAt w X b sb mb d)
  (hC:settleFAsks w X sb d.sz g) (hG:∀ k s l,s.length=d.sz->l.length=d.sz->(g k s l).length=d.sz) :
  Calls prog 245 #[.pointer (some ⟨b,0,none⟩),.func (.func 246) #[] #[]] w fun e w'=>e=.returned (.tuple #[])/\DkAt w' X b sb mb (d.settle g)/\Mod (fun q=>q=sb\/q=mb) w w':=by
 obtain ⟨hn1,hn2,hn3⟩:=h.mb_ne
 obtain ⟨sc,ho,hsc1,hsc2⟩:=h.obj
 obtain ⟨D,hD⟩:=h.dirty
 have c0:=cell_of (i:=0) ho rfl
 have c1:=cell_of (i:=1) ho rfl
 have hDsz:=hD.size
 have hn2':d.n<=4096:=h.n2
 have HK:=zh (keysI_any (some mb) w)
 have HC:=zh hC
 have HG:=zh hG
 have HH:=zh h
 have HD:=zh hD
 have HO:=zh ho
 have N1:=zh hn1
 have N2:=zh hn2
 have N3:=zh hn3
 obtain ⟨L,hLd⟩:∃ L,L=dirtyList d.n d.dirty:=⟨_,rfl⟩
 have hLlen:L.length<=4096:=by
  have:=List.length_filter_le (fun i=>(d.dirty i).isSome) (List.range d.n)
  rw [hLd];unfold dirtyList;simp at this;omega
 have HL:=zh hLd
 clear h hD ho hC hG hn1 hn2 hn3 hsc1 hsc2 hLd
 have HS:=zh (sortedD_any HD.out hn2')
 rw [<- HL.out] at HS
 refine calls_hide fun R hR=>?_
 go_enter func245,ntmps245
 go_wp2_with (first | (go_at_call 287;refine HK.out.mono ?_;rintro e w' ⟨rfl,rfl⟩) | (go_at_call 286;refine HS.out.mono ?_;rintro e w1 ⟨ka,kc,rfl,hrow,hm1⟩;have HR:=zh hrow;have M1:=zh (((Mod.refl No w).alloc _).trans hm1);clear hrow hm1))
 have hk0:∀ q:Nat,(0:Int)<=(q:Int):=fun q=>Int.natCast_nonneg q
 go_loopw [13] (fun i wr=>∃ k:Nat,k<=L.length/\i=.int .i64 k/\SetInv w1 wr X sb d g k) (fun i _=>L.length - (intOf i).toNat)
 case atStart =>
  obtain ⟨cur,hc⟩:=HH.out.sure
  refine ⟨0,Nat.zero_le _,rfl,⟨cur,?_⟩,Mod.refl _ _⟩
  have hc1:=hc.keep M1.out (fun f=>f) (beside_no _ _)
  exact ⟨hc1.heap,hc1.len,fun i hi=>by rw [settleTo_zero];exact hc1.cell i hi⟩
 case round =>
  obtain ⟨k,hk,rfl,⟨cur,hcur⟩,hmod⟩:=hrel
  by_cases hlt:k < L.length
  ·obtain ⟨kb,hka⟩:∃ kb,ka=some ⟨kb,0,none⟩/\w.heap.size+1<=kb:=by
    obtain ⟨g',cap,hv,hg'⟩:=own_shape HR.out (by omega)
    cases hv
    exact ⟨g',rfl,hg'⟩
   obtain ⟨hka,hkb⟩:=hka
   subst hka
   obtain ⟨i,hi⟩:∃ i,L[k]? = some i:=⟨L[k],by simp [hlt]⟩
   have hi':(dirtyList d.n d.dirty)[k]? = some i:=by rw [<- HL.out];exact hi
   obtain ⟨hin,hsome,hrank⟩:=rank_at hi'
   obtain ⟨l,hl⟩:=Option.isSome_iff_exists.1 hsome
   have hmA:Mod (· = sb) w wr:=(M1.out.weaken fun _ _ f=>f.elim).trans hmod
   have hbs:Beside w X (· = sb):=fun q hq=>.inr fun cur fz e=>by
    obtain ⟨cur',hc'⟩:=HH.out.sure
    have:=hc'.heap
    subst hq;rw [this] at e;cases e
   have hDr:DirtyAt wr X mb d.n d.sz d.dirty D:=HD.out.keep hmA (fun e=>N3.out e.symm) hbs
   obtain ⟨hhas,vl,hat,hvl⟩:=hDr.here i l hin hl
   obtain ⟨vs,hvs,hsl⟩:=hcur.cell i hin
   have hsi:settleTo g d.sure d.dirty k i=d.sure i:=by unfold settleTo;simp [hl,hrank]
   rw [hsi] at hsl
   have ck:wr.cell? ⟨kb,k,none⟩=some (.int .i64 (i:Int)):=by
    have h1:=HR.out.cells (g:=kb) rfl k (.int .i64 (i:Int)) (by simp [hi])
    simp only [Addr.add_lit,Nat.zero_add] at h1
    refine hmod.cell h1 (fun e=>?_)
    have h2:=lt_of_heap HO.out
    obtain ⟨cur',hc'⟩:=HH.out.sure
    have h3:=lt_of_heap hc'.heap
    have e':kb=sb:=e
    omega
   have d0:=hmA.cell c0 (fun e=>N1.out e)
   have d1:=hmA.cell c1 (fun e=>N1.out e)
   have ds:=cell_ofA hcur.heap hvs
   have fs:=frozen_of i hcur.heap
   have hkey:=keyOf_nat i (by omega)
   have hlook:=hDr.mp.get_hit key_int underlying79 (zero_bs wr) hkey hat
   have hi0:(0:Int)<=(i:Int):=Int.natCast_nonneg _
   have hi1:(i:Int) < (d.n:Int):=by omega
   have hk1:(k:Int) < (L.length:Int):=by omega
   have CUR:=zh hcur
   have MA:=zh hmA
   have MO:=zh hmod
   have DR:=zh hDr
   have VL:=zh hvl
   have VS:=zh hsl
   have HI:=zh hi
   have RK:=zh hrank
   have DL:=zh hl
   have HKY:=zh hkey
   have HAT:=zh hat
   have hsz0:0 < d.sz:=by have:=HH.out.s1;omega
   clear hcur hmA hmod hDr hvl hsl hi hi' hrank hl hkey hsome hhas hat hvs hsi hbs
   go_wp2_with fail
   have hS0:wr.drew.cell? ⟨b,0,none⟩=some (.slice (some ⟨sb,0,none⟩) d.n sc)/\wr.drew.cell? ⟨b,1,none⟩=some (.map (some mb))/\wr.drew.cell? ⟨sb,i,none⟩=some vs/\(Instr.lookup 79 (.map (some mb)) (.int .i64 (i:Int)) false).run prog wr.drew=.ok vl wr.drew :=
    ⟨d0,d1,ds,(DR.out.mp.keep (S:=No) (Mod.refl No wr).drew (fun f=>f)).get_hit key_int underlying79 (zero_bs _) HKY.out HAT.out⟩
   refine wp_region_T (fun w'=>w'.cell? ⟨b,0,none⟩=some (.slice (some ⟨sb,0,none⟩) d.n sc)/\w'.cell? ⟨b,1,none⟩=some (.map (some mb))/\w'.cell? ⟨sb,i,none⟩=some vs/\(Instr.lookup 79 (.map (some mb)) (.int .i64 (i:Int)) false).run prog w'=.ok vl w') 22 (by kernel_rfl) ?_
   refine yR 0 18 hS0 ?_
   refine yR 1 19 hS0 ?_
   refine yR 2 20 hS0 ?_
   refine yR 3 21 hS0 ?_
   refine yR 4 22 hS0 ?_
   refine yR 5 23 hS0 ?_
   refine yR 6 24 hS0 ?_
   refine yR 7 25 hS0 ?_
   refine yR 8 26 hS0 ?_
   refine yR 9 27 hS0 ?_
   refine yR 10 28 hS0 ?_
   refine yR 11 29 hS0 ?_
   refine yR 12 30 hS0 ?_
   refine yR 13 31 hS0 ?_
   refine yR 14 32 hS0 ?_
   refine yR 15 33 hS0 ?_
   refine yR 16 34 hS0 ?_
   refine yR 17 35 hS0 ?_
   refine yR 18 36 hS0 ?_
   refine yR 19 37 hS0 ?_
   refine wpAnyT_one 20 rfl (by kernel_rfl) rfl ?_
   intro K hK
   go_simp
   refine (HC.out k vs vl (d.sure i) l _ (by omega) (MA.out.drew) (VS.out.keep (S:=No) (Mod.refl No wr).drew (fun _ _ _ f=>f.elim)) (VL.out.keep (S:=No) (Mod.refl No wr).drew (fun _ _ _ f=>f.elim)) (HH.out.lenS i hin) (HH.out.lenD i l hin DL.out)).mono ?_
   rintro e w4 ⟨v,rfl,hv,hm4⟩
   obtain ⟨vb,vo,vc,rfl,_⟩:=hv.shape hsz0
   have e0:=hm4.cell (show wr.drew.cell? _=_ from d0) (fun f=>f)
   have e1:=hm4.cell (show wr.drew.cell? _=_ from d1) (fun f=>f)
   have es:=hm4.cell (show wr.drew.cell? _=_ from ds) (fun f=>f)
   have h4:=hm4.keep (show wr.drew.heap[sb]? = _ from CUR.out.heap) (fun f=>f)
   have fs4:=frozen_of i h4
   have hS4:w4.cell? ⟨b,0,none⟩=some (.slice (some ⟨sb,0,none⟩) d.n sc)/\w4.cell? ⟨b,1,none⟩=some (.map (some mb))/\w4.cell? ⟨sb,i,none⟩=some vs/\(Instr.lookup 79 (.map (some mb)) (.int .i64 (i:Int)) false).run prog w4=.ok vl w4:=⟨e0,e1,es,((DR.out.mp.keep (S:=No) (Mod.refl No wr).drew (fun f=>f)).keep hm4 (fun f=>f)).get_hit key_int underlying79 (zero_bs _) HKY.out HAT.out⟩
   have HV:=zh hv
   have M4:=zh hm4
   have H4:=zh h4
   clear hv hm4 h4
   show K _ _
   refine hK.out _ _ (fun _=>hS4) ?_
   clear hK K
   refine wpAnyT_one 21 rfl (by kernel_rfl) rfl ?_
   intro K hK
   go_simp
   show K _ _
   refine hK.out _ _ (fun _=>hS4) ?_
   clear hK K
   refine wpAnyT_one 22 rfl (by kernel_rfl) rfl ?_
   intro K hK
   go_simp
   show K _ _
   refine hK.out _ _ (fun h=>absurd rfl h) ?_
   clear hK K
   refine wpAnyT_done (by kernel_rfl) ?_ _
   go_wp2
   refine ⟨⟨k+1,by omega,by go_num,?_⟩,by simp [intOf];omega⟩
   have hmS:Mod (· = sb) wr (w4.setCell ⟨sb,i,none⟩ (.slice (some ⟨vb,vo,none⟩) d.sz vc)):=((Mod.refl (· = sb) wr).drew.trans (M4.out.weaken fun _ _ f=>f.elim)).setCell (fun _=>rfl) _
   have hbs:∀ cur fz,wr.heap[sb]? ≠ some (.cells cur 5 fz):=fun cur' fz e=>by rw [CUR.out.heap] at e;cases e
   have hcl:i < cur.size:=by have:=CUR.out.len;omega
   refine ⟨⟨cur.setIfInBounds i (.slice (some ⟨vb,vo,none⟩) d.sz vc),heap_setCell H4.out _,by rw [Array.size_setIfInBounds];exact CUR.out.len,fun j hj=>?_⟩,MO.out.trans hmS⟩
   rw [settleTo_succ g d.sure d.dirty DL.out RK.out]
   by_cases e:j=i
   ·subst e
    rw [if_pos rfl]
    refine ⟨_,by rw [Array.getElem?_setIfInBounds_self_of_lt hcl],?_⟩
    have h1:=HV.out
    have hmX:Mod (· = sb) w4 (w4.setCell ⟨sb,j,none⟩ (.slice (some ⟨vb,vo,none⟩) d.sz vc)):=(Mod.refl (· = sb) w4).setCell (fun _=>rfl) _
    refine h1.keep hmX fun q cur' fz hq _ e=>?_
    subst hq;rw [H4.out] at e;cases e
   ·rw [if_neg e]
    obtain ⟨u,hu,hs⟩:=CUR.out.cell j hj
    exact ⟨u,by rw [Array.getElem?_setIfInBounds_ne (Ne.symm e)];exact hu,hs.beside hmS fun q hq=>.inr fun cur' fz=>by subst hq;exact hbs cur' fz⟩
  ·have hkL:k=L.length:=by omega
   subst hkL
   have hmA:Mod (· = sb) w wr:=(M1.out.weaken fun _ _ f=>f.elim).trans hmod
   have hbs:Beside w X (· = sb):=fun q hq=>.inr fun cur' fz e=>by
    obtain ⟨cur',hc'⟩:=HH.out.sure
    have:=hc'.heap
    subst hq;rw [this] at e;cases e
   have hDr:DirtyAt wr X mb d.n d.sz d.dirty D:=HD.out.keep hmA (fun e=>N3.out e.symm) hbs
   obtain ⟨w5,hclr,hmp5,hm5,_⟩:=hDr.mp.clear underlying79
   have d1:=hmA.cell c1 (fun e=>N1.out e)
   have CUR:=zh hcur
   have MA:=zh hmA
   have DR:=zh hDr
   have MP5:=zh hmp5
   have M5:=zh hm5
   clear hcur hmA hmod hDr hmp5 hm5 hbs
   go_wp2
   go_end0
   have hobj:=MA.out.keep HO.out N1.out
   have hb5:Beside wr X (· = mb):=fun q hq=>.inr fun cur' fz e=>by
    obtain ⟨es,clock,hh⟩:=DR.out.mp.heap
    subst hq;rw [hh] at e;cases e
   obtain ⟨sc',ho',r1,r2⟩:=HH.out.obj
   rw [HO.out] at ho'
   cases ho'
   have hsure:SureAt w5 X sb d.n d.sz (d.settle g).sure cur:=by
    have h5:=CUR.out.keep M5.out N3.out hb5
    refine ⟨h5.heap,h5.len,fun i hi=>?_⟩
    have:=h5.cell i hi
    rw [HL.out,settleTo_all g d.sure d.dirty hi] at this
    exact this
   refine fin hR ⟨rfl,⟨⟨sc,M5.out.keep hobj N2.out,r1,r2⟩,⟨cur,hsure⟩,⟨.map [],MP5.out,(fun kl h=>by simp [Maps.has_eq] at h),(fun _ _ _=>by simp [Maps.has_eq]),(fun _ _ _ h=>by cases h)⟩,(fun i hi=>?_),(fun _ _ _ h=>by cases h),HH.out.n1,HH.out.n2,HH.out.s1,HH.out.s2,HH.out.c1,HH.out.c2⟩,?_⟩
   ·show (match d.dirty i with | some l=>g (rank d.dirty i) (d.sure i) l | none=>d.sure i).length=d.sz
    cases hd:d.dirty i with
    | none=>exact HH.out.lenS i hi
    | some l=>exact HG.out _ _ _ (HH.out.lenS i hi) (HH.out.lenD i l hi hd)
   ·exact (MA.out.weaken fun _ _ e=>.inl e).trans (M5.out.weaken fun _ _ e=>.inr e)
def Own3 (b sb mb:Nat):Nat->Prop:=fun k=>k=b\/k=sb\/k=mb
def Dk.flushE (d:Dk):Int:=if d.dead=true\/d.cut=0 then 32 else 0
def Dk.flush (d:Dk):Dk:=if d.dead=true then d else if d.cut=0 then d.power else d.power.settle fun _ _ l=>l
theorem DkAt.obj_eq {X:Nat->Prop} {w:World} {b sb mb:Nat} {d:Dk} (h:DkAt w X b sb mb d) {w':World} {cut:Int} {dead:Bool} {sc:Nat}
  (ho:w.heap[b]? = some (.cells #[.slice (some ⟨sb,0,none⟩) d.n sc,.map (some mb),.int .i64 d.cut,.bool d.dead] 83 (0,0)))
  (h':w'.heap[b]? = some (.cells #[.slice (some ⟨sb,0,none⟩) d.n sc,.map (some mb),.int .i64 cut,.bool dead] 83 (0,0)))
  (hm:Mod (· = b) w w') (h1:-1<=cut) (h2:cut<=9223372036854775807):DkAt w' X b sb mb { d with cut:=cut,dead:=dead } :=
 h.turned hm h1 h2 fun sc' ho'=>by
  rw [ho] at ho'
  cases ho'
  exact h'
theorem flush_asks (w0:World) (X:Nat->Prop) (sb sz:Nat):settleFAsks w0 X sb sz fun _ _ l=>l:=by
 intro k vs vl s l W _ _ _ hl _ _
 have HL:=zh hl
 clear hl
 refine calls_hide fun R hR=>?_
 go_enter func246,ntmps246
 go_wp2
 exact fin hR ⟨vl,rfl,HL.out,Mod.refl _ _⟩
set_option maxRecDepth 100000 in
set_option maxHeartbeats 800000 in
theorem flush_any (X:Nat->Prop) (b sb mb:Nat) (d:Dk) (w:World) (h:DkAt w X b sb mb d) :
  Calls prog 200 #[.pointer (some ⟨b,0,none⟩)] w fun e w'=>e=.returned (.int .i64 d.flushE)/\DkAt w' X b sb mb d.flush/\Mod (Own3 b sb mb) w w':=by
 obtain ⟨sc,ho,hsc1,hsc2⟩:=h.obj
 have c3:=cell_of (i:=3) ho rfl
 refine calls_hide fun R hR=>?_
 cases hd:d.dead with
 | true =>
  have HD:=zh h
  have Hd:=zh hd
  rw [hd] at c3
  clear ho h hd
  go_enter func200,ntmps200
  go_wp2
  refine fin hR ⟨by simp [Dk.flushE,Hd.out],?_,Mod.refl _ _⟩
  simp only [Dk.flush,Hd.out,if_true]
  exact HD.out
 | false =>
  have HP:=zh (powered_any b _ _ d.cut d.dead w h.c1 h.c2 ho)
  have HD:=zh h
  have Hd:=zh hd
  have HO:=zh ho
  rw [hd] at c3
  by_cases hcut:d.cut=0
  ·rw [if_pos hcut] at HP
   have Hc:=zh hcut
   clear ho h hd hcut
   go_enter func200,ntmps200
   go_wp2_with (go_at_call 244;refine HP.out.mono ?_;rintro e w1 ⟨rfl,hb1,hm1,hz1⟩;have HB:=zh hb1;have HM:=zh hm1;clear hb1 hm1 hz1)
   refine fin hR ⟨by simp [Dk.flushE,Hc.out],?_,HM.out.weaken fun _ _ e=>.inl e⟩
   have h1:=HD.out.obj_eq HO.out HB.out HM.out (by have:=HD.out.c1;split <;> omega) (by have:=HD.out.c2;split <;> omega)
   simp only [Dk.flush,Hd.out,Hc.out,if_true,Bool.false_eq_true,if_false]
   exact h1
  ·rw [if_neg hcut] at HP
   have Hc:=zh hcut
   clear ho h hd hcut
   go_enter func200,ntmps200
   go_wp2_with (first | (go_at_call 244;refine HP.out.mono ?_;rintro e w1 ⟨rfl,hb1,hm1,hz1⟩;have HB:=zh hb1;have HM:=zh hm1;have HD1:=zh (HD.out.obj_eq HO.out hb1 hm1 (by have:=HD.out.c1;split <;> omega) (by have:=HD.out.c2;split <;> omega));clear hb1 hm1 hz1) | (go_at_call 245;refine (settleF X b sb mb _ (fun _ _ l=>l) _ HD1.out (flush_asks _ _ _ _) (fun _ _ _ _ h=>h)).mono ?_;rintro e w2 ⟨rfl,hd2,hm2⟩;have HD2:=zh hd2;have HM2:=zh hm2;clear hd2 hm2))
   refine fin hR ⟨by simp [Dk.flushE,Hc.out,Hd.out],?_,(HM.out.weaken fun _ _ e=>.inl e).trans (HM2.out.weaken fun _ _ e=>.inr e)⟩
   have h2:=HD2.out
   simp only [Dk.flush,Hd.out,Hc.out,Bool.false_eq_true,if_false]
   exact h2
theorem DkAt.not_bytes {w:World} {X:Nat->Prop} {b sb mb:Nat} {d:Dk} (h:DkAt w X b sb mb d) {q:Nat} (hq:Own3 b sb mb q) (cur:Array Value) (fz:Nat × Nat):w.heap[q]? ≠ some (.cells cur 5 fz):=fun e=>by
 obtain ⟨sc,ho,_⟩:=h.obj
 obtain ⟨cur',hc⟩:=h.sure
 obtain ⟨D,hD⟩:=h.dirty
 obtain ⟨es,clock,hm⟩:=hD.mp.heap
 have hs:=hc.heap
 rcases hq with rfl | rfl | rfl
 ·rw [ho] at e;cases e
 ·rw [hs] at e;cases e
 ·rw [hm] at e;cases e
theorem sectors_ok {X:Nat->Prop} {b sb mb:Nat} {d:Dk} {w:World} (h:DkAt w X b sb mb d) :
  Calls prog 59 #[.pointer (some ⟨b,0,none⟩)] w fun e w'=>e=.returned (.int .i64 (d.n:Int))/\w=w':=by
 obtain ⟨sc,ho,_⟩:=h.obj
 exact sectors_any ⟨b,0,none⟩ _ _ _ w (cell_of (i:=0) ho rfl)
theorem size_ok {X:Nat->Prop} {b sb mb:Nat} {d:Dk} {w:World} (h:DkAt w X b sb mb d) :
  Calls prog 60 #[.pointer (some ⟨b,0,none⟩)] w fun e w'=>e=.returned (.int .i64 (d.sz:Int))/\w=w':=by
 obtain ⟨sc,ho,_⟩:=h.obj
 obtain ⟨cur,hc⟩:=h.sure
 obtain ⟨v0,hv0,hs0⟩:=hc.cell 0 h.n1
 obtain ⟨a0,o0,k0,rfl,_⟩:=hs0.shape (by have:=h.s1;omega)
 exact dsize_any ⟨b,0,none⟩ sb _ _ _ _ _ w h.n1 (cell_of (i:=0) ho rfl) (cell_ofA hc.heap hv0)
theorem DkAt.lt {w:World} {X:Nat->Prop} {b sb mb:Nat} {d:Dk} (h:DkAt w X b sb mb d) {q:Nat} (hq:Own3 b sb mb q):q < w.heap.size:=by
 obtain ⟨sc,ho,_⟩:=h.obj
 obtain ⟨cur',hc⟩:=h.sure
 obtain ⟨D,hD⟩:=h.dirty
 obtain ⟨es,clock,hm⟩:=hD.mp.heap
 rcases hq with rfl | rfl | rfl
 ·exact lt_of_heap ho
 ·exact lt_of_heap hc.heap
 ·exact lt_of_heap hm
theorem DkAt.avoid {w:World} {X:Nat->Prop} {b sb mb:Nat} {d:Dk} (h:DkAt w X b sb mb d):DkAt w (fun q=>X q\/w.heap.size<=q) b sb mb d:=by
 obtain ⟨cur,hc⟩:=h.sure
 obtain ⟨D,hD⟩:=h.dirty
 exact ⟨h.obj,⟨cur,hc.heap,hc.len,fun i hi=>let ⟨v,e,s⟩:=hc.cell i hi;⟨v,e,s.avoid⟩⟩,⟨D,hD.mp,hD.keys,hD.gone,fun i l hi hd=>let ⟨a,v,e,s⟩:=hD.here i l hi hd;⟨a,v,e,s.avoid⟩⟩,
  h.lenS,h.lenD,h.n1,h.n2,h.s1,h.s2,h.c1,h.c2⟩
theorem DkAt.shrink {w:World} {X Y:Nat->Prop} {b sb mb:Nat} {d:Dk} (h:DkAt w X b sb mb d) (hy:∀ k,k < w.heap.size->Y k->X k):DkAt w Y b sb mb d:=by
 obtain ⟨cur,hc⟩:=h.sure
 obtain ⟨D,hD⟩:=h.dirty
 exact ⟨h.obj,⟨cur,hc.heap,hc.len,fun i hi=>let ⟨v,e,s⟩:=hc.cell i hi;⟨v,e,s.shrink hy⟩⟩,⟨D,hD.mp,hD.keys,hD.gone,fun i l hi hd=>let ⟨a,v,e,s⟩:=hD.here i l hi hd;⟨a,v,e,s.shrink hy⟩⟩,
  h.lenS,h.lenD,h.n1,h.n2,h.s1,h.s2,h.c1,h.c2⟩
end Go.Proofs.YtmppeipgjcjdkaaGreatDoor
namespace Go.Proofs.YtmppeipgjcjdkaaGreatDoor
open _root_.Go.Proofs.Tryz
open Go.RowKit
end Go.Proofs.YtmppeipgjcjdkaaGreatDoor
