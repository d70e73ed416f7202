/-
  Layers 0 to 14: helps of the laws of indexes. No statement is proved here; no condition.
-/
import Derived.Test.YticfcmdjplmaeaaGreatDoorX23
import Derived.Test.YticfcmdjplmaeaaGreatDoorX02
import Derived.Test.YticfcmdjplmaeaaGreatDoorX25
import Derived.Shelf.SlIterI.Nil
import Derived.Shelf.SlIter.Nil
import Derived.Shelf.SortM.Plain
import Derived.Shelf.SortM.SortNone
import Derived.Ground.GgzProg
import Derived.Ground.SlgmProg
import Derived.Shelf.SlMaps.Clone
import Derived.Ground.SlmcProg
import Derived.Test.YticfcmdjplmaeaaGreatDoorProg
set_option maxRecDepth 100000
set_option maxHeartbeats 64000000
namespace Go.Proofs
open Go.Shelf
def Tryz.keysS_ren:Go.Shelf.Ren:=⟨fun | 7=>182 | 10=>239 | n=>n,fun | 23=>282 | 26=>9 | 3=>3 | 28=>276 | 0=>0 | 27=>275 | 33=>43 | 4=>4 | n=>n,fun | n=>n⟩
theorem Tryz.keysS:Go.Proofs.SlLaysZ.n7 prog Tryz.keysS_ren:={
 mixed:=by kernel_rfl
 f7:=⟨Tryz.f182.name,by decide,func182.trans (congrArg some (by kernel_rfl))⟩
 f10:=⟨Tryz.f239.name,by decide,func239.trans (congrArg some (by kernel_rfl))⟩
 t0:=underlying0
 a0:=isAgg0
 z0:=sizeOf0
 v0:=zeroValue0
 t4:=underlying4
 a4:=isAgg4
 z4:=sizeOf4
 v4:=zeroValue4
 t23:=underlying282
 a23:=isAgg282
 z23:=sizeOf282
 v23:=zeroValue282
 t26:=underlying9
 a26:=isAgg9
 z26:=sizeOf9
 v26:=zeroValue9
 t27:=underlying275
 a27:=isAgg275
 z27:=sizeOf275
 v27:=zeroValue275
 t28:=underlying276
 a28:=isAgg276
 z28:=sizeOf276
 v28:=zeroValue276
 t33:=underlying43
 a33:=isAgg43
 z33:=sizeOf43
 v33:=zeroValue43 }
def Tryz.sortedS_ren:Go.Shelf.Ren:=⟨fun | 6=>181 | 8=>237 | 9=>238 | 11=>280 | 13=>95 | 12=>281 | 23=>152 | 24=>153 | 14=>305 | 15=>306 | 16=>307 | 17=>308 | 18=>309 | 19=>310 | 20=>311 | 21=>312 | 22=>313 | 25=>325 | 26=>201 | 27=>202 | 28=>326 | 29=>327 | 30=>96 | 31=>333 | n=>n,fun | 26=>9 | 28=>276 | 24=>38 | 0=>0 | 3=>3 | 37=>190 | 48=>230 | 50=>173 | 4=>4 | 40=>254 | 39=>253 | 45=>90 | 5=>5 | 9=>9 | 51=>298 | 55=>302 | 57=>345 | 58=>346 | 33=>43 | n=>n,fun | n=>n⟩
theorem Tryz.sortedS:Go.Proofs.SlLaysZ.n6 prog Tryz.sortedS_ren:={
 mixed:=by kernel_rfl
 f6:=⟨Tryz.f181.name,by decide,func181.trans (congrArg some (by kernel_rfl))⟩
 f8:=⟨Tryz.f237.name,by decide,func237.trans (congrArg some (by kernel_rfl))⟩
 f11:=⟨Tryz.f280.name,by decide,func280.trans (congrArg some (by kernel_rfl))⟩
 t0:=underlying0
 a0:=isAgg0
 z0:=sizeOf0
 v0:=zeroValue0
 t24:=underlying38
 a24:=isAgg38
 z24:=sizeOf38
 v24:=zeroValue38
 t26:=underlying9
 a26:=isAgg9
 z26:=sizeOf9
 v26:=zeroValue9
 t28:=underlying276
 a28:=isAgg276
 z28:=sizeOf276
 v28:=zeroValue276
 i26:=by kernel_rfl }
def Tryz.sortS_ren:Go.Shelf.Ren:=⟨fun | 6=>238 | 8=>95 | 9=>281 | 19=>152 | 20=>153 | 21=>305 | 22=>306 | 23=>307 | 24=>308 | 25=>309 | 26=>310 | 27=>311 | 28=>312 | 29=>313 | 36=>325 | 31=>201 | 32=>202 | 37=>326 | 38=>327 | 39=>96 | 41=>333 | n=>n,fun | 27=>38 | 29=>9 | 3=>3 | 32=>190 | 26=>38 | 0=>0 | 44=>230 | 46=>173 | 4=>4 | 36=>254 | 35=>253 | 41=>90 | 5=>5 | 9=>9 | 53=>298 | 57=>302 | 63=>345 | 64=>346 | n=>n,fun | n=>n⟩
theorem Tryz.sortS:Go.Proofs.SlLaysM.n6 prog Tryz.sortS_ren:={
 mixed:=by kernel_rfl
 f6:=⟨Tryz.f238.name,by decide,func238.trans (congrArg some (by kernel_rfl))⟩
 f8:=func95.trans (congrArg some (by kernel_rfl))
 f9:=⟨Tryz.f281.name,by decide,func281.trans (congrArg some (by kernel_rfl))⟩
 f19:=func152.trans (congrArg some (by kernel_rfl))
 f20:=func153.trans (congrArg some (by kernel_rfl))
 f21:=⟨Tryz.f305.name,by decide,func305.trans (congrArg some (by kernel_rfl))⟩
 f22:=⟨Tryz.f306.name,by decide,func306.trans (congrArg some (by kernel_rfl))⟩
 f23:=⟨Tryz.f307.name,by decide,func307.trans (congrArg some (by kernel_rfl))⟩
 f24:=⟨Tryz.f308.name,by decide,func308.trans (congrArg some (by kernel_rfl))⟩
 f25:=⟨Tryz.f309.name,by decide,func309.trans (congrArg some (by kernel_rfl))⟩
 f26:=⟨Tryz.f310.name,by decide,func310.trans (congrArg some (by kernel_rfl))⟩
 f27:=⟨Tryz.f311.name,by decide,func311.trans (congrArg some (by kernel_rfl))⟩
 f28:=⟨Tryz.f312.name,by decide,func312.trans (congrArg some (by kernel_rfl))⟩
 f29:=⟨Tryz.f313.name,by decide,func313.trans (congrArg some (by kernel_rfl))⟩
 f31:=func201.trans (congrArg some (by kernel_rfl))
 f32:=func202.trans (congrArg some (by kernel_rfl))
 f36:=⟨Tryz.f325.name,by decide,func325.trans (congrArg some (by kernel_rfl))⟩
 f37:=⟨Tryz.f326.name,by decide,func326.trans (congrArg some (by kernel_rfl))⟩
 f38:=⟨Tryz.f327.name,by decide,func327.trans (congrArg some (by kernel_rfl))⟩
 f39:=⟨Tryz.f96.name,by decide,func96.trans (congrArg some (by kernel_rfl))⟩
 f41:=⟨Tryz.f333.name,by decide,func333.trans (congrArg some (by kernel_rfl))⟩
 t0:=underlying0
 a0:=isAgg0
 z0:=sizeOf0
 v0:=zeroValue0
 t3:=underlying3
 a3:=isAgg3
 z3:=sizeOf3
 v3:=zeroValue3
 t4:=underlying4
 a4:=isAgg4
 z4:=sizeOf4
 v4:=zeroValue4
 t5:=underlying5
 a5:=isAgg5
 z5:=sizeOf5
 v5:=zeroValue5
 t9:=underlying9
 a9:=isAgg9
 z9:=sizeOf9
 v9:=zeroValue9
 t26:=underlying38
 a26:=isAgg38
 z26:=sizeOf38
 v26:=zeroValue38
 t27:=underlying38
 a27:=isAgg38
 z27:=sizeOf38
 v27:=zeroValue38
 t29:=underlying9
 a29:=isAgg9
 z29:=sizeOf9
 v29:=zeroValue9
 t32:=underlying190
 a32:=isAgg190
 z32:=sizeOf190
 v32:=zeroValue190
 t35:=underlying253
 a35:=isAgg253
 z35:=sizeOf253
 v35:=zeroValue253
 t36:=underlying254
 a36:=isAgg254
 z36:=sizeOf254
 v36:=zeroValue254
 t41:=underlying90
 a41:=isAgg90
 z41:=sizeOf90
 v41:=zeroValue90
 t44:=underlying230
 a44:=isAgg230
 z44:=sizeOf230
 v44:=zeroValue230
 t46:=underlying173
 a46:=isAgg173
 z46:=sizeOf173
 v46:=zeroValue173
 t53:=underlying298
 a53:=isAgg298
 z53:=sizeOf298
 v53:=zeroValue298
 t57:=underlying302
 a57:=isAgg302
 z57:=sizeOf302
 v57:=zeroValue302
 t63:=underlying345
 a63:=isAgg345
 z63:=sizeOf345
 v63:=zeroValue345
 t64:=underlying346
 a64:=isAgg346
 z64:=sizeOf346
 v64:=zeroValue346 }
def Tryz.keysP_ren:Go.Shelf.Ren:=⟨fun | 7=>303 | 10=>323 | n=>n,fun | 23=>324 | 26=>9 | 3=>359 | 28=>276 | 0=>0 | 27=>275 | 33=>43 | 4=>4 | n=>n,fun | n=>n⟩
theorem Tryz.keysP:Go.Proofs.SlLaysZ.n7 prog Tryz.keysP_ren:={
 mixed:=by kernel_rfl
 f7:=⟨Tryz.f303.name,by decide,func303.trans (congrArg some (by kernel_rfl))⟩
 f10:=⟨Tryz.f323.name,by decide,func323.trans (congrArg some (by kernel_rfl))⟩
 t0:=underlying0
 a0:=isAgg0
 z0:=sizeOf0
 v0:=zeroValue0
 t4:=underlying4
 a4:=isAgg4
 z4:=sizeOf4
 v4:=zeroValue4
 t23:=underlying324
 a23:=isAgg324
 z23:=sizeOf324
 v23:=zeroValue324
 t26:=underlying9
 a26:=isAgg9
 z26:=sizeOf9
 v26:=zeroValue9
 t27:=underlying275
 a27:=isAgg275
 z27:=sizeOf275
 v27:=zeroValue275
 t28:=underlying276
 a28:=isAgg276
 z28:=sizeOf276
 v28:=zeroValue276
 t33:=underlying43
 a33:=isAgg43
 z33:=sizeOf43
 v33:=zeroValue43 }
def Tryz.cloneM_ren:Go.Shelf.Ren:=⟨fun | 5=>234 | 7=>278 | n=>n,fun | 23=>282 | 25=>9 | 3=>3 | 4=>4 | 20=>20 | n=>n,fun | n=>n⟩
theorem Tryz.cloneM:Go.Proofs.SlLaysW.n5 prog Tryz.cloneM_ren:={
 mixed:=by kernel_rfl
 f5:=⟨Tryz.f234.name,by decide,func234.trans (congrArg some (by kernel_rfl))⟩
 f7:=func278.trans (congrArg some (by kernel_rfl))
 t4:=underlying4
 a4:=isAgg4
 z4:=sizeOf4
 v4:=zeroValue4
 t20:=underlying20
 a20:=isAgg20
 z20:=sizeOf20
 v20:=zeroValue20
 t23:=underlying282
 a23:=isAgg282
 z23:=sizeOf282
 v23:=zeroValue282 }
end Go.Proofs
namespace Go.Proofs.YticfcmdjplmaeaaGreatDoor
open _root_.Go.Proofs.Tryz
open Go.RowKit Go.Maps Go.Sort Go.Shelf
theorem clone_nmp {w:World} {b:Nat} {F:Vt} (h:NMp w b F) :
  Calls prog 234 #[.map (some b)] w fun e w'=>e=.returned (.map (some w.heap.size))/\NMp w' w.heap.size F/\Mod No w w':=by
 obtain ⟨D,h1,h3⟩:=h.row;have hc:=AnyW.maps_Clone_owns Tryz.cloneM 9 heldR b (Maps.size D) D w h1;change Calls prog 234 _ _ _ at hc
 refine hc.mono ?_;rintro e w' ⟨rfl,ho,-,hb⟩;exact ⟨rfl,⟨D,ho,h3⟩,Mod.of_below hb⟩
theorem sortsN (m:Nat):AnyZ.SortsIn prog Tryz.sortedS_ren Fence.wide m :=
 ⟨fun blk off cap ss W hH hblk hsz=>callsIn_wide.2 (AnyM.slices_Sort_string Tryz.sortS blk off cap ss W hH hblk hsz),
  fun p cap W=>callsIn_wide.2 (AnyM.slices_Sort_string_none Tryz.sortS p cap W)⟩
theorem nkeys_sorted {w:World} {b:Nat} {F:Vt} {D:DataW Value} {ss:List (List UInt8)} (d1:Mp w 9 b D) (d3:Says D F) (hs:ss.Perm (strKeys D)) :
  Asc (ss.mergeSort (fun x y=>decide (x<=y)))/\(∀ k,k ∈ ss.mergeSort (fun x y=>decide (x<=y)) ↔ F k ≠ none)/\(ss.mergeSort (fun x y=>decide (x<=y))).length=ss.length:=by
 obtain ⟨h1,h2,-⟩:=says_keys d1 d3;have hperm:=(List.mergeSort_perm ss (fun x y:List UInt8=>decide (x<=y))).trans hs;have tr:∀ a b c:List UInt8,decide (a<=b)=true->decide (b<=c)=true->decide (a<=c)=true:=fun a b c h1 h2=>by simp only [decide_eq_true_eq] at *;exact List.le_trans h1 h2
 have hto:∀ a b:List UInt8,(decide (a<=b) || decide (b<=a))=true:=fun a b=>by simp only [Bool.or_eq_true,decide_eq_true_eq];exact List.le_total a b
 have hp:=List.pairwise_mergeSort tr hto ss;have hn:=hperm.nodup_iff.2 h1;refine ⟨?_,fun k=>?_,by simp⟩
 ·refine (hp.and hn).imp fun {a b} h=>?_
  obtain ⟨h3,h4⟩:=h;have h5:a<=b:=by simpa using h3
  exact Decidable.byContradiction fun h6=>h4 (List.le_antisymm h5 (List.not_lt.1 h6))
 ·rw [hperm.mem_iff,h2];cases F k <;> simp
theorem keysN_any (mb:Option Nat) (w:World) :
  Calls prog 182 #[.map mb] w fun e w'=>e=.returned (.func (.func 239) #[] #[.pointer (some ⟨w.heap.size,0,none⟩)])/\w'=w.alloc (.cells #[.map mb] 282) :=
 callsIn_wide.1 (AnyZ.keys_in Tryz.keysS Fence.wide 5 trivial rfl mb w)
theorem sortedN_any (b:Nat) (F:Vt) (w:World) (h:NMp w b F) {names:List (List UInt8)} (hn:∀ k,F k ≠ none->k ∈ names) (hl:names.length<=1000000) :
  Calls prog 181 #[.func (.func 239) #[] #[.pointer (some ⟨w.heap.size,0,none⟩)]] (w.alloc (.cells #[.map (some b)] 282)) fun e w' =>
   ∃ (v:Value) (ks:List (List UInt8)),e=.returned v/\Asc ks/\(∀ k,k ∈ ks ↔ F k ≠ none)/\ks.length<=names.length/\Sl w' No 9 v ks.length (strs ks)/\Mod No w w':=by
 obtain ⟨D,d1,d3⟩:=h.row;have hsz:=says_size d1 d3 hn;have hbl:=World.ownsMap.lt d1;have hseq:SeqGives Fence.wide 2 prog 239 #[.pointer (some ⟨w.heap.size,0,none⟩)] encStr (fun ss=>ss.Perm (strKeys D)) (Maps.size D) (w.alloc (.cells #[.map (some b)] 282)) :=
  AnyZ.keys_gives (ρ:=Tryz.keysS_ren) { Tryz.keysS with } Fence.wide _ trivial rfl (by omega) w.heap.size b _ D _ (by simp) (by simp) (by
   obtain ⟨es,clock,hb,Ft,hs,hD⟩:=d1;exact ⟨es,clock,(Below.heap_alloc _ _ b hbl).trans hb,Ft,hs,hD⟩)
 have cS:=AnyZ.sorted_in Tryz.sortedS Fence.wide 5 trivial trivial trivial trivial rfl (by omega) (sortsN _) (enters_of func238 (by kernel_rfl) rfl) 239 #[.pointer (some ⟨w.heap.size,0,none⟩)] trivial (enters_of func239 (by kernel_rfl) rfl) _ _ (by unfold maxLen;omega) (by omega) _ hseq;change CallsIn _ _ prog 181 _ _ _ at cS
 refine (callsIn_wide.1 cS).mono ?_;rintro e w' ⟨v,ss,rfl,hS,hrow,hnil,hb⟩;obtain ⟨k1,k2,k3⟩:=nkeys_sorted d1 d3 hS;have hrow2:=hrow;rw [World.size_alloc,<- k3] at hrow2;refine ⟨v,_,rfl,k1,k2,?_,Sl.of_own hrow2 (fun _ _ f=>f.elim),((Mod.refl No w).alloc _).trans (Mod.of_below hb)⟩
 rw [k3,hS.length_eq,(says_keys d1 d3).2.2];exact hsz
theorem keysP_any (mb:Option Nat) (w:World) :
  Calls prog 303 #[.map mb] w fun e w'=>e=.returned (.func (.func 323) #[] #[.pointer (some ⟨w.heap.size,0,none⟩)])/\w'=w.alloc (.cells #[.map mb] 324) :=
 callsIn_wide.1 (AnyZ.keys_in Tryz.keysP Fence.wide 5 trivial rfl mb w)
theorem sortedP_any (b:Nat) (F:Vt) (w:World) (h:NMp w b F) {names:List (List UInt8)} (hn:∀ k,F k ≠ none->k ∈ names) (hl:names.length<=1000000) :
  Calls prog 181 #[.func (.func 323) #[] #[.pointer (some ⟨w.heap.size,0,none⟩)]] (w.alloc (.cells #[.map (some b)] 324)) fun e w' =>
   ∃ (v:Value) (ks:List (List UInt8)),e=.returned v/\Asc ks/\(∀ k,k ∈ ks ↔ F k ≠ none)/\ks.length<=names.length/\Sl w' No 9 v ks.length (strs ks)/\Mod No w w':=by
 obtain ⟨D,d1,d3⟩:=h.row;have hsz:=says_size d1 d3 hn;have hbl:=World.ownsMap.lt d1;have hseq:SeqGives Fence.wide 2 prog 323 #[.pointer (some ⟨w.heap.size,0,none⟩)] encStr (fun ss=>ss.Perm (strKeys D)) (Maps.size D) (w.alloc (.cells #[.map (some b)] 324)) :=
  AnyZ.keys_gives (ρ:=Tryz.keysP_ren) { Tryz.keysP with } Fence.wide _ trivial rfl (by omega) w.heap.size b _ D _ (by simp) (by simp) (by
   obtain ⟨es,clock,hb,Ft,hs,hD⟩:=d1;exact ⟨es,clock,(Below.heap_alloc _ _ b hbl).trans hb,Ft,hs,hD⟩)
 have cS:=AnyZ.sorted_in Tryz.sortedS Fence.wide 5 trivial trivial trivial trivial rfl (by omega) (sortsN _) (enters_of func238 (by kernel_rfl) rfl) 323 #[.pointer (some ⟨w.heap.size,0,none⟩)] trivial (enters_of func323 (by kernel_rfl) rfl) _ _ (by unfold maxLen;omega) (by omega) _ hseq;change CallsIn _ _ prog 181 _ _ _ at cS
 refine (callsIn_wide.1 cS).mono ?_;rintro e w' ⟨v,ss,rfl,hS,hrow,hnil,hb⟩;obtain ⟨k1,k2,k3⟩:=nkeys_sorted d1 d3 hS;have hrow2:=hrow;rw [World.size_alloc,<- k3] at hrow2;refine ⟨v,_,rfl,k1,k2,?_,Sl.of_own hrow2 (fun _ _ f=>f.elim),((Mod.refl No w).alloc _).trans (Mod.of_below hb)⟩
 rw [k3,hS.length_eq,(says_keys d1 d3).2.2];exact hsz
end Go.Proofs.YticfcmdjplmaeaaGreatDoor
namespace Go.Proofs.YticfcmdjplmaeaaGreatDoor
open _root_.Go.Proofs.Tryz
open Go.RowKit Go.Maps
def NxSt (g:Sg) (fx:Fix) (c:Chs) (A:List UInt8->List SnX) (B:Nat) (ks:List (List UInt8)) (k:Nat) (q5 q6 q7:Value) (wr:World):Prop :=
 (q5=.string ⟨#[]⟩/\q6=.slice none 0 0/\q7=.bool false/\∀ i (hi:i < ks.length),i < k->c ks[i] ≠ none\/A ks[i]=[]) ∨
 ∃ n v,q5=strV n/\q6=v/\q7=.bool true/\A n ≠ []/\c n=none/\n.length<=1000000/\wr.ownsRow B 3 1 v (mayL g.xl fx (spA A) n).length ((mayL g.xl fx (spA A) n).map intV)
theorem NxSt.keep {g:Sg} {fx:Fix} {c:Chs} {A:List UInt8->List SnX} {B:Nat} {ks:List (List UInt8)} {k:Nat} {q5 q6 q7:Value} {wr w2:World} (h:NxSt g fx c A B ks k q5 q6 q7 wr) (hm:Mod No wr w2)
  (hk:∀ (hi:k < ks.length),c ks[k] ≠ none\/A ks[k]=[]\/q7=.bool true):NxSt g fx c A B ks (k+1) q5 q6 q7 w2:=by
 rcases h with ⟨h1,h2,h3,h4⟩ | ⟨n,v,h1,h2,h3,h4,h5,h6,h7⟩
 ·refine .inl ⟨h1,h2,h3,fun i hi hik=>?_⟩
  rcases Nat.lt_or_ge i k with h | h
  ·exact h4 i hi h
  ·obtain rfl:i=k:=by omega
   rcases hk hi with h | h | h
   ·exact .inl h
   ·exact .inr h
   ·rw [h3] at h;cases h
 ·exact .inr ⟨n,v,h1,h2,h3,h4,h5,h6,own_keepM h7 hm (fun _ _ f=>f)⟩
theorem mayL_le (xl:List Rw) (fx:Fix) (A:List UInt8->List Spn) (n:List UInt8):(mayL xl fx A n).length<=xl.length:=Nat.le_trans (List.length_filter_le _ _) (rowsN_le xl n)
theorem nextq_any {g:Sg} (hg:g.Ok) {fx:Fix} {c:Chs} {A:List UInt8->List SnX} (w:World) (hw:SrAt w g fx c A) (hroom:∀ k,(A k).length<=1000000) :
  Calls prog 276 #[.pointer (some ⟨g.sb,0,none⟩)] w fun e w'=>((e=.returned (.tuple #[.string ⟨#[]⟩,.slice none 0 0,.bool false])/\∀ n,A n ≠ []->c n ≠ none) ∨
   ∃ n v,e=.returned (.tuple #[strV n,v,.bool true])/\A n ≠ []/\c n=none/\n.length<=1000000/\w'.ownsRow w.heap.size 3 1 v (mayL g.xl fx (spA A) n).length ((mayL g.xl fx (spA A) n).map intV))/\Mod No w w':=by
 refine calls_hide fun R hR=>?_
 obtain ⟨F,ha1,ha2⟩:=hw.asked;have HKY:=zh (keysP_any (some g.ab) w);have HSO:=zh (sortedP_any g.ab F w ha1.map ha2 (by have:=hg.names;omega));have o5:=cell_ofA hw.fix.obj (i:=5) (v:=.map (some g.ab)) rfl;have HW:=zh hw;have HG:=zh hg;have HRM:=zh hroom;have HA1:=zh ha1;have HA2:=zh ha2;clear hw hg hroom ha1 ha2;go_enter func276,ntmps276
 go_wp2_with fail
 with_reducible refine HKY.out.mono ?_
 rintro e w1 ⟨rfl,rfl⟩;go_wp2_with fail
 with_reducible refine HSO.out.mono ?_
 rintro e w2 ⟨kv,ks,rfl,hasc,hkm,hkl,hksl,hm2⟩;obtain ⟨ka,kc,hkv⟩:=hksl.len;subst hkv;have hkn:=HG.out.names;have hks:ks.length<=1000000:=by omega
 have HKL:=zh hksl;have HKM:=zh hkm;have HM2:=zh hm2;clear hasc hkm hkl hksl hm2 HKY HSO o5 hkn;go_wp2_with fail
 go_loopw [5,6,7,20] (fun q5 q6 q7 q20 wr=>∃ k:Nat,k<=ks.length/\q20=.int .i64 (k:Int)/\Mod No w wr/\Mod No w2 wr/\NxSt g fx c A w.heap.size ks k q5 q6 q7 wr) (fun _ _ _ q _=>ks.length - (intOf q).toNat)
 case atStart=>exact ⟨0,by omega,rfl,HM2.out,Mod.refl _ _,.inl ⟨rfl,rfl,rfl,fun i _ h=>absurd h (by omega)⟩⟩
 case round =>
  obtain ⟨k,hk,rfl,hmod,hmod2,hst⟩:=hrel;have HM:=zh hmod;have HM3:=zh hmod2;have HST:=zh hst;have hk0:(0:Int)<=(k:Int):=Int.natCast_nonneg _;clear hmod hmod2;by_cases hlt:k < ks.length
  ·have hk1:(k:Int) < (ks.length:Int):=by omega
   obtain ⟨b,o,c2,hvs,_⟩:=HKL.out.shape (by omega);cases hvs
   have hcell:=HM3.out.cell (HKL.out.cellN (i:=k) (by unfold strs;rw [List.length_map];exact hlt)) (fun f=>f);rw [show (strs ks)[k]'(by unfold strs;rw [List.length_map];exact hlt)=strV ks[k] from by unfold strs;simp] at hcell;have hin:ks[k] ∈ g.names:=HA2.out _ ((HKM.out _).1 (List.getElem_mem hlt));have HNL:=zh (HG.out.nlen _ hin);have HKP:=zh (show ∀ W:World,Mod No wr W->(c ks[k] ≠ none\/A ks[k]=[]\/u7=.bool true)->NxSt g fx c A w.heap.size ks (k+1) u5 u6 u7 W from fun _ hm h=>HST.out.keep hm (fun _=>h));generalize hn:ks[k]=n at *;obtain ⟨NM,hNM⟩:∃ b:ByteArray,b=⟨n.toArray⟩:=⟨_,rfl⟩
   have HNMB:=zh hNM;have hlc:=(HW.out.chosen.keep HM.out (fun f=>f)).look (t:=282) (z:=.int .i64 0) underlying282 (by kernel_rfl) n (by have:=HNL.out;omega);have hla:=(HA1.out.map.keep HM.out (fun f=>f)).get (t:=324) (z:=.slice none 0 0) underlying324 (by kernel_rfl) n (by have:=HNL.out;omega);have hrow:=HA1.out.row0 n;obtain ⟨sa,sc,hsv⟩:=own_len hrow;rw [hsv,<- HNMB.out] at hla;unfold strV at hcell;rw [<- HNMB.out] at hlc hcell;have o4:=cell_ofA (HM.out.keep HW.out.fix.obj (fun f=>f)) (i:=4) (v:=.map (some g.cb)) rfl;have o5:=cell_ofA (HM.out.keep HW.out.fix.obj (fun f=>f)) (i:=5) (v:=.map (some g.ab)) rfl;have HRN:=zh (HRM.out n);obtain ⟨an,han⟩:∃ an,an=(A n).length:=⟨_,rfl⟩
   rw [<- han] at hla HRN;have HAN:=zh han;have hra:=HRN.out;clear hrow hsv hNM hin hst han hn;rcases cho_look c n with ⟨h1,h2,h3⟩ | ⟨r,h1,h2,h3⟩
   ·rw [h2,h3] at hlc;have HC1:=zh h1;clear h1 h2 h3;rcases Nat.eq_zero_or_pos an with rfl | hpos
    ·have HE:=zh (HKP.out wr (Mod.refl _ _) (.inr (.inl (List.length_eq_zero_iff.1 HAN.out.symm))));go_wp2_with fail
     exact ⟨⟨k+1,(by omega),rfl,HM.out,HM3.out,HE.out⟩,by show ks.length - ((k:Int)+1).toNat < ks.length - (k:Int).toNat;omega⟩
    ·have han0:((an:Int) == 0)=false:=by simp;omega
     have HAN2:=zh (show A n ≠ [] from fun e=>by have:=HAN.out;rw [e] at this;simp at this;omega);have HMY:=zh (may_any HG.out (fx:=fx) (c:=c) n HNL.out wr (HW.out.no HG.out HM.out) HRM.out);have hml:=mayL_le g.xl fx (spA A) n;rw [List.length_map] at hml;have hfw:=HG.out.few;unfold strV at HMY;rw [<- HNMB.out] at HMY;go_wp2_with fail
     with_reducible refine HMY.out.mono ?_
     rintro e w3 ⟨⟨v,rfl,hown⟩,hm3⟩;have HO:=zh (own_plus hown HM.out.size);have HM4:=zh (HM.out.trans hm3);have HM5:=zh (HM3.out.trans hm3);have HM6:=zh hm3;obtain ⟨va,vc,hvv⟩:=own_len hown;subst hvv;obtain ⟨M,hM⟩:∃ M,M=(mayL g.xl fx (spA A) n).length:=⟨_,rfl⟩
     have HTK:=zh (show NxSt g fx c A w.heap.size ks (k+1) (strV n) (.slice va (mayL g.xl fx (spA A) n).length vc) (.bool true) w3 from .inr ⟨n,_,rfl,rfl,rfl,HAN2.out,HC1.out,HNL.out,HO.out⟩);rw [<- hM] at HTK hml ⊢;unfold strV at HTK;rw [<- HNMB.out] at HTK;have hm1:(M:Int)<=20:=by omega
     have hm0:(0:Int)<=(M:Int):=Int.natCast_nonneg _;clear hown hm3 HMY hlc hla o4 o5 hcell hM han0;rcases HST.out with ⟨h1,h2,h3,h4⟩ | ⟨n',v',h1,h2,h3,h4,h5,h6,h7⟩
     ·subst h1 h2 h3;clear h4;go_wp2_with fail
      exact ⟨⟨k+1,(by omega),rfl,HM4.out,HM5.out,HTK.out⟩,by show ks.length - ((k:Int)+1).toNat < ks.length - (k:Int).toNat;omega⟩
     ·have HE:=zh (HKP.out _ HM6.out (.inr (.inr h3)));have hml2:=mayL_le g.xl fx (spA A) n';rw [List.length_map] at hml2;obtain ⟨wa,wc,hwv⟩:=own_len h7;subst h2;rw [hwv] at HE;subst h1 h3;obtain ⟨M',hM'⟩:∃ M',M'=(mayL g.xl fx (spA A) n').length:=⟨_,rfl⟩
      rw [<- hM'] at hml2 hwv HE;subst hwv;have hm2:(M':Int)<=20:=by omega
      have hm3:(0:Int)<=(M':Int):=Int.natCast_nonneg _;clear h4 h5 h6 h7 hM' hml2;by_cases hcmp:(M:Int) < (M':Int)
      ·go_wp2_with fail
       exact ⟨⟨k+1,(by omega),rfl,HM4.out,HM5.out,HTK.out⟩,by show ks.length - ((k:Int)+1).toNat < ks.length - (k:Int).toNat;omega⟩
      ·go_wp2_with fail
       exact ⟨⟨k+1,(by omega),rfl,HM4.out,HM5.out,HE.out⟩,by show ks.length - ((k:Int)+1).toNat < ks.length - (k:Int).toNat;omega⟩
   ·rw [h2,h3] at hlc;have HE:=zh (HKP.out wr (Mod.refl _ _) (.inl (by rw [h1];simp)));clear h1 h2 h3;go_wp2_with fail
    exact ⟨⟨k+1,(by omega),rfl,HM.out,HM3.out,HE.out⟩,by show ks.length - ((k:Int)+1).toNat < ks.length - (k:Int).toNat;omega⟩
  ·obtain rfl:k=ks.length:=by omega
   rcases hst with ⟨h1,h2,h3,h4⟩ | ⟨n',v',h1,h2,h3,h4,h5,h6,h7⟩
   ·subst h1 h2 h3;have HE:=zh (show ∀ n,A n ≠ []->c n ≠ none from fun n hn=>by
     have hF:F n ≠ none:=fun e=>hn (HA1.out.no n e)
     obtain ⟨i,hi,rfl⟩:=List.getElem_of_mem ((HKM.out n).2 hF);rcases h4 i hi hi with h | h
     ·exact h
     ·exact absurd h hn)
    clear h4;go_wp2_with fail
    exact bodyPost_ret (results_tmp3 rfl _ _ _) rfl (fin hR ⟨.inl ⟨rfl,HE.out⟩,HM.out⟩)
   ·have HE:=zh (And.intro h4 (And.intro h5 (And.intro h6 h7)));subst h1 h2 h3;clear h4 h5 h6 h7;go_wp2_with fail
    exact bodyPost_ret (results_tmp3 rfl _ _ _) rfl (fin hR ⟨.inr ⟨n',_,rfl,HE.out.1,HE.out.2.1,HE.out.2.2.1,HE.out.2.2.2⟩,HM.out⟩)
end Go.Proofs.YticfcmdjplmaeaaGreatDoor
