/-
  Layers 0 to 14: helps of the laws of indexes. No statement is proved here; no condition.
-/
import Derived.Test.YtmppeipgjcjdkaaGreatDoorW00
import Derived.Maps.Own
import Derived.Maps.OwnOps
import Derived.Maps.OwnSet
import Derived.Maps.RangeWalk
namespace Go.Proofs.YtmppeipgjcjdkaaGreatDoor
open _root_.Go.Proofs.Tryz
open Go.RowKit Go.Maps
def heldR:Value->Option (DataW Value × List MemPlace):=fun v=>some (.held v,[])
def Mp (w:World) (k:TypeId) (b:Nat) (D:DataW Value):Prop:=w.ownsMap prog k heldR b (Maps.size D) D
theorem Mp.of_owns {w:World} {k:TypeId} {b n:Nat} {D:DataW Value} (h:w.ownsMap prog k heldR b n D):Mp w k b D:=by
 obtain ⟨es,clock,hb,F,_,rfl⟩:=h
 exact ⟨es,clock,hb,F,by simp [Maps.size,length_sorted],rfl⟩
theorem Mp.heap {w:World} {k:TypeId} {b:Nat} {D:DataW Value} (h:Mp w k b D):∃ es clock,w.heap[b]? = some (.map es clock):=by
 obtain ⟨es,clock,hb,_⟩:=h
 exact ⟨es,clock,hb⟩
theorem Mp.keep {S:Nat->Prop} {w w':World} {k:TypeId} {b:Nat} {D:DataW Value} (h:Mp w k b D) (hm:Mod S w w') (hs:¬ S b):Mp w' k b D:=by
 obtain ⟨es,clock,hb,r⟩:=h
 exact ⟨es,clock,hm.keep hb hs,r⟩
theorem Mp.made (w:World) (k:TypeId):Mp (w.alloc (.map #[] 0)) k w.heap.size (.map []):=World.ownsMap_made w _ _ _
theorem zero_of {w:World} {e:TypeId} {z:Value} (hz:(prog.info? e).bind (·.zero)=some z):(zeroValue e).run prog w=.ok z w:=by
 cases hi:prog.info? e with
 | none=>simp [hi] at hz
 | some i =>
  simp only [hi,Option.bind_some] at hz
  unfold zeroValue typeInfo
  simp [hi,hz]
section
variable {w:World} {t k e:TypeId} {b:Nat} {D:DataW Value} {key:Value} {kl:Lit}
theorem Mp.look_hit {v:Value} {z:Value} (h:Mp w k b D) (K:Keyed prog k) (ht:prog.underlying t=some (.map k e)) (hz:(zeroValue e).run prog w=.ok z w) (hkey:keyOf prog k key=some kl)
  (hh:Maps.has D kl=true) (hat:∀ zd,D.atKey kl zd=.held v):(Instr.lookup t (.map (some b)) key true).run prog w=.ok (.tuple #[v,.bool true]) w:=by
 obtain ⟨v',ps,hrun,hv⟩:=World.ownsMap.look_ok h K ht hz (zd:=.held z) (zp:=[]) rfl hkey
 rw [hh] at hrun
 rw [hat] at hv
 cases hv
 exact hrun
theorem Mp.look_miss {z:Value} (h:Mp w k b D) (K:Keyed prog k) (ht:prog.underlying t=some (.map k e)) (hz:(zeroValue e).run prog w=.ok z w) (hkey:keyOf prog k key=some kl)
  (hh:Maps.has D kl=false):(Instr.lookup t (.map (some b)) key true).run prog w=.ok (.tuple #[z,.bool false]) w:=by
 obtain ⟨v',ps,hrun,hv⟩:=World.ownsMap.look_ok h K ht hz (zd:=.held z) (zp:=[]) rfl hkey
 rw [hh] at hrun
 rw [Maps.atKey_of_not_has hh] at hv
 cases hv
 exact hrun
theorem Mp.get_hit {v:Value} {z:Value} (h:Mp w k b D) (K:Keyed prog k) (ht:prog.underlying t=some (.map k e)) (hz:(zeroValue e).run prog w=.ok z w) (hkey:keyOf prog k key=some kl)
  (hat:∀ zd,D.atKey kl zd=.held v):(Instr.lookup t (.map (some b)) key false).run prog w=.ok v w:=by
 obtain ⟨v',ps,hrun,hv⟩:=World.ownsMap.lookup h K ht hz (zd:=.held z) (zp:=[]) rfl hkey
 rw [hat] at hv
 cases hv
 exact hrun
theorem Mp.get_miss {z:Value} (h:Mp w k b D) (K:Keyed prog k) (ht:prog.underlying t=some (.map k e)) (hz:(zeroValue e).run prog w=.ok z w) (hkey:keyOf prog k key=some kl)
  (hh:Maps.has D kl=false):(Instr.lookup t (.map (some b)) key false).run prog w=.ok z w:=by
 obtain ⟨v',ps,hrun,hv⟩:=World.ownsMap.lookup h K ht hz (zd:=.held z) (zp:=[]) rfl hkey
 rw [Maps.atKey_of_not_has hh] at hv
 cases hv
 exact hrun
theorem mod_of_turned {w w':World} {b:Nat} (h:w.mapTurned w' b):Mod (· = b) w w'/\w'.heap.size=w.heap.size:=by
 refine ⟨Mod.of_grown h.grown (by rintro k ⟨⟩ _;rfl),?_⟩
 obtain ⟨es,clock,es',clock',hb,rfl⟩:=h
 simp [Go.ChangeMaps.setBlock]
theorem Mp.store {val:Value} (h:Mp w k b D) (K:Keyed prog k) (ht:prog.underlying t=some (.map k e)) (hn:Maps.size D < maxLen) (hkey:keyOf prog k key=some kl) :
  ∃ w',(Instr.mapUpdate t (.map (some b)) key val).run prog w=.ok () w'/\Mp w' k b (D.put kl (.held val))/\Mod (· = b) w w'/\w'.heap.size=w.heap.size:=by
 obtain ⟨w',hrun,ho,ht'⟩:=World.ownsMap.store h K ht hn (val:=val) (d:=.held val) (ps:=[]) hkey rfl
 obtain ⟨h1,h2⟩:=mod_of_turned ht'
 exact ⟨w',hrun,Mp.of_owns ho,h1,h2⟩
theorem Mp.drop (h:Mp w k b D) (K:Keyed prog k) (ht:prog.underlying t=some (.map k e)) (hkey:keyOf prog k key=some kl) (ty:TypeId) :
  ∃ w',(Builtin.delete_ #[t,k] ty #[.map (some b),key]).run prog w=.ok (.tuple #[]) w'/\Mp w' k b (D.del kl)/\Mod (· = b) w w'/\w'.heap.size=w.heap.size:=by
 obtain ⟨w',hrun,ho,ht'⟩:=World.ownsMap.drop h K ht hkey ty
 obtain ⟨h1,h2⟩:=mod_of_turned ht'
 exact ⟨w',hrun,Mp.of_owns ho,h1,h2⟩
theorem Mp.clear (h:Mp w k b D) (ht:prog.underlying t=some (.map k e)) :
  ∃ w',(∀ ty,(Builtin.clear_ #[t] ty #[.map (some b)]).run prog w=.ok (.tuple #[]) w')/\Mp w' k b (.map [])/\Mod (· = b) w w'/\w'.heap.size=w.heap.size:=by
 obtain ⟨es,clock,hb,F,_,_⟩:=h
 refine ⟨Go.ChangeMaps.setBlock w b (.map #[] clock),fun ty=>?_,⟨#[],clock,Go.ChangeMaps.heap_setBlock_same hb _,?_,by simp,rfl⟩,?_⟩
 ·simp [Builtin.clear_,run_underlying ht,Go.MapKept.run_getObj_map hb,Go.MapKept.run_setObj_map _ hb,Result.andThen,Go.ChangeMaps.setBlock]
 ·exact ⟨by simp,Go.MapKept.stamped_empty clock,by simp⟩
 ·exact mod_of_turned ⟨es,clock,#[],clock,hb,rfl⟩
theorem Mp.tidy (h:Mp w k b D) (K:Keyed prog k):Tidy D:=World.ownsMap.tidy h K
end
theorem has_iff {es:List (Lit × DataW Value)} {kl:Lit}:Maps.has (.map es) kl=true ↔ ∃ p ∈ es,p.1.sameKey kl=true:=by
 simp [Maps.has_eq,List.any_eq_true]
theorem sameKey_self_int (q:IntKind) (i:Int):(Lit.int q i).sameKey (.int q i)=true:=by simp [Lit.sameKey]
theorem size_le_of_range {D:DataW Value} {q:IntKind} {n:Nat} (hD:Tidy D) (hr:∀ kl,Maps.has D kl=true->∃ i:Nat,i < n/\kl=.int q i) (hs:∀ es,D=.map es->∀ p ∈ es,∃ x:Int,p.1=.int q x):Maps.size D<=n:=by
 obtain ⟨es,rfl,hp⟩:=hD
 have hk:∀ p ∈ es,∃ i:Nat,i < n/\p.1=.int q i:=fun p hpm=>by
  obtain ⟨x,hx⟩:=hs es rfl p hpm
  exact hr p.1 (has_iff.2 ⟨p,hpm,by rw [hx];exact sameKey_self_int q x⟩)
 have hnd:(es.map fun p=>p.1).Nodup:=by
  rw [List.nodup_iff_pairwise_ne,List.pairwise_map]
  exact hp
 have hsub:(es.map fun p=>p.1) ⊆ (List.range n).map fun i:Nat=>Lit.int q i:=by
  intro l hl
  obtain ⟨p,hpm,rfl⟩:=List.mem_map.1 hl
  obtain ⟨i,hi,e⟩:=hk p hpm
  exact List.mem_map.2 ⟨i,List.mem_range.2 hi,e.symm⟩
 have:=hnd.length_le_of_subset hsub
 simpa [Maps.size_eq] using this
theorem ranges_keep {S:Nat->Prop} {w w':World} {k:TypeId} {b r n:Nat} {D:DataW Value} {left:Lit->Bool} {cnt:Nat} (h:w.ranges prog k heldR b r n D left cnt) (hm:Mod S w w') (hb:¬ S b) (hr:¬ S r):w'.ranges prog k heldR b r n D left cnt:=by
 obtain ⟨es,clock,since,seen,c0,h1,h2,h3,h4,h5,h6⟩:=h
 exact ⟨es,clock,since,seen,c0,hm.keep h1 hb,h2,h3,h4,hm.keep h5 hr,h6⟩
theorem info_u8:(prog.info? 5).map (fun i=>(i.zero,i.size,i.bytes))=some (some (.int .u8 0),1,1):=by kernel_rfl
theorem info_bs:(prog.info? 41).map (fun i=>(i.zero,i.size,i.bytes))=some (some (.slice none 0 0),1,24):=by kernel_rfl
set_option maxRecDepth 100000 in
set_option maxHeartbeats 400000 in
theorem clone_bytes (X:Nat->Prop) (v:Value) (l:List Value) (w:World) (h:Sl w X 5 v l.length l) (h1:∀ u ∈ l,u.oneCell'=true) (hsz:l.length<=140737488355328) :
  Calls prog 81 #[v] w fun e w'=>∃ v',e=.returned v'/\w'.ownsRow w.heap.size 5 1 v' l.length l/\(v'=.slice none 0 0 ↔ v=.slice none 0 0)/\Mod No w w':=by
 obtain ⟨i0,hi,hz0,hz1,hz2⟩:=info_parts info_u8
 refine calls_hide fun R hR=>?_
 have H:=zh h
 rcases h with ⟨rfl,hn,hl⟩ | ⟨blk,of,c,cur,fz,rfl,hn,hc,hX,hh,hle,hr⟩
 ·have hl':=zh hl
  clear hn hl
  have e1:=Lib.run_eql_slice_nil (P:=prog)
  go_enter func81,ntmps81
  go_wp2
  refine fin hR ⟨.slice none 0 0,rfl,?_,by simp,Mod.refl _ _⟩
  rw [hl'.out]
  exact World.ownsRow_nil _ _ _ _
 ·clear hh hr hle
  have e1:=Lib.run_eql_slice_nil (P:=prog)
  have hown:(w.alloc (.cells #[] 5)).ownsRow w.heap.size 5 1 (.slice (some ⟨w.heap.size,0,none⟩) 0 0) 0 []:=World.ownsRow_lit w #[] 0 (Nat.le_refl _) (by unfold maxLen;omega) rfl
  have hsl:Sl (w.alloc (.cells #[] 5)) X 5 (.slice (some ⟨blk,of,none⟩) l.length c) l.length l:=H.out.keep (S:=No) ((Mod.refl No w).alloc _) (fun _ _ _ f=>f.elim)
  have HO:=zh hown
  have HS:=zh hsl
  clear hown hsl
  go_enter func81,ntmps81
  go_wp2_with (at_builtin;refine app_sl _ rfl _ _ 41 rfl w.heap.size 5 i0 (.int .u8 0) 1 1 underlying41 hi hz0 hz1 hz2 rfl (by decide) _ _ _ rfl HO.out X 5 _ _ _ rfl HS.out ?_ h1 ?_ ?_ ?_ ?_)
  ·simp
  ·unfold maxLen;omega
  ·omega
  ·simp
  intro v' w1 hown' hg hnil
  have HO':=zh hown'
  have HG:=zh hg
  have HN:=zh hnil
  clear hown' hg hnil
  go_wp2
  refine fin hR ⟨v',rfl,HO'.out,?_,?_⟩
  ·simp [HN.out]
  ·exact ((Mod.refl No w).alloc _).then (Mod.of_grown (S:=fun k=>k=w.heap.size) HG.out (by rintro k ⟨⟩ _;rfl)) (fun i hi e=>by subst e;omega)
structure Dk where
 n:Nat
 sz:Nat
 sure:Nat->List UInt8
 dirty:Nat->Option (List UInt8)
 cut:Int
 dead:Bool
def Dk.last (d:Dk) (i:Nat):List UInt8:=(d.dirty i).getD (d.sure i)
theorem key_int:Keyed prog 3:=int_keyed underlying3
theorem keyOf_nat (i:Nat) (h:i<=9223372036854775807):keyOf prog 3 (.int .i64 (i:Int))=some (.int .i64 (i:Int)) :=
 keyOf_int_mk underlying3 (WalkArith.wf_i64 (by omega))
structure DirtyAt (w:World) (X:Nat->Prop) (mb n sz:Nat) (dirty:Nat->Option (List UInt8)) (D:DataW Value):Prop where
 mp:Mp w 3 mb D
 keys:∀ kl,Maps.has D kl=true->∃ i:Nat,i < n/\kl=.int .i64 (i:Int)
 gone:∀ i,i < n->dirty i=none->Maps.has D (.int .i64 (i:Int))=false
 here:∀ i l,i < n->dirty i=some l->Maps.has D (.int .i64 (i:Int))=true/\∃ v,(∀ zd,D.atKey (.int .i64 (i:Int)) zd=.held v)/\Sl w X 5 v sz (bv l)
structure SureAt (w:World) (X:Nat->Prop) (sb n sz:Nat) (sure:Nat->List UInt8) (cur:Array Value):Prop where
 heap:w.heap[sb]? = some (.cells cur 41 (0,0))
 len:n<=cur.size
 cell:∀ i,i < n->∃ v,cur[i]? = some v/\Sl w X 5 v sz (bv (sure i))
structure DkAt (w:World) (X:Nat->Prop) (b sb mb:Nat) (d:Dk):Prop where
 obj:∃ sc,w.heap[b]? = some (.cells #[.slice (some ⟨sb,0,none⟩) d.n sc,.map (some mb),.int .i64 d.cut,.bool d.dead] 83 (0,0))/\d.n<=sc/\sc<=maxLen
 sure:∃ cur,SureAt w X sb d.n d.sz d.sure cur
 dirty:∃ D,DirtyAt w X mb d.n d.sz d.dirty D
 lenS:∀ i,i < d.n->(d.sure i).length=d.sz
 lenD:∀ i l,i < d.n->d.dirty i=some l->l.length=d.sz
 n1:1<=d.n
 n2:d.n<=4096
 s1:64<=d.sz
 s2:d.sz<=4096
 c1:-1<=d.cut
 c2:d.cut<=9223372036854775807
def Beside (w:World) (X:Nat->Prop) (S:Nat->Prop):Prop:=∀ k,S k->X k\/∀ cur fz,w.heap[k]? ≠ some (.cells cur 5 fz)
theorem Sl.beside {S X:Nat->Prop} {w w':World} {v:Value} {n:Nat} {xs:List Value} (h:Sl w X 5 v n xs) (hm:Mod S w w') (hs:Beside w X S):Sl w' X 5 v n xs :=
 h.keep hm fun k cur fz s nx=>(hs k s).elim (fun x=>absurd x nx) (fun g=>g cur fz)
theorem DirtyAt.keep {S X:Nat->Prop} {w w':World} {mb n sz:Nat} {dirty:Nat->Option (List UInt8)} {D:DataW Value} (h:DirtyAt w X mb n sz dirty D) (hm:Mod S w w') (h1:¬ S mb) (hs:Beside w X S):DirtyAt w' X mb n sz dirty D :=
 ⟨h.mp.keep hm h1,h.keys,h.gone,fun i l hi hd=>let ⟨a,v,e,r⟩:=h.here i l hi hd;⟨a,v,e,r.beside hm hs⟩⟩
theorem SureAt.keep {S X:Nat->Prop} {w w':World} {sb n sz:Nat} {sure:Nat->List UInt8} {cur:Array Value} (h:SureAt w X sb n sz sure cur) (hm:Mod S w w') (h1:¬ S sb) (hs:Beside w X S):SureAt w' X sb n sz sure cur :=
 ⟨hm.keep h.heap h1,h.len,fun i hi=>let ⟨v,e,r⟩:=h.cell i hi;⟨v,e,r.beside hm hs⟩⟩
theorem DkAt.keep {S X:Nat->Prop} {w w':World} {b sb mb:Nat} {d:Dk} (h:DkAt w X b sb mb d) (hm:Mod S w w') (h1:¬ S b) (h2:¬ S sb) (h3:¬ S mb) (hs:Beside w X S):DkAt w' X b sb mb d:=by
 obtain ⟨sc,ho,r⟩:=h.obj
 obtain ⟨cur,hc⟩:=h.sure
 obtain ⟨D,hD⟩:=h.dirty
 exact ⟨⟨sc,hm.keep ho h1,r⟩,⟨cur,hc.keep hm h2 hs⟩,⟨D,hD.keep hm h3 hs⟩,h.lenS,h.lenD,h.n1,h.n2,h.s1,h.s2,h.c1,h.c2⟩
theorem beside_no (w:World) (X:Nat->Prop):Beside w X No:=fun _ f=>f.elim
theorem DkAt.stay {X:Nat->Prop} {w w':World} {b sb mb:Nat} {d:Dk} (h:DkAt w X b sb mb d) (hm:Mod No w w'):DkAt w' X b sb mb d :=
 h.keep hm (fun f=>f) (fun f=>f) (fun f=>f) (beside_no _ _)
theorem DirtyAt.size {X:Nat->Prop} {w:World} {mb n sz:Nat} {dirty:Nat->Option (List UInt8)} {D:DataW Value} (h:DirtyAt w X mb n sz dirty D):Maps.size D<=n:=by
 refine size_le_of_range (q:=.i64) (h.mp.tidy key_int) h.keys fun es hD p hp=>?_
 have h1:=h.keys p.1
 subst hD
 obtain ⟨es',clock,hb,F,_,he⟩:=h.mp
 have hk:=Maps.fit_keys F
 cases he
 have hp':p ∈ es'.toList.map (Go.WideElems.rg prog 3 heldR):=(Go.WideShapes.sorted_perm _).mem_iff.1 hp
 obtain ⟨v,hv⟩:=hk p hp'
 obtain ⟨x,_,hx,_⟩:=Maps.keyOf_int_inv underlying3 hv
 exact ⟨x,hx⟩
theorem DkAt.mb_ne {X:Nat->Prop} {w:World} {b sb mb:Nat} {d:Dk} (h:DkAt w X b sb mb d):b ≠ sb/\b ≠ mb/\sb ≠ mb:=by
 obtain ⟨sc,ho,_⟩:=h.obj
 obtain ⟨cur,hc⟩:=h.sure
 obtain ⟨D,hD⟩:=h.dirty
 obtain ⟨es,clock,hm⟩:=hD.mp.heap
 have hs:=hc.heap
 refine ⟨fun e=>?_,fun e=>?_,fun e=>?_⟩
 ·subst e;rw [ho] at hs;cases hs
 ·subst e;rw [ho] at hm;cases hm
 ·subst e;rw [hs] at hm;cases hm
theorem zero_bs (w:World):(zeroValue 41).run prog w=.ok (.slice none 0 0) w:=zero_of (by kernel_rfl)
set_option maxRecDepth 100000 in
set_option maxHeartbeats 400000 in
theorem read_any (X:Nat->Prop) (b sb mb:Nat) (d:Dk) (i:Int) (w:World) (h:DkAt w X b sb mb d) :
  Calls prog 179 #[.pointer (some ⟨b,0,none⟩),.int .i64 i] w fun e w'=>∃ v,e=.returned (.tuple #[v,.int .i64 (atE d.dead i d.n)])/\Mod No w w' ∧
   (atE d.dead i d.n ≠ 0->v=.slice none 0 0)/\(atE d.dead i d.n=0->w'.ownsRow w.heap.size 5 1 v d.sz (bv (d.last i.toNat))):=by
 obtain ⟨sc,ho,hsc1,hsc2⟩:=h.obj
 obtain ⟨cur,hc⟩:=h.sure
 obtain ⟨D,hD⟩:=h.dirty
 refine calls_hide fun R hR=>?_
 have c0:=cell_of (i:=0) ho rfl
 have c1:=cell_of (i:=1) ho rfl
 have HA:=zh (dat_any b _ _ _ _ _ _ i w ho)
 by_cases hE:atE d.dead i d.n=0
 ·have hi:0<=i/\i < d.n/\d.dead=false:=by
   unfold atE at hE
   split at hE
   ·omega
   ·split at hE
    ·omega
    ·rename_i h1 h2;simp at h1;exact ⟨by omega,by omega,h1⟩
  obtain ⟨k,rfl⟩:=Int.eq_ofNat_of_zero_le hi.1
  have hk:k < d.n:=by omega
  have hkn:d.n<=4096:=h.n2
  have hs2:d.sz<=4096:=h.s2
  rw [hE] at HA hR
  obtain ⟨v,hv,hsl⟩:=hc.cell k hk
  have cs:=cell_ofA hc.heap hv
  have hkey:=keyOf_nat k (by omega)
  have e1:=zh (h.lenS k hk)
  have hlast:=zh (show d.last k=(d.dirty k).getD (d.sure k) from rfl)
  clear hE ho hc hi hv
  cases hd:d.dirty k with
  | none =>
   have hl:=hD.mp.look_miss key_int underlying79 (zero_bs w) hkey (hD.gone k hk hd)
   have HC:=zh (clone_bytes X v (bv (d.sure k)) w (by rw [bv_length,e1.out];exact hsl) (bv_one _) (by rw [bv_length,e1.out];omega))
   have Hd:=zh hd
   clear hkey hD hsl h hd
   go_enter func179,ntmps179
   go_wp2_with (first | (go_at_call 231;refine HA.out.mono ?_;rintro e w' ⟨rfl,rfl⟩) | (go_at_call 81;refine HC.out.mono ?_;rintro e w' ⟨v',rfl,hown,hnil,hm⟩;have HO:=zh hown;have HM:=zh hm;clear hown hnil hm))
   refine fin hR ⟨v',rfl,HM.out,by simp,fun _=>?_⟩
   have:=HO.out
   rw [bv_length,e1.out] at this
   rw [show Int.toNat (k:Int)=k by omega,hlast.out,Hd.out]
   exact this
  | some l =>
   obtain ⟨hh,v2,hat,hsl2⟩:=hD.here k l hk hd
   have hl:=hD.mp.look_hit key_int underlying79 (zero_bs w) hkey hh hat
   have e2:=zh (h.lenD k l hk hd)
   have HC:=zh (clone_bytes X v2 (bv l) w (by rw [bv_length,e2.out];exact hsl2) (bv_one _) (by rw [bv_length,e2.out];omega))
   have Hd:=zh hd
   clear hkey hD hsl h hd hh hat hsl2
   go_enter func179,ntmps179
   go_wp2_with (first | (go_at_call 231;refine HA.out.mono ?_;rintro e w' ⟨rfl,rfl⟩) | (go_at_call 81;refine HC.out.mono ?_;rintro e w' ⟨v',rfl,hown,hnil,hm⟩;have HO:=zh hown;have HM:=zh hm;clear hown hnil hm))
   refine fin hR ⟨v',rfl,HM.out,by simp,fun _=>?_⟩
   have:=HO.out
   rw [bv_length,e2.out] at this
   rw [show Int.toNat (k:Int)=k by omega,hlast.out,Hd.out]
   exact this
 ·clear hc hD h ho c0 c1
  generalize atE d.dead i d.n=E at *
  have h1:(E != 0)=true:=by simpa using hE
  have HE:=zh hE
  clear hE
  go_enter func179,ntmps179
  go_wp2_with (go_at_call 231;refine HA.out.mono ?_;rintro e w' ⟨rfl,rfl⟩)
  exact fin hR ⟨.slice none 0 0,rfl,Mod.refl _ _,fun _=>rfl,fun h=>absurd h HE.out⟩
end Go.Proofs.YtmppeipgjcjdkaaGreatDoor
namespace Go.Proofs.YtmppeipgjcjdkaaGreatDoor
open _root_.Go.Proofs.Tryz
open Go.RowKit
structure WrAt (w:World) (base q:Nat) (v:Value) (L:List UInt8):Prop where
 obj:w.heap[q]? = some (.cells #[v] 230 (0,0))
 own:w.ownsRow base 5 1 v L.length (bv L)
 low:base<=q
theorem WrAt.stay {w w':World} {base q:Nat} {v:Value} {L:List UInt8} (h:WrAt w base q v L) (hm:Mod No w w'):WrAt w' base q v L :=
 ⟨hm.keep h.obj (fun f=>f),own_keepM h.own hm (fun _ _ f=>f),h.low⟩
abbrev From (base k:Nat):Prop:=base<=k
theorem newWriter_any (w:World):Calls prog 76 #[] w fun e w'=>e=.returned (.pointer (some ⟨w.heap.size,0,none⟩))/\WrAt w' w.heap.size w.heap.size (.slice none 0 0) []/\Mod No w w':=by
 refine calls_hide fun R hR=>?_
 go_enter func76,ntmps76
 go_wp2_with fail
 exact fin hR ⟨rfl,⟨heap_alloc_new w _,World.ownsRow_nil _ _ _ _,Nat.le_refl _⟩,(Mod.refl No w).alloc _⟩
def Wm (base q:Nat) (w:World) (k:Nat):Prop:=k=q\/(base<=k/\∃ cur fz,w.heap[k]? = some (.cells cur 5 fz))
theorem Wm.trans {base q:Nat} {a b c:World} (h:Mod (Wm base q a) a b) (k:Mod (Wm base q b) b c):Mod (Wm base q a) a c :=
 h.then k fun i hi e=>by
  rcases e with e | ⟨e1,cur,fz,e2⟩
  ·exact .inl e
  ·by_cases hn:Wm base q a i
   ·exact hn
   ·exact .inr ⟨e1,cur,fz,by rw [<- h.block i hi hn];exact e2⟩
theorem Wm.no {base q:Nat} {a b:World} (h:Mod No a b):Mod (Wm base q a) a b:=h.weaken fun _ _ f=>f.elim
theorem Wm.ofFrom {base q:Nat} {a b:World} (h:Mod (Wm base q a) a b) (hq:base<=q):Mod (From base) a b:=h.weaken fun k _ e=>by
 rcases e with rfl | e
 ·exact hq
 ·exact e.1
theorem WrAt.push {w w':World} {base q:Nat} {v v':Value} {L M:List UInt8} (h:WrAt w base q v L) (hg:w.grownBy w' v.ownBlock) (hown:w'.ownsRow base 5 1 v' (L++M).length (bv (L++M))) :
  WrAt (w'.setCell ⟨q,0,none⟩ v') base q v' (L++M)/\Mod (Wm base q w) w (w'.setCell ⟨q,0,none⟩ v')/\w'.heap[q]? = some (.cells #[v] 230 (0,0)):=by
 have hm:=Mod.of_grown (S:=fun k=>v.ownBlock=some k) hg (fun k e _=>e)
 have hne:¬ v.ownBlock=some q:=fun e=>by
  obtain ⟨cur,hc⟩:=own_heapM h.own e
  rw [h.obj] at hc;cases hc
 have hq':=hm.keep h.obj hne
 have hms:Mod (fun k=>k=q) w' (w'.setCell ⟨q,0,none⟩ v'):=(Mod.refl (fun k=>k=q) w').setCell (fun _=>rfl) _
 refine ⟨⟨by rw [heap_setCell hq'];rfl,own_keepM hown hms (fun k hk e=>?_),h.low⟩,?_,hq'⟩
 ·subst e
  obtain ⟨cur,hc⟩:=own_heapM hown hk
  rw [hq'] at hc;cases hc
 ·exact Wm.trans (hm.weaken fun k _ e=>.inr ⟨(h.own.lt _ e).1,(own_heapM h.own e).imp fun _ h=>⟨_,h⟩⟩) (hms.weaken fun k _ e=>.inl e)
theorem or128 (x:Nat):bits .or .u8 ((x:Int) % 256) 128=((x % 128+128:Nat):Int):=by
 have h1:(x:Int) % 256=((x % 256:Nat):Int):=by omega
 have:∀ y:Fin 256,bits .or .u8 ((y.val:Nat):Int) 128=((y.val % 128+128:Nat):Int):=by decide +kernel
 rw [h1]
 have h2:=this ⟨x % 256,Nat.mod_lt _ (by decide)⟩
 dsimp only at h2
 rw [h2,show x % 256 % 128=x % 128 by omega]
end Go.Proofs.YtmppeipgjcjdkaaGreatDoor
namespace Go.Proofs.YtmppeipgjcjdkaaGreatDoor
open _root_.Go.Proofs.Tryz
open Go.RowKit Go.Maps
def Dk.put (d:Dk) (i:Nat) (l:List UInt8):Dk:={ d with dirty:=fun k=>if k=i then some l else d.dirty k }
def Dk.power (d:Dk):Dk:={ d with cut:=if 0 < d.cut then d.cut - 1 else d.cut,dead:=if d.cut=0 then true else d.dead }
def Dk.writeE (d:Dk) (i:Int) (n:Nat):Int:=if atE d.dead i d.n ≠ 0 then atE d.dead i d.n else if n ≠ d.sz then 31 else if d.cut=0 then 32 else 0
def Dk.write (d:Dk) (i:Int) (l:List UInt8):Dk:=if atE d.dead i d.n ≠ 0\/l.length ≠ d.sz then d else if d.cut=0 then d.power else d.power.put i.toNat l
def Own2 (b mb:Nat):Nat->Prop:=fun k=>k=b\/k=mb
theorem DkAt.turned {X:Nat->Prop} {w w':World} {b sb mb:Nat} {d:Dk} {cut:Int} {dead:Bool} (h:DkAt w X b sb mb d) (hm:Mod (· = b) w w') (h1:-1<=cut) (h2:cut<=9223372036854775807)
  (ho:∀ sc,w.heap[b]? = some (.cells #[.slice (some ⟨sb,0,none⟩) d.n sc,.map (some mb),.int .i64 d.cut,.bool d.dead] 83 (0,0)) →
   w'.heap[b]? = some (.cells #[.slice (some ⟨sb,0,none⟩) d.n sc,.map (some mb),.int .i64 cut,.bool dead] 83 (0,0))) :
  DkAt w' X b sb mb { d with cut:=cut,dead:=dead }:=by
 obtain ⟨hn1,hn2,hn3⟩:=h.mb_ne
 obtain ⟨sc,hobj,r⟩:=h.obj
 have hb:Beside w X (· = b):=fun k hk=>.inr fun cur fz e=>by subst hk;rw [hobj] at e;cases e
 obtain ⟨cur,hc⟩:=h.sure
 obtain ⟨D,hD⟩:=h.dirty
 exact ⟨⟨sc,ho sc hobj,r⟩,⟨cur,hc.keep hm (fun e=>hn1 e.symm) hb⟩,⟨D,hD.keep hm (fun e=>hn2 e.symm) hb⟩,h.lenS,h.lenD,h.n1,h.n2,h.s1,h.s2,h1,h2⟩
theorem lit_int_ne {i j:Nat} (h:j ≠ i):Lit.int .i64 (j:Int) ≠ .int .i64 (i:Int):=fun e=>by
 injection e with _ e
 omega
theorem isKey_int (i:Int):WideAt.IsKeyLit (.int .i64 i):=by
 simp [WideAt.IsKeyLit]
theorem DirtyAt.put {X:Nat->Prop} {w w':World} {mb n sz:Nat} {dirty:Nat->Option (List UInt8)} {D:DataW Value} {i:Nat} {v:Value} {l:List UInt8} (h:DirtyAt w X mb n sz dirty D) (hi:i < n)
  (hm:Mp w' 3 mb (D.put (.int .i64 (i:Int)) (.held v))) (hmod:Mod (· = mb) w w') (hb:Beside w X (· = mb)) (hv:Sl w X 5 v sz (bv l)) :
  DirtyAt w' X mb n sz (fun k=>if k=i then some l else dirty k) (D.put (.int .i64 (i:Int)) (.held v)):=by
 have hD:IsMap D:=(h.mp.tidy key_int).isMap
 refine ⟨hm,fun kl hk=>?_,fun k hk hd=>?_,fun k l' hk hd=>?_⟩
 ·by_cases e:kl=.int .i64 (i:Int)
  ·exact ⟨i,hi,e⟩
  ·rw [has_put_other e] at hk
   exact h.keys kl hk
 ·by_cases e:k=i
  ·simp [e] at hd
  ·simp only [if_neg e] at hd
   rw [has_put_other (lit_int_ne e)]
   exact h.gone k hk hd
 ·by_cases e:k=i
  ·subst e
   simp only [if_true] at hd
   cases hd
   exact ⟨has_put_same hD (isKey_int _) _,v,fun zd=>atKey_put_same hD (isKey_int _) _ zd,hv.beside hmod hb⟩
  ·simp only [if_neg e] at hd
   obtain ⟨a,v',e',r⟩:=h.here k l' hk hd
   refine ⟨by rw [has_put_other (lit_int_ne e)];exact a,v',fun zd=>?_,r.beside hmod hb⟩
   rw [atKey_put_other (lit_int_ne e)]
   exact e' zd
theorem Dk.write_err {d:Dk} {i:Int} {l:List UInt8} (h:atE d.dead i d.n ≠ 0):d.write i l=d/\d.writeE i l.length=atE d.dead i d.n:=by
 simp [Dk.write,Dk.writeE,h]
theorem Dk.write_len {d:Dk} {i:Int} {l:List UInt8} (h:atE d.dead i d.n=0) (hl:l.length ≠ d.sz):d.write i l=d/\d.writeE i l.length=31:=by
 simp [Dk.write,Dk.writeE,h,hl]
theorem Dk.write_dead {d:Dk} {i:Int} {l:List UInt8} (h:atE d.dead i d.n=0) (hl:l.length=d.sz) (hc:d.cut=0):d.write i l=d.power/\d.writeE i l.length=32:=by
 simp [Dk.write,Dk.writeE,h,hl,hc]
theorem Dk.write_ok {d:Dk} {i:Int} {l:List UInt8} (h:atE d.dead i d.n=0) (hl:l.length=d.sz) (hc:d.cut ≠ 0):d.write i l=d.power.put i.toNat l/\d.writeE i l.length=0:=by
 simp [Dk.write,Dk.writeE,h,hl,hc]
theorem atE_ok {dead:Bool} {i:Int} {n:Nat} (hE:atE dead i n=0):0<=i/\i < n/\dead=false:=by
 unfold atE at hE
 split at hE
 ·omega
 ·split at hE
  ·omega
  ·rename_i h1 h2
   simp at h1
   exact ⟨by omega,by omega,h1⟩
set_option maxRecDepth 100000 in
set_option maxHeartbeats 800000 in
theorem write_any (X Y:Nat->Prop) (b sb mb:Nat) (d:Dk) (i:Int) (v:Value) (l:List UInt8) (w:World) (h:DkAt w X b sb mb d) (hv:Sl w Y 5 v l.length (bv l)) (hlen:l.length<=140737488355328)
  (hX:∀ k,X k->k < w.heap.size) :
  Calls prog 201 #[.pointer (some ⟨b,0,none⟩),.int .i64 i,v] w fun e w'=>e=.returned (.int .i64 (d.writeE i l.length))/\DkAt w' X b sb mb (d.write i l)/\Mod (Own2 b mb) w w':=by
 obtain ⟨hn1,hn2,hn3⟩:=h.mb_ne
 obtain ⟨sc,ho,hsc1,hsc2⟩:=h.obj
 obtain ⟨cur,hc⟩:=h.sure
 refine calls_hide fun R hR=>?_
 have HA:=zh (dat_any b _ _ _ _ _ _ i w ho)
 by_cases hE:atE d.dead i d.n=0
 ·obtain ⟨hi1,hi2,hdead⟩:=atE_ok hE
  obtain ⟨k,rfl⟩:=Int.eq_ofNat_of_zero_le hi1
  have hn0:0 < d.n:=by have:=h.n1;omega
  obtain ⟨v0,hv0,hs0⟩:=hc.cell 0 hn0
  obtain ⟨a0,c0,rfl⟩:∃ a c,v0=.slice a d.sz c:=by
   rcases hs0 with ⟨rfl,hz,_⟩ | ⟨blk,o,c,_,_,rfl,_⟩
   ·have:=h.s1;omega
   ·exact ⟨_,_,rfl⟩
  have HS:=zh (dsize_any ⟨b,0,none⟩ sb d.n sc a0 d.sz c0 w hn0 (cell_of (i:=0) ho rfl) (cell_ofA hc.heap hv0))
  have HP:=zh (powered_any b _ _ d.cut d.dead w h.c1 h.c2 ho)
  rw [hE] at HA
  by_cases hl:l.length=d.sz
  ·have hsz1:64<=d.sz:=h.s1
   have hsz2:d.sz<=4096:=h.s2
   obtain ⟨a1,c1,rfl⟩:∃ a c,v=.slice a d.sz c:=by
    rcases hv with ⟨rfl,hz,_⟩ | ⟨blk,o,c,_,_,rfl,_⟩
    ·omega
    ·exact ⟨_,_,by rw [hl]⟩
   by_cases hcut:d.cut=0
   ·obtain ⟨q1,q2⟩:=Dk.write_dead hE hl hcut
    rw [q1,q2] at hR
    rw [if_pos hcut] at HP
    have HD:=zh h
    have HO:=zh ho
    clear q1 q2 hE ho hc hn1 hn2 hn3 hsc1 hsc2 hdead hv0 hs0 hv hX hi1 hi2 h
    have hl2:=zh hl
    have hc2:=zh hcut
    clear hl hcut
    go_enter func201,ntmps201
    go_wp2_with (first | (go_at_call 231;refine HA.out.mono ?_;rintro e w' ⟨rfl,rfl⟩) | (go_at_call 60;refine HS.out.mono ?_;rintro e w' ⟨rfl,rfl⟩) | (go_at_call 244;refine HP.out.mono ?_;rintro e w1 ⟨rfl,hb1,hm1,hz1⟩;have HB:=zh hb1;have HM:=zh hm1;clear hb1 hm1 hz1))
    refine fin hR ⟨rfl,?_,HM.out.weaken fun _ _ e=>.inl e⟩
    exact HD.out.turned HM.out (by have:=HD.out.c1;have:=hc2.out;split <;> omega) (by have:=HD.out.c2;split <;> omega) (fun sc' ho'=>by
     have ho2:=HO.out
     rw [ho'] at ho2
     cases ho2
     exact HB.out)
   ·obtain ⟨q1,q2⟩:=Dk.write_ok hE hl hcut
    rw [q1,q2] at hR
    rw [if_neg hcut] at HP
    obtain ⟨D,hD⟩:=h.dirty
    have hDsz:=hD.size
    have hn2':d.n<=4096:=h.n2
    have hkey:=zh (keyOf_nat k (by omega))
    have HD:=zh h
    have HDD:=zh hD
    have HV:=zh hv
    have HX:=zh hX
    have hk:k < d.n:=by omega
    have hn2x:=zh hn2
    have hsz3:Maps.size D < maxLen:=by unfold maxLen;omega
    have hlen':=zh hlen
    have HO:=zh ho
    clear q1 q2 hE ho hc hn1 hn2 hn3 hsc1 hsc2 hdead hv0 hs0 hv hX hi1 hi2 h hD hDsz hlen
    have hl2:=zh hl
    have hc2:=zh hcut
    clear hl hcut
    go_enter func201,ntmps201
    go_wp2_with (first | (go_at_call 231;refine HA.out.mono ?_;rintro e w' ⟨rfl,rfl⟩) | (go_at_call 60;refine HS.out.mono ?_;rintro e w' ⟨rfl,rfl⟩) | (go_at_call 244;refine HP.out.mono ?_;rintro e w1 ⟨rfl,hb1,hm1,hz1⟩;have HB:=zh hb1;have HM:=zh hm1;have k1:=cell_of (i:=1) hb1 rfl;have HZ:=zh hz1;clear hb1 hm1 hz1))
    have hDm:DkAt w1 X b sb mb d.power:=HD.out.turned HM.out (by have:=HD.out.c1;have:=hc2.out;split <;> omega) (by have:=HD.out.c2;split <;> omega) (fun sc' ho'=>by
     have ho2:=HO.out
     rw [ho'] at ho2
     cases ho2
     exact HB.out)
    have hbb:Beside w X (· = b):=fun k hk=>.inr fun cur fz e=>by
     have ho2:=HO.out
     subst hk;rw [ho2] at e;cases e
    have hne2:mb ≠ b:=fun e=>hn2x.out e.symm
    have hvs:Sl w1.drew Y 5 (.slice a1 d.sz c1) d.sz (bv l):=by
     have h1:=HV.out
     rw [hl2.out] at h1
     exact h1.keep HM.out.drew (fun k cur fz hk _ e=>by have ho2:=HO.out;subst hk;rw [ho2] at e;cases e)
    have HCl:=zh (clone_bytes Y (.slice a1 d.sz c1) (bv l) w1.drew (by rw [bv_length,hl2.out];exact hvs) (bv_one _) (by rw [bv_length];exact hlen'.out))
    have HDD1:=zh (HDD.out.keep HM.out.drew hne2 hbb)
    have HD1:=zh hDm
    have HXm:∀ k,X k->k < w1.drew.heap.size:=fun k hk=>by have:=HX.out k hk;have:=HZ.out;simp;omega
    have HX1:=zh HXm
    have hk0:(0:Int)<=(k:Int):=Int.natCast_nonneg _
    clear hDm hbb hne2 hvs HXm
    go_region_held3 (fun w'=>w'.cell? ⟨b,1,none⟩=some (.map (some mb))) (first | assumption) ((first | (go_at_call 81;refine HCl.out.mono ?_;rintro e w2 ⟨v',rfl,hown,hnil,hm⟩;have HO2:=zh hown;have HM2:=zh hm;have k2:=Mod.cell hm (show World.cell? w1.drew _=_ from k1) (fun f=>f);have HMp0:=HDD1.out.mp;have HMp1:=Mp.keep HMp0 hm (fun f=>f);obtain ⟨w3,hst,hp3,hm3,hz3⟩:=Mp.store HMp1 key_int underlying79 hsz3 (val:=v') hkey.out;have HP3:=zh hp3;have HM3:=zh hm3;have k3:=Mod.cell hm3 k2 (fun e=>hn2x.out e);clear HMp0 HMp1 hp3 hm3 hz3 hown hnil hm)))
    go_wp2
    have hD1:DkAt w1.drew X b sb mb d.power:=HD1.out.stay (Mod.refl No _).drew
    have hD2:DkAt w2 X b sb mb d.power:=hD1.stay HM2.out
    obtain ⟨hn1,hn2,hn3⟩:=hD2.mb_ne
    have hvo:Sl w2 X 5 v' d.sz (bv l):=by
     have h1:=HO2.out
     rw [bv_length,hl2.out] at h1
     exact Sl.of_own h1 fun q hq hx=>by have:=HX1.out q hx;omega
    have hbm:Beside w2 X (· = mb):=fun q hq=>.inr fun cur fz e=>by
     obtain ⟨D',hD'⟩:=hD2.dirty
     obtain ⟨es,clock,hh⟩:=hD'.mp.heap
     subst hq;rw [hh] at e;cases e
    have hDD2:DirtyAt w2 X mb d.n d.sz d.dirty D:=HDD1.out.keep HM2.out (fun f=>f) (beside_no _ _)
    have hDD3:=hDD2.put hk HP3.out HM3.out hbm hvo
    refine fin hR ⟨rfl,?_,?_⟩
    ·obtain ⟨sc3,ho3,r3⟩:=hD2.obj
     obtain ⟨cur3,hc3⟩:=hD2.sure
     refine ⟨⟨sc3,HM3.out.keep ho3 hn2,r3⟩,⟨cur3,hc3.keep HM3.out hn3 hbm⟩,⟨_,hDD3⟩,hD2.lenS,fun q l' hq hd=>?_,hD2.n1,hD2.n2,hD2.s1,hD2.s2,hD2.c1,hD2.c2⟩
     by_cases e:q=k
     ·simp [Dk.put,e] at hd
      subst hd
      exact hl2.out
     ·simp only [Dk.put,Int.toNat_natCast,if_neg e] at hd
      exact hD2.lenD q l' hq hd
    ·exact ((HM.out.weaken (T:=Own2 b mb) fun _ _ e=>.inl e).drew.trans (HM2.out.weaken fun _ _ f=>f.elim)).trans (HM3.out.weaken fun _ _ e=>.inr e)
  ·obtain ⟨q1,q2⟩:=Dk.write_len hE hl
   rw [q1,q2] at hR
   obtain ⟨a1,c1,rfl⟩:∃ a c,v=.slice a l.length c:=by
    rcases hv with ⟨rfl,hz,_⟩ | ⟨blk,o,c,_,_,rfl,_⟩
    ·rw [hz];exact ⟨_,_,rfl⟩
    ·exact ⟨_,_,rfl⟩
   have hl1:((l.length:Int) != (d.sz:Int))=true:=by simp;omega
   have HD:=zh h
   clear q1 q2 hE ho hc hn1 hn2 hn3 hsc1 hsc2 hdead hv0 hs0 hv hX hi1 hi2 h HP
   have hl2:=zh hl
   clear hl
   go_enter func201,ntmps201
   go_wp2_with (first | (go_at_call 231;refine HA.out.mono ?_;rintro e w' ⟨rfl,rfl⟩) | (go_at_call 60;refine HS.out.mono ?_;rintro e w' ⟨rfl,rfl⟩))
   exact fin hR ⟨rfl,HD.out,Mod.refl _ _⟩
 ·obtain ⟨q1,q2⟩:=Dk.write_err (l:=l) hE
  rw [q1,q2] at hR
  clear q1 q2 hc ho
  generalize atE d.dead i d.n=E at *
  have h1:(E != 0)=true:=by simpa using hE
  have HE:=zh hE
  have HD:=zh h
  clear hE h hn1 hn2 hn3 hX hv
  go_enter func201,ntmps201
  go_wp2_with (go_at_call 231;refine HA.out.mono ?_;rintro e w' ⟨rfl,rfl⟩)
  exact fin hR ⟨rfl,HD.out,Mod.refl _ _⟩
end Go.Proofs.YtmppeipgjcjdkaaGreatDoor
