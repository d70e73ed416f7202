/-
  Layers 0 to 14: helps of the laws of indexes. No statement is proved here; no condition.
-/
import Derived.Test.YticfcmdjplmaeaaGreatDoorX21
import Derived.Sort.KeysCollected
set_option maxRecDepth 100000
set_option maxHeartbeats 64000000
namespace Go.Proofs.YticfcmdjplmaeaaGreatDoor
open _root_.Go.Proofs.Tryz
open Go.RowKit Go.Maps Go.Sort
def vDel (F:Vt) (k:List UInt8):Vt:=fun x=>if x=k then none else F x
def Says (D:DataW Value) (F:Vt):Prop:=∀ k,(F k=none->Maps.has D (.string k)=false)/\∀ v,F k=some v->Maps.has D (.string k)=true/\∀ zd,D.atKey (.string k) zd=.held v
structure NMp (w:World) (b:Nat) (F:Vt):Prop where
 row:∃ D,Mp w 9 b D/\Says D F
theorem NMp.keep {S:Nat->Prop} {w w':World} {b:Nat} {F:Vt} (h:NMp w b F) (hm:Mod S w w') (hs:¬ S b):NMp w' b F:=by
 obtain ⟨D,h1,h3⟩:=h.row;exact ⟨D,h1.keep hm hs,h3⟩
theorem NMp.lt {w:World} {b:Nat} {F:Vt} (h:NMp w b F):b < w.heap.size:=by
 obtain ⟨D,h1,-⟩:=h.row;obtain ⟨es,c,hb⟩:=h1.heap;exact lt_of_heap hb
theorem NMp.made (w:World):NMp (w.alloc (.map #[] 0)) w.heap.size (fun _=>none) :=
 ⟨.map [],Mp.made w _,fun k=>⟨fun _=>by simp [Maps.has_eq],fun v h=>by cases h⟩⟩
theorem NMp.not_cells {w:World} {b:Nat} {F:Vt} (h:NMp w b F) (cur:Array Value) (t:TypeId) (fz:Nat × Nat):w.heap[b]? ≠ some (.cells cur t fz):=by
 obtain ⟨D,h1,-⟩:=h.row;exact fun e=>by
  obtain ⟨es,c,hb⟩:=h1.heap;rw [hb] at e;cases e
theorem NMp.get {w:World} {b:Nat} {F:Vt} (h:NMp w b F) {t e:TypeId} {z:Value} (ht:prog.underlying t=some (.map 9 e)) (hz:(zeroValue e).run prog w=.ok z w) (k:List UInt8) (hk:k.length<=1000000000) :
  (Instr.lookup t (.map (some b)) (.string ⟨k.toArray⟩) false).run prog w=.ok ((F k).getD z) w:=by
 obtain ⟨D,d1,d3⟩:=h.row;cases hM:F k with
 | none=>exact d1.get_miss key_str ht hz (keyOf_str k hk) ((d3 k).1 hM)
 | some v=>exact d1.get_hit key_str ht hz (keyOf_str k hk) ((d3 k).2 v hM).2
theorem NMp.look {w:World} {b:Nat} {F:Vt} (h:NMp w b F) {t e:TypeId} {z:Value} (ht:prog.underlying t=some (.map 9 e)) (hz:(zeroValue e).run prog w=.ok z w) (k:List UInt8) (hk:k.length<=1000000000) :
  (Instr.lookup t (.map (some b)) (.string ⟨k.toArray⟩) true).run prog w=.ok (.tuple #[(F k).getD z,.bool (F k).isSome]) w:=by
 obtain ⟨D,d1,d3⟩:=h.row;cases hM:F k with
 | none=>exact d1.look_miss key_str ht hz (keyOf_str k hk) ((d3 k).1 hM)
 | some v=>exact d1.look_hit key_str ht hz (keyOf_str k hk) ((d3 k).2 v hM).1 ((d3 k).2 v hM).2
theorem says_put {F:Vt} {k:List UInt8} {v:Value} {D:DataW Value} (hT:Tidy D) (h3:Says D F):Says (D.put (.string k) (.held v)) (vPut F k v):=by
 have hD:IsMap D:=hT.isMap;refine fun x=>⟨fun hx=>?_,fun u hx=>?_⟩
 ·by_cases e:x=k
  ·simp [vPut,e] at hx
  ·simp only [vPut,if_neg e] at hx;rw [has_put_other (lit_str_ne e)];exact (h3 x).1 hx
 ·by_cases e:x=k
  ·subst e;simp only [vPut,if_true] at hx;cases hx
   exact ⟨has_put_same hD (isKey_str _) _,fun zd=>atKey_put_same hD (isKey_str _) _ zd⟩
  ·simp only [vPut,if_neg e] at hx;rw [has_put_other (lit_str_ne e)];refine ⟨((h3 x).2 u hx).1,fun zd=>?_⟩
   rw [atKey_put_other (lit_str_ne e)];exact ((h3 x).2 u hx).2 zd
theorem says_del {F:Vt} {k:List UInt8} {D:DataW Value} (h3:Says D F):Says (D.del (.string k)) (vDel F k):=by
 refine fun x=>⟨fun hx=>?_,fun u hx=>?_⟩
 ·by_cases e:x=k
  ·subst e;exact has_del_same
  ·simp only [vDel,if_neg e] at hx;rw [has_del_other (lit_str_ne e)];exact (h3 x).1 hx
 ·by_cases e:x=k
  ·simp [vDel,e] at hx
  ·simp only [vDel,if_neg e] at hx;rw [has_del_other (lit_str_ne e)];refine ⟨((h3 x).2 u hx).1,fun zd=>?_⟩
   rw [atKey_del_other (lit_str_ne e)];exact ((h3 x).2 u hx).2 zd
theorem says_keys {w:World} {b:Nat} {F:Vt} {D:DataW Value} (d1:Mp w 9 b D) (d3:Says D F):(strKeys D).Nodup/\(∀ x,x ∈ strKeys D ↔ (F x).isSome=true)/\(strKeys D).length=Maps.size D:=by
 obtain ⟨es,hD,hp⟩:=d1.tidy key_str;obtain ⟨es',hD',hk⟩:=World.ownsMap.keysOf d1;rw [hD] at hD';cases hD'
 have hkey:∀ p ∈ es,∃ x,p.1=.string x:=fun p hpm=>by
  obtain ⟨v,hv⟩:=hk p hpm;obtain ⟨x,_,hx,_⟩:=Maps.keyOf_str underlying9 hv;exact ⟨x,hx⟩
 refine ⟨?_,fun x=>?_,?_⟩
 ·rw [hD];show (es.map fun p=>strOf p.1).Nodup
  refine List.pairwise_map.2 (hp.imp_of_mem fun {p q} hp' hq' hne e=>hne ?_)
  obtain ⟨x,hx⟩:=hkey p hp';obtain ⟨y,hy⟩:=hkey q hq';rw [hx,hy] at e ⊢;exact congrArg _ e
 ·have hh:Maps.has D (.string x)=true ↔ (F x).isSome=true:=by
   cases hM:F x with
   | none=>rw [(d3 x).1 hM];simp
   | some v=>rw [((d3 x).2 v hM).1];simp
  rw [<- hh,hD,has_iff];simp only [strKeys,List.mem_map];constructor
  ·rintro ⟨p,hpm,rfl⟩;obtain ⟨y,hy⟩:=hkey p hpm;exact ⟨p,hpm,by rw [hy];exact WideAt.sameKey_self (isKey_str _)⟩
  ·rintro ⟨p,hpm,hsame⟩;obtain ⟨y,hy⟩:=hkey p hpm;refine ⟨p,hpm,?_⟩
   have:=WideAt.sameKey_eq hsame;rw [this];rfl
 ·rw [hD];simp [strKeys,Maps.size_eq]
theorem nodup_le {α:Type} [DecidableEq α]:∀ {l k:List α},l.Nodup->(∀ x ∈ l,x ∈ k)->l.length<=k.length
 | [],_,_,_=>Nat.zero_le _
 | x :: l,k,h,hs=>by
  obtain ⟨h1,h2⟩:=List.nodup_cons.1 h;have hx:x ∈ k:=hs x (by simp);have:=nodup_le (l:=l) (k:=k.erase x) h2 fun y hy=>(List.mem_erase_of_ne (fun e=>h1 (by rw [<- e];exact hy))).2 (hs y (by simp [hy]))
  rw [List.length_erase_of_mem hx] at this;have hk:=List.length_pos_of_mem hx;rw [List.length_cons];omega
theorem says_size {w:World} {b:Nat} {F:Vt} {D:DataW Value} (d1:Mp w 9 b D) (d3:Says D F) {names:List (List UInt8)} (hn:∀ k,F k ≠ none->k ∈ names):Maps.size D<=names.length:=by
 obtain ⟨h1,h2,h4⟩:=says_keys d1 d3;rw [<- h4];exact nodup_le h1 fun x hx=>hn x (by have:=(h2 x).1 hx;intro e;rw [e] at this;cases this)
theorem wpList_nput {w:World} {b:Nat} {F:Vt} {ops:Array Oper} {rest:List Oper} {o:Oper} {a:Act} {Q:Exit->Act->World->Prop} (hg:o.guard=none) (m x v:Operand) (t e:TypeId) (hop:o.op=Op.mapUpdate t m x v)
  (ht:prog.underlying t=some (.map 9 e)) (hm:a.eval m=.map (some b)) (h:NMp w b F) {names:List (List UInt8)} (hn:∀ k,F k ≠ none->k ∈ names) (hl:names.length < maxLen)
  (k:List UInt8) (hk:k.length<=1000000000) (val:Value) (hx:a.eval x=.string ⟨k.toArray⟩) (hv:a.eval v=val)
  (hK:∀ w',NMp w' b (vPut F k val)->Mod (· = b) w w'->w'.heap.size=w.heap.size->wpList prog ops Q rest (a.put o.dst undef) w') :
  wpList prog ops Q (o :: rest) a w:=by
 obtain ⟨D,d1,d3⟩:=h.row;have hT:Tidy D:=d1.tidy key_str;have hs:=says_size d1 d3 hn;exact wpList_store hg m x v t hop key_str ht hm d1 (by omega) _ _ _ hx hv (keyOf_str k hk) fun w' hm' hmod hsz=>hK w' ⟨_,hm',says_put hT d3⟩ hmod hsz
theorem wpList_ndrop {w:World} {b:Nat} {F:Vt} {ops:Array Oper} {rest:List Oper} {o:Oper} {a:Act} {Q:Exit->Act->World->Prop} (hg:o.guard=none) (m x:Operand) (t e:TypeId)
  (hop:o.op=Op.call { callee:=Callee.builtin Builtin.delete,args:=#[m,x],argTypes:=#[t,9] })
  (ht:prog.underlying t=some (.map 9 e)) (hm:a.eval m=.map (some b)) (h:NMp w b F) (k:List UInt8) (hk:k.length<=1000000000) (hx:a.eval x=.string ⟨k.toArray⟩)
  (hK:∀ w',NMp w' b (vDel F k)->Mod (· = b) w w'->w'.heap.size=w.heap.size->wpList prog ops Q rest (a.put o.dst (.tuple #[])) w') :
  wpList prog ops Q (o :: rest) a w:=by
 obtain ⟨D,d1,d3⟩:=h.row;exact wpList_drop hg m x t 9 hop key_str ht hm d1 _ _ hx (keyOf_str k hk) fun w' hm' hmod hsz=>hK w' ⟨_,hm',says_del d3⟩ hmod hsz
theorem NMp.clear {w:World} {b:Nat} {F:Vt} (h:NMp w b F) {t e:TypeId} (ht:prog.underlying t=some (.map 9 e)) :
  ∃ w',(∀ ty,(Builtin.clear_ #[t] ty #[.map (some b)]).run prog w=.ok (.tuple #[]) w')/\NMp w' b (fun _=>none)/\Mod (· = b) w w'/\w'.heap.size=w.heap.size:=by
 obtain ⟨D,d1,-⟩:=h.row;obtain ⟨w',h1,h2,h3,h4⟩:=d1.clear ht;exact ⟨w',h1,⟨.map [],h2,fun k=>⟨fun _=>by simp [Maps.has_eq],fun v h=>by cases h⟩⟩,h3,h4⟩
end Go.Proofs.YticfcmdjplmaeaaGreatDoor
