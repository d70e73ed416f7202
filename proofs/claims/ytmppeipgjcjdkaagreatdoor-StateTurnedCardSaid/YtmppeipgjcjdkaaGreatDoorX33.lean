/-
  Layers 0 to 14: helps of the laws of indexes. No statement is proved here; no condition.
-/
import Derived.Test.YtmppeipgjcjdkaaGreatDoorX22
import Derived.Test.YtmppeipgjcjdkaaGreatDoorX21
import Derived.Test.YtmppeipgjcjdkaaGreatDoorX25
import Derived.Test.YtmppeipgjcjdkaaGreatDoorX01
import Derived.Test.YtmppeipgjcjdkaaGreatDoorX03
namespace Go.Proofs.YtmppeipgjcjdkaaGreatDoor
open _root_.Go.Proofs.Tryz
open Go.RowKit
def RdR (w:World) (q:Nat):Rst->Prop
 | some L=>L.length<=1000000/\∃ v,RdAt w q v L false
 | none=>∃ v L,RdAt w q v L true
theorem RdR.keep {S:Nat->Prop} {w w':World} {q:Nat} {R:Rst} (h:RdR w q R) (hm:Mod S w w') (hq:¬ S q) (hs:∀ k cur fz,S k->w.heap[k]? ≠ some (.cells cur 5 fz)):RdR w' q R:=by
 cases R with
 | none=>obtain ⟨v,L,h⟩:=h;exact ⟨v,L,h.keep hm hq hs⟩
 | some L=>obtain ⟨hl,v,h⟩:=h;exact ⟨hl,v,h.keep hm hq hs⟩
theorem RdR.stay {w w':World} {q:Nat} {R:Rst} (h:RdR w q R) (hm:Mod No w w'):RdR w' q R:=h.keep hm (fun f=>f) (fun _ _ _ f=>f.elim)
theorem RdR.lt {w:World} {q:Nat} {R:Rst} (h:RdR w q R):q < w.heap.size:=by
 cases R with
 | none=>obtain ⟨v,L,h⟩:=h;exact lt_of_heap h.obj
 | some L=>obtain ⟨hl,v,h⟩:=h;exact lt_of_heap h.obj
theorem RdR.not_bytes {w:World} {q:Nat} {R:Rst} (h:RdR w q R) (cur:Array Value) (fz:Nat × Nat):w.heap[q]? ≠ some (.cells cur 5 fz):=by
 have key:∀ v L f,RdAt w q v L f->w.heap[q]? ≠ some (.cells cur 5 fz):=fun v L f h e=>by
  rw [h.obj] at e;cases e
 cases R with
 | none=>obtain ⟨v,L,h⟩:=h;exact key _ _ _ h
 | some L=>obtain ⟨hl,v,h⟩:=h;exact key _ _ _ h
theorem rdText_len {L s r:List UInt8} (h:rdText L=some (s,r)):s.length+r.length<=L.length:=by
 unfold rdText rdNum at h
 split at h
 ·rename_i n r0 h1
  have h2:=rdNumG_len _ _ _ _ _ h1
  split at h
  ·rename_i h3
   cases h
   rw [List.length_take,List.length_drop]
   omega
  ·cases h
 ·cases h
theorem rdBool_len {L r:List UInt8} {b:Bool} (h:rdBool L=some (b,r)):r.length<=L.length:=by
 cases L with
 | nil=>cases h
 | cons x l =>
  have h:(if x.toNat<=1 then some (x.toNat == 1,l) else none)=some (b,r):=h
  by_cases h1:x.toNat<=1
  ·rw [if_pos h1] at h
   cases h
   exact Nat.le_succ _
  ·rw [if_neg h1] at h
   cases h
theorem rdtext_any {w:World} {q:Nat} {R:Rst} (h:RdR w q R) :
  Calls prog 68 #[.pointer (some ⟨q,0,none⟩)] w fun e w'=>e=.returned (.string ⟨(rdT R).1.toArray⟩)/\RdR w' q (rdT R).2/\Mod (fun k=>k=q) w w':=by
 cases R with
 | none =>
  obtain ⟨v,L,h⟩:=h
  refine (rtext_failed h).mono ?_
  rintro e w' ⟨rfl,hm⟩
  exact ⟨rfl,⟨v,L,h.stay hm⟩,hm.weaken fun _ _ f=>f.elim⟩
 | some L =>
  obtain ⟨hl,v,h⟩:=h
  refine (rtext_ok h (by omega)).mono ?_
  rintro e w' ⟨hm,⟨o,L',v',ho,rfl,hr⟩ | ⟨ho,rfl,v',L',hr⟩⟩
  ·have h1:=rdText_len ho
   have e1:rdT (some L)=(o,some L'):=by unfold rdT;dsimp only;rw [ho]
   rw [e1]
   exact ⟨rfl,⟨by omega,v',hr⟩,hm⟩
  ·have e1:rdT (some L)=([],none):=by unfold rdT;dsimp only;rw [ho]
   rw [e1]
   exact ⟨rfl,⟨v',L',hr⟩,hm⟩
theorem rdbool_any {w:World} {q:Nat} {R:Rst} (h:RdR w q R) :
  Calls prog 67 #[.pointer (some ⟨q,0,none⟩)] w fun e w'=>e=.returned (.bool (rdO R).1)/\RdR w' q (rdO R).2/\Mod (fun k=>k=q) w w':=by
 cases R with
 | none =>
  obtain ⟨v,L,h⟩:=h
  refine (rbool_failed h).mono ?_
  rintro e w' ⟨rfl,hm⟩
  exact ⟨rfl,⟨v,L,h.stay hm⟩,hm.weaken fun _ _ f=>f.elim⟩
 | some L =>
  obtain ⟨hl,v,h⟩:=h
  refine (rbool_ok h (by omega)).mono ?_
  rintro e w' ⟨hm,⟨o,L',v',ho,rfl,hr⟩ | ⟨ho,rfl,v',L',hr⟩⟩
  ·have h1:=rdBool_len ho
   have e1:rdO (some L)=(o,some L'):=by unfold rdO;dsimp only;rw [ho]
   rw [e1]
   exact ⟨rfl,⟨by omega,v',hr⟩,hm⟩
  ·have e1:rdO (some L)=(false,none):=by unfold rdO;dsimp only;rw [ho]
   rw [e1]
   exact ⟨rfl,⟨v',L',hr⟩,hm⟩
theorem rdnum_any {w:World} {q:Nat} {R:Rst} (h:RdR w q R) :
  Calls prog 94 #[.pointer (some ⟨q,0,none⟩)] w fun e w'=>e=.returned (.int .u64 ((rdN R).1:Nat))/\RdR w' q (rdN R).2/\Mod (fun k=>k=q) w w':=by
 cases R with
 | none =>
  obtain ⟨v,L,h⟩:=h
  refine (rnum_failed h).mono ?_
  rintro e w' ⟨rfl,hm⟩
  exact ⟨rfl,⟨v,L,h.stay hm⟩,hm.weaken fun _ _ f=>f.elim⟩
 | some L =>
  obtain ⟨hl,v,h⟩:=h
  refine (rnum_ok h (by omega)).mono ?_
  rintro e w' ⟨hm,⟨o,L',v',ho,rfl,hr⟩ | ⟨ho,rfl,v',L',hr⟩⟩
  ·have h1:=rdNumG_len _ _ _ _ _ (show rdNumG 0 0 L=some (o,L') from ho)
   have e1:rdN (some L)=(o,some L'):=by unfold rdN;dsimp only;rw [ho]
   rw [e1]
   exact ⟨rfl,⟨by omega,v',hr⟩,hm⟩
  ·have e1:rdN (some L)=(0,none):=by unfold rdN;dsimp only;rw [ho]
   rw [e1]
   exact ⟨rfl,⟨v',L',hr⟩,hm⟩
def RstLe (n:Nat):Rst->Prop
 | some L=>L.length<=n
 | none=>True
theorem rdT_len {n:Nat} {R:Rst} (h:RstLe n R):(rdT R).1.length<=n/\RstLe n (rdT R).2:=by
 cases R with
 | none=>exact ⟨Nat.zero_le _,trivial⟩
 | some L =>
  unfold rdT
  dsimp only
  have h:L.length<=n:=h
  cases ho:rdText L with
  | none=>exact ⟨Nat.zero_le _,trivial⟩
  | some p =>
   have h1:=rdText_len (s:=p.1) (r:=p.2) ho
   exact ⟨by show p.1.length<=n;omega,by show p.2.length<=n;omega⟩
theorem rdO_len {n:Nat} {R:Rst} (h:RstLe n R):RstLe n (rdO R).2:=by
 cases R with
 | none=>exact trivial
 | some L =>
  unfold rdO
  dsimp only
  have h:L.length<=n:=h
  cases ho:rdBool L with
  | none=>exact trivial
  | some p =>
   have h1:=rdBool_len (b:=p.1) (r:=p.2) ho
   show p.2.length<=n
   omega
theorem rdN_len {n:Nat} {R:Rst} (h:RstLe n R):RstLe n (rdN R).2:=by
 cases R with
 | none=>exact trivial
 | some L =>
  unfold rdN
  dsimp only
  have h:L.length<=n:=h
  cases ho:rdNum L with
  | none=>exact trivial
  | some p =>
   have h1:=rdNumG_len _ _ _ _ _ (show rdNumG 0 0 L=some (p.1,p.2) from ho)
   show p.2.length<=n
   omega
end Go.Proofs.YtmppeipgjcjdkaaGreatDoor
namespace Go.Proofs.YtmppeipgjcjdkaaGreatDoor
open _root_.Go.Proofs.Tryz
open Go.RowKit Go.Maps
def trV (t:Tr) (g:List UInt8->Nat):Vt:=fun k=>(atT t k).map fun f=>.pointer (some ⟨g f.path,0,none⟩)
def NdIn (w:World) (b:Nat) (f:Fl):Prop:=∃ v,w.heap[b]? = some (.cells #[.bool f.dir,v] 150 (0,0))/\Sl w No 5 v f.b.length (bv f.b)
structure TrM (w:World) (q m:Nat) (g:List UInt8->Nat) (t:Tr) (sz:Int):Prop where
 obj:w.heap[q]? = some (.cells #[.map (some m),.int .i64 sz] 161 (0,0))
 map:VMp w m t.length (trV t g)
 each:∀ f ∈ t,NdIn w (g f.path) f
 asc:AscT t
theorem TrM.ne {w:World} {q m:Nat} {g:List UInt8->Nat} {t:Tr} {sz:Int} (h:TrM w q m g t sz):q ≠ m:=fun e=>by
 subst e
 exact h.map.not_cells _ _ _ h.obj
theorem NdIn.keep {S:Nat->Prop} {w w':World} {b:Nat} {f:Fl} (h:NdIn w b f) (hm:Mod S w w') (ha:Apart [150,5] S w):NdIn w' b f:=by
 obtain ⟨v,h1,h2⟩:=h
 exact ⟨v,hm.keep h1 (fun s=>ha b _ _ _ s h1 (by simp)),h2.apart hm (ha.less (by simp))⟩
theorem TrM.keep {S:Nat->Prop} {w w':World} {q m:Nat} {g:List UInt8->Nat} {t:Tr} {sz:Int} (h:TrM w q m g t sz) (hm:Mod S w w') (hq:¬ S q) (hmm:¬ S m) (ha:Apart [150,5] S w):TrM w' q m g t sz :=
 ⟨hm.keep h.obj hq,h.map.keep hm hmm,fun f hf=>(h.each f hf).keep hm ha,h.asc⟩
theorem TrM.no {w w':World} {q m:Nat} {g:List UInt8->Nat} {t:Tr} {sz:Int} (h:TrM w q m g t sz) (hm:Mod No w w'):TrM w' q m g t sz:=h.keep hm (fun f=>f) (fun f=>f) (Apart.no _ _)
def ptrV (g:List UInt8->Nat):Option Fl->Value
 | none=>.pointer none
 | some f=>.pointer (some ⟨g f.path,0,none⟩)
theorem TrM.look {w:World} {q m:Nat} {g:List UInt8->Nat} {t:Tr} {sz:Int} (h:TrM w q m g t sz) (p:List UInt8) (hp:p.length<=1000000) :
  (Instr.lookup 159 (.map (some m)) (.string ⟨p.toArray⟩) false).run prog w=.ok (ptrV g (atT t p)) w:=by
 have hz:(zeroValue 147).run prog w=.ok (.pointer none) w:=by kernel_rfl
 have h1:=h.map.get (t:=159) underlying159 hz p (by omega)
 rw [h1]
 unfold trV
 cases atT t p <;> rfl
theorem TrM.node {w:World} {q m:Nat} {g:List UInt8->Nat} {t:Tr} {sz:Int} (h:TrM w q m g t sz) {p:List UInt8} {f:Fl} (hf:atT t p=some f):NdIn w (g f.path) f:=h.each f (at_path hf).2
theorem TrM.put {w w':World} {q m nb:Nat} {g:List UInt8->Nat} {t:Tr} {sz:Int} {f:Fl} (h:TrM w q m g t sz) (hv:VMp w' m (if trV t g f.path=none then t.length+1 else t.length) (vPut (trV t g) f.path (.pointer (some ⟨nb,0,none⟩))))
  (hm:Mod (· = m) w w') (hn:NdIn w' nb f):TrM w' q m (fun x=>if x=f.path then nb else g x) (putT t f) sz:=by
 have hcnt:=(put_count h.asc f).1
 have hap:Apart [150,5] (· = m) w:=fun k cur fz e hk hc _=>by
  subst hk
  exact h.map.not_cells _ _ _ hc
 have hF:trV (putT t f) (fun x=>if x=f.path then nb else g x)=vPut (trV t g) f.path (.pointer (some ⟨nb,0,none⟩)):=by
  funext k
  unfold trV vPut
  rw [at_put]
  by_cases e:f.path=k
  ·rw [if_pos e,if_pos e.symm];simp
  ·rw [if_neg e,if_neg (fun e2=>e e2.symm)]
   cases hx:atT t k with
   | none=>simp [hx]
   | some x =>
    have hxp:x.path ≠ f.path:=fun e2=>e (e2.symm.trans (at_path hx).1)
    simp [hxp,hx]
 have hlen:(putT t f).length=if trV t g f.path=none then t.length+1 else t.length:=by
  rw [hcnt]
  unfold trV
  cases atT t f.path <;> simp
 refine ⟨hm.keep h.obj h.ne,by rw [hF,hlen];exact hv,fun x hx=>?_,asc_put h.asc f⟩
 have h1:=at_mem (asc_put h.asc f) hx
 rw [at_put] at h1
 by_cases e:f.path=x.path
 ·rw [if_pos e] at h1
  cases h1
  rw [if_pos rfl]
  exact hn
 ·rw [if_neg e] at h1
  rw [if_neg (fun e2=>e e2.symm)]
  exact (h.each x (at_path h1).2).keep hm hap
theorem TrM.sized {w:World} {q m:Nat} {g:List UInt8->Nat} {t:Tr} {sz:Int} (h:TrM w q m g t sz) (sz':Int):TrM (w.setCell ⟨q,1,none⟩ (.int .i64 sz')) q m g t sz':=by
 have hm:Mod (· = q) w (w.setCell ⟨q,1,none⟩ (.int .i64 sz')):=Mod.cell1 w q 1 _
 have hap:Apart [150,5] (· = q) w:=fun k cur fz e hk hc hx=>by
  subst hk
  rw [h.obj] at hc
  cases hc
  simp at hx
 exact ⟨by rw [heap_setCell h.obj];rfl,h.map.keep hm (fun e=>h.ne e.symm),fun f hf=>(h.each f hf).keep hm hap,h.asc⟩
theorem TrM.made (w:World) {q m:Nat} (hq:w.heap[q]? = some (.cells #[.map (some m),.int .i64 0] 161 (0,0))) (hm:VMp w m 0 (fun _=>none)) (g:List UInt8->Nat):TrM w q m g [] 0 :=
 ⟨hq,hm,fun f hf=>(by cases hf),asc_nil⟩
theorem tnew_any (w:World):Calls prog 71 #[] w fun e w'=>∃ q m g,e=.returned (.pointer (some ⟨q,0,none⟩))/\TrM w' q m g [] 0/\Mod No w w'/\w.heap.size<=q/\w.heap.size<=m:=by
 refine calls_hide fun R hR=>?_
 have hmm:=@run_makeMap prog
 go_enter func71,ntmps71
 go_wp2_with fail
 refine fin hR ⟨_,w.heap.size,fun _=>0,rfl,TrM.made _ ?_ ?_ _,((Mod.refl No w).alloc _).alloc _,?_,Nat.le_refl _⟩
 ·have h1:=heap_alloc_new (w.alloc (.map #[] 0)) (.cells #[.map (some w.heap.size),.int .i64 0] 161)
  rw [World.size_alloc] at h1
  exact h1
 ·exact (VMp.made w).keep (S:=No) ((Mod.refl No _).alloc _) (fun f=>f)
 ·simp
def AtPost (w':World) (t:Tr) (p:List UInt8) (e:Ending):Prop:=match nodeT t p with
 | none=>e=.returned (.pointer none)
 | some (d,c)=>∃ b v,e=.returned (.pointer (some ⟨b,0,none⟩))/\w'.heap[b]? = some (.cells #[.bool d,v] 150 (0,0))/\Sl w' No 5 v c.length (bv c)
set_option maxRecDepth 100000 in
theorem tat_any {w:World} {q m:Nat} {g:List UInt8->Nat} {t:Tr} {sz:Int} (h:TrM w q m g t sz) (p:List UInt8) (hp:p.length<=1000000) :
  Calls prog 73 #[.pointer (some ⟨q,0,none⟩),strV p] w fun e w'=>AtPost w' t p e/\Mod No w w':=by
 refine calls_hide fun R hR=>?_
 have H:=zh h
 have hlk:=h.look p hp
 have c0:=cell_ofA h.obj (i:=0) rfl
 have hT:=str_list p
 clear h
 unfold strV
 generalize (⟨p.toArray⟩:ByteArray)=Z at *
 go_enter func73,ntmps73
 by_cases h0:p=[]
 ·subst h0
  have HE:=zh (show ∀ w' e,(∃ b v,e=.returned (.pointer (some ⟨b,0,none⟩))/\w'.heap[b]? = some (.cells #[.bool true,v] 150 (0,0))/\Sl w' No 5 v 0 (bv []))->AtPost w' t [] e from fun w' e h=>h)
  clear hlk c0
  go_wp2_with fail
  exact fin hR ⟨HE.out _ _ ⟨_,_,rfl,heap_alloc_new w _,.inl ⟨rfl,rfl,rfl⟩⟩,(Mod.refl No w).alloc _⟩
 ·have hie:p.isEmpty=false:=by simpa using h0
  have HE:=zh (show AtPost w t p (.returned (ptrV g (atT t p))) by
   unfold AtPost nodeT
   rw [if_neg h0]
   cases hx:atT t p with
   | none=>rfl
   | some f =>
    obtain ⟨v,h1,h2⟩:=H.out.node hx
    exact ⟨_,v,rfl,h1,h2⟩)
  generalize ptrV g (atT t p)=rv at *
  go_wp2_with fail
  exact fin hR ⟨HE.out,Mod.refl _ _⟩
set_option maxRecDepth 100000 in
theorem troom_any {w:World} {q m:Nat} {g:List UInt8->Nat} {t:Tr} {sz:Int} (h:TrM w q m g t sz) (fs bs:Int) (_:-1000000000<=fs/\fs<=1000000000) (_:-1000000000<=bs/\bs<=1000000000) (hs:-1000000000<=sz/\sz<=1000000000) (ht:t.length<=1000000) :
  Calls prog 137 #[.pointer (some ⟨q,0,none⟩),.int .i64 fs,.int .i64 bs] w fun e w'=>e=.returned (.bool (decide (fs<=500 - (t.length:Int)) && decide (bs<=1048576 - sz)))/\w'=w:=by
 refine calls_hide fun R hR=>?_
 have c0:=cell_ofA h.obj (i:=0) rfl
 have c1:=cell_ofA h.obj (i:=1) rfl
 have hln:∀ ty,(Builtin.len_ #[159] ty #[.map (some m)]).run prog w=.ok (.int .i64 (t.length:Int)) w:=fun ty=>h.map.len underlying159 ty
 have hn0:(0:Int)<=(t.length:Int):=Int.natCast_nonneg _
 have hn1:(t.length:Int)<=1000000:=by omega
 clear h ht
 generalize (t.length:Int)=n at *
 go_enter func137,ntmps137
 by_cases h1:fs<=500 - n
 ·go_wp2_with fail
  refine fin hR ⟨bool_ret ?_,rfl⟩
  rw [decide_eq_true h1]
  simp
 ·go_wp2_with fail
  refine fin hR ⟨bool_ret ?_,rfl⟩
  rw [decide_eq_false (by omega:¬ fs<=500 - n)]
  simp
set_option maxRecDepth 100000 in
set_option maxHeartbeats 4000000 in
theorem tmake_any {w:World} {q m:Nat} {g:List UInt8->Nat} {t:Tr} {sz:Int} (h:TrM w q m g t sz) (ds:List (List UInt8)) (v:Value) (hv:Sl w No 9 v ds.length (strs ds)) (hd:∀ d ∈ ds,d.length<=1000000) (hn:t.length+ds.length<=1000000) :
  Calls prog 138 #[.pointer (some ⟨q,0,none⟩),v] w fun e w'=>e=.returned (.tuple #[])/\(∃ g',TrM w' q m g' (makeT t ds) sz)/\Mod (· = m) w w':=by
 refine calls_hide fun R hR=>?_
 have H:=zh h
 have HV:=zh hv
 obtain ⟨va,vc,rfl⟩:=hv.len
 clear h hv
 go_enter func138,ntmps138
 go_wp2_with fail
 go_loopw [8] (fun q8 wr=>∃ (k:Nat) (g':List UInt8->Nat),k<=ds.length/\q8=.int .i64 (k:Int)/\TrM wr q m g' (makeT t (ds.take k)) sz/\Mod (· = m) w wr) (fun q8 _=>ds.length - (intOf q8).toNat)
 case atStart=>exact ⟨0,g,by omega,rfl,H.out,Mod.refl _ _⟩
 case round =>
  obtain ⟨k,g',hk,rfl,htr,hm⟩:=hrel
  have hk0:(0:Int)<=(k:Int):=Int.natCast_nonneg _
  have HM:=zh hm
  have HT:=zh htr
  clear hm htr
  by_cases hlt:k < ds.length
  ·have hk1:(k:Int) < (ds.length:Int):=by omega
   obtain ⟨b,o,c,hvs,_⟩:=HV.out.shape (by omega)
   cases hvs
   have hcell:=(HV.out.keep HM.out (fun k cur fz hk _ hc=>by subst hk;exact H.out.map.not_cells _ _ _ hc)).cellN (i:=k) (by rw [strs_length];exact hlt)
   rw [show (strs ds)[k]'(by rw [strs_length];exact hlt)=strV ds[k] from by simp [strs]] at hcell
   have hdk:=hd ds[k] (List.getElem_mem hlt)
   have HMK:=zh (show makeT t (ds.take (k+1))=putT (makeT t (ds.take k)) ⟨ds[k],true,[]⟩ by
    rw [List.take_succ_eq_append_getElem hlt,make_append];rfl)
   have hml:=(make_all (ds.take k) t).1
   rw [List.length_take] at hml
   have c0:=cell_ofA HT.out.obj (i:=0) rfl
   generalize ds[k]=dk at *
   generalize makeT t (ds.take k)=tk at *
   obtain ⟨w2,hw2⟩:∃ w2,w2=wr.alloc (.cells #[.bool true,.slice none 0 0] 150):=⟨_,rfl⟩
   have m2:Mod No wr w2:=by rw [hw2];exact (Mod.refl No wr).alloc _
   have hb2:w2.heap[wr.heap.size]? = some (.cells #[.bool true,.slice none 0 0] 150 (0,0)):=by rw [hw2];exact heap_alloc_new wr _
   have ht2:=HT.out.no m2
   obtain ⟨w3,hst,hvm,hm3,-⟩:=ht2.map.put (t:=159) underlying159 (by unfold maxLen;omega) dk (by omega) (.pointer (some ⟨wr.heap.size,0,none⟩))
   have hnb:wr.heap.size ≠ m:=fun e=>by subst e;exact ht2.map.not_cells _ _ _ hb2
   have HT3:=zh (ht2.put (f:=⟨dk,true,[]⟩) hvm hm3 ⟨_,hm3.keep hb2 hnb,.inl ⟨rfl,rfl,rfl⟩⟩)
   have HM3:=zh (show Mod (· = m) w w3 from (HM.out.trans (m2.weaken (fun _ _ f=>f.elim))).trans hm3)
   have HW2:=zh hw2
   clear m2 hb2 ht2 hvm hm3 hw2 hml
   unfold strV at hcell
   generalize (⟨dk.toArray⟩:ByteArray)=DK at *
   rw [HW2.out] at hst
   go_wp2_with fail
   exact ⟨⟨k+1,_,by omega,by simp,by rw [HMK.out];exact HT3.out,HM3.out⟩,by show ds.length - ((k:Int)+1).toNat < ds.length - (k:Int).toNat;omega⟩
  ·obtain rfl:k=ds.length:=by omega
   have hk1:¬ ((ds.length:Int) < (ds.length:Int)):=by omega
   rw [List.take_length] at HT
   clear hk
   go_wp2_with fail
   go_end0
   exact fin hR ⟨rfl,⟨_,HT.out⟩,HM.out⟩
end Go.Proofs.YtmppeipgjcjdkaaGreatDoor
