/-
  Layers 0 to 14: helps of the laws of indexes. No statement is proved here; no condition.
-/
import Derived.Test.YtmppeipgjcjdkaaGreatDoorX05
import Derived.Test.YtmppeipgjcjdkaaGreatDoorX04
import Derived.Test.YtmppeipgjcjdkaaGreatDoorX02
import Derived.Test.YtmppeipgjcjdkaaGreatDoorX06
import Derived.Test.YtmppeipgjcjdkaaGreatDoorX01
import Derived.Test.YtmppeipgjcjdkaaGreatDoorX03
import Derived.RangeFuncNested
import Derived.RangeFuncBound
import Derived.RangeFuncCalls
import Derived.RangeFuncLeaves
import Derived.Shelf.Abstract
import Derived.Shelf.RegionOpen
import Derived.WalkKit
import Derived.OwnWalkIn
import Derived.TacticsInMore
import Derived.LoopNIn
import Derived.LoopIn
namespace Go.Proofs.YtmppeipgjcjdkaaGreatDoor
open _root_.Go.Proofs.Tryz
open Go.RowKit Go.Shelf
attribute [local go_sem] Oper.semAt_some
structure Bx3 (w:World) (eb sb nb:Nat) (x:List UInt8):Prop where
 e:w.heap[eb]? = some (.cells #[.string ⟨#[124,124]⟩] 9 (0,0))
 s:w.heap[sb]? = some (.cells #[strV x] 9 (0,0))
 n:w.heap[nb]? = some (.cells #[.int .i64 0] 3 (0,0))
 es:eb ≠ sb
 sn:sb ≠ nb
theorem Bx3.set {w:World} {eb sb nb:Nat} {x:List UInt8} (h:Bx3 w eb sb nb x) (y:List UInt8):Bx3 (w.setCell ⟨sb,0,none⟩ (strV y)) eb sb nb y :=
 ⟨by rw [heap_setCell_ne _ (by dsimp only;exact h.es)];exact h.e,by rw [heap_setCell h.s];rfl,by rw [heap_setCell_ne _ (by dsimp only;exact h.sn.symm)];exact h.n,h.es,h.sn⟩
def boxLen (sb:Nat) (w:World):Nat:=match w.cell? ⟨sb,0,none⟩ with
 | some (.string s)=>s.size
 | _=>0
theorem boxLen_eq {w:World} {eb sb nb:Nat} {x:List UInt8} (h:Bx3 w eb sb nb x):boxLen sb w=x.length:=by
 unfold boxLen
 rw [cell_ofA h.s (i:=0) rfl]
 exact str_len3 x
set_option maxRecDepth 100000 in
set_option maxHeartbeats 4000000 in
theorem splitseq_in (x:List UInt8) (hx:x.length<=1000000) (n l eb sb nb:Nat) (J Jx:List (List UInt8)->World->Prop)
  (hG:∀ pre W,J pre W->Gl W)
  (hJ:∀ pre W v,J pre W->J pre (W.setCell ⟨sb,0,none⟩ v))
  (hY:∀ pre y W,J pre W->pre++[y] <+: splitO x->YieldAt Fence.wide (n - 1) prog l #[strV y] W fun e W' =>
   (e=.returned (.bool true)/\J (pre++[y]) W'/\∀ z,Bx3 W eb sb nb z->Bx3 W' eb sb nb z)\/(e=.returned (.bool false)/\Jx (pre++[y]) W'))
  (W:World) (hB:Bx3 W eb sb nb x) (h0:J [] W) :
  CallsIn Fence.wide n prog 309 #[.func (.yield l) #[] #[],.pointer (some ⟨eb,0,none⟩),.pointer (some ⟨sb,0,none⟩),.pointer (some ⟨nb,0,none⟩)] W fun e W' =>
   (∃ v,e=.returned v)/\(J (splitO x) W'\/∃ pre,pre <+: splitO x/\Jx pre W'):=by
 refine callsIn_of_wp func309 rfl trivial ?_
 simp only [ntmps309,List.size_toArray,List.length_cons,List.length_nil,Nat.reduceAdd,Nat.reduceSub,Array.replicate_succ,Array.replicate_zero,List.push_toArray,List.append_toArray,List.nil_append,List.cons_append]
 have e0:=cell_ofA hB.e (i:=0) rfl
 gi_wp2
 clear e0
 gi_loopw [7] (fun i wr=>∃ (pre:List (List UInt8)) (r:List UInt8),r.length<=1000000/\splitO x=pre++splitO r/\Bx3 wr eb sb nb r/\J pre wr) (fun _ wr=>boxLen sb wr)
 case atStart=>exact ⟨[],x,hx,rfl,hB,h0⟩
 case round =>
  obtain ⟨pre,r,hr,hs,hb,hj⟩:=hrel
  obtain ⟨m,hm⟩:=hG _ _ hj
  have e0:=cell_ofA hb.e (i:=0) rfl
  have s0:=cell_ofA hb.s (i:=0) rfl
  have n0:=cell_ofA hb.n (i:=0) rfl
  have HIX:=zh (show Calls prog 227 #[strV r,.string ⟨#[124,124]⟩] wr fun e w'=>e=.returned (.int .i64 (Lib.index r [124,124]))/\w'=wr from
   Tryz.strings_Index ⟨r.toArray⟩ ⟨#[124,124]⟩ m wr (by rw [str_len3];omega) hm)
  have HBL:=zh (boxLen_eq hb)
  have HB2:=zh hb
  by_cases hno:Lib.index r [124,124] = -1
  ·have HS:=zh (show splitO x=pre++[r] by rw [hs,splitO_none r hno])
   rw [hno] at HIX
   obtain ⟨fn,tmps,assign,body,hy,hR⟩:=hY pre r wr hj (by rw [HS.out];exact List.prefix_rfl)
   clear hm hno hb hs hJ hG
   unfold strV at *
   gi_wp2
   refine ⟨trivial,(fun h=>by cases h),(callsIn_wide.2 HIX.out).mono ?_⟩
   rintro e w2 ⟨rfl,rfl⟩
   gi_wp2
   refine ⟨(fun h=>by cases h),hR.mono ?_⟩
   rintro e W3 (⟨rfl,hJ3,hk3⟩ | ⟨rfl,hJx3⟩)
   ·gi_wp2
    go_end0
    exact ⟨⟨_,rfl⟩,.inl (by rw [HS.out];exact hJ3)⟩
   ·gi_wp2
    go_end0
    exact ⟨⟨_,rfl⟩,.inr ⟨_,by rw [HS.out];exact List.prefix_rfl,hJx3⟩⟩
  ·obtain ⟨i,hi⟩:∃ i:Nat,Lib.index r [124,124]=(i:Int):=⟨(Lib.index r [124,124]).toNat,by have:=Lib.index_ge r [124,124];omega⟩
   obtain ⟨hsp,hil⟩:=splitO_hit r i hi
   rw [hi] at HIX
   have HS:=zh (show splitO x=(pre++[r.take i])++splitO (r.drop (i+2)) by rw [hs,hsp];simp)
   obtain ⟨fn,tmps,assign,body,hy,hR⟩:=hY pre (r.take i) wr hj (by rw [HS.out];exact List.prefix_append _ _)
   have hto:=str_to r i
   have hfrom:=str_from r (i+2)
   have HZ:=zh (str_len3 r)
   clear hm hno hb hs hG hsp hi
   unfold strV at *
   have q1:(0:Int)<=(i:Int):=Int.natCast_nonneg _
   generalize hZe:(⟨r.toArray⟩:ByteArray)=Z at *
   have hZs:(Z.size:Int)=(r.length:Int):=by rw [HZ.out]
   have q2:(i:Int)+2<=(Z.size:Int):=by omega
   have q3:wrap64 ((i:Int)+2)=(i:Int)+2:=by unfold wrap64;omega
   have q4:wrap64 ((i:Int)+0)=(i:Int):=by unfold wrap64;omega
   gi_wp2
   refine ⟨trivial,(fun h=>by cases h),(callsIn_wide.2 HIX.out).mono ?_⟩
   rintro e w2 ⟨rfl,rfl⟩
   gi_wp2
   refine ⟨(fun h=>by cases h),hR.mono ?_⟩
   rintro e W3 (⟨rfl,hJ3,hk3⟩ | ⟨rfl,hJx3⟩)
   ·have hb3:=hk3 _ HB2.out
    have e3:=cell_ofA hb3.e (i:=0) rfl
    have s3:=cell_ofA hb3.s (i:=0) rfl
    have f3:=frozen_of 0 hb3.s
    have HB3:=zh (hb3.set (r.drop (i+2)))
    have HJ3:=zh (hJ _ _ (strV (r.drop (i+2))) hJ3)
    clear e0 s0 n0 hk3 hb3 hJ3 hJ hy hR
    unfold strV at *
    rw [hZe] at s3
    gi_wp2
    go_roundw
    case rel=>exact ⟨pre++[r.take i],r.drop (i+2),by rw [List.length_drop];omega,HS.out,HB3.out,HJ3.out⟩
    case measure =>
     rw [boxLen_eq HB3.out,HBL.out,List.length_drop]
     omega
   ·gi_wp2
    refine bodyPost_ret (results_none rfl _ _ _) rfl ?_
    exact ⟨⟨_,rfl⟩,.inr ⟨_,by rw [HS.out];exact List.prefix_append _ _,hJx3⟩⟩
end Go.Proofs.YtmppeipgjcjdkaaGreatDoor
namespace Go.Proofs.YtmppeipgjcjdkaaGreatDoor
open _root_.Go.Proofs.Tryz
open Go.RowKit
set_option maxRecDepth 100000 in
theorem splitseq0_any (x:List UInt8) (w:World):Calls prog 280 #[strV x,.string ⟨#[124,124]⟩,.int .i64 0] w fun e w' =>
  ∃ eb sb nb,e=.returned (.func (.func 309) #[] #[.pointer (some ⟨eb,0,none⟩),.pointer (some ⟨sb,0,none⟩),.pointer (some ⟨nb,0,none⟩)])/\Bx3 w' eb sb nb x/\Mod No w w'/\(w.heap.size<=eb/\w.heap.size<=sb/\w.heap.size<=nb):=by
 refine calls_hide fun R hR=>?_
 unfold strV at *
 generalize hZ:(⟨x.toArray⟩:ByteArray)=Z at *
 go_enter func280,ntmps280
 go_wp2_with fail
 refine fin hR ⟨_,_,_,rfl,⟨?_,?_,?_,?_,?_⟩,(((Mod.refl No w).alloc _).alloc _).alloc _,?_⟩
 ·have h1:=heap_alloc_new (w.alloc (.cells #[.string Z] 9)) (.cells #[.string ⟨#[124,124]⟩] 9)
  rw [World.size_alloc] at h1
  exact heap_alloc_old _ h1
 ·unfold strV;rw [hZ];exact heap_alloc_old _ (heap_alloc_old _ (heap_alloc_new w _))
 ·have h1:=heap_alloc_new ((w.alloc (.cells #[.string Z] 9)).alloc (.cells #[.string ⟨#[124,124]⟩] 9)) (.cells #[.int .i64 0] 3)
  rw [World.size_alloc,World.size_alloc] at h1
  exact h1
 ·omega
 ·omega
 ·omega
set_option maxRecDepth 100000 in
theorem splitseq_any (x:List UInt8) (w:World):Calls prog 232 #[strV x,.string ⟨#[124,124]⟩] w fun e w' =>
  ∃ eb sb nb,e=.returned (.func (.func 309) #[] #[.pointer (some ⟨eb,0,none⟩),.pointer (some ⟨sb,0,none⟩),.pointer (some ⟨nb,0,none⟩)])/\Bx3 w' eb sb nb x/\Mod No w w'/\(w.heap.size<=eb/\w.heap.size<=sb/\w.heap.size<=nb):=by
 refine calls_hide fun R hR=>?_
 have HS:=zh (splitseq0_any x w)
 unfold strV at *
 generalize (⟨x.toArray⟩:ByteArray)=Z at *
 go_enter func232,ntmps232
 go_wp2_with fail
 with_reducible refine HS.out.mono ?_
 rintro e w' ⟨eb,sb,nb,rfl,h1,h2,h3⟩
 go_wp2_with fail
 exact fin hR ⟨eb,sb,nb,rfl,h1,h2,h3⟩
end Go.Proofs.YtmppeipgjcjdkaaGreatDoor
namespace Go.Proofs.YtmppeipgjcjdkaaGreatDoor
open _root_.Go.Proofs.Tryz
open Go.RowKit Go.Shelf
attribute [local go_sem] Oper.semAt_some
def Aside (B sb:Nat) (W:World) (p:Nat):Prop:=p=sb\/(B<=p/\∃ o,W.heap[p]? = some o/\o.isCells=false)
abbrev Turn (B sb:Nat) (W W':World):Prop:=Mod (Aside B sb W) W W'
theorem Mod.putObj {S:Nat->Prop} (W:World) {l:Nat} (h:S l) (o:Obj):Mod S W (W.putObj l o) :=
 ⟨rfl,rfl,rfl,by simp,fun k _ hn=>World.putObj_heap_other (fun e=>hn (e ▸ h))⟩
theorem Turn.put {B sb:Nat} {W:World} {l:Nat} {o:Obj} (hB:B<=l) (hl:W.heap[l]? = some o) (ho:o.isCells=false) (o':Obj):Turn B sb W (W.putObj l o') :=
 Mod.putObj W (.inr ⟨hB,o,hl,ho⟩) o'
theorem Turn.new {B sb:Nat} (W:World) (o:Obj):Turn B sb W (W.alloc o):=(Mod.refl _ W).alloc o
theorem Turn.box {B sb:Nat} (W:World) (v:Value):Turn B sb W (W.setCell ⟨sb,0,none⟩ v):=(Mod.refl _ W).setCell (p:=⟨sb,0,none⟩) (fun _=>.inl rfl) v
structure Rd (B eb sb nb:Nat) (W W':World):Prop where
 same:∀ (k:Nat) (o:Obj),B<=k->W.heap[k]? = some o->o.isCells=false->W'.heap[k]? = some o
 box:∀ z,Bx3 W eb sb nb z->Bx3 W' eb sb nb z
def RdPost (B eb sb nb:Nat) (I:List (List UInt8)->World->Prop) (Ix:List (List UInt8)->World->Prop) (xs:List (List UInt8)) (W:World):Exit->Act->World->Prop
 | .normal,_,W'=>Rd B eb sb nb W W'/\I xs W'
 | .ret,_,W'=>Rd B eb sb nb W W'/\Ix xs W'
 | _,_,_=>False
theorem Bx3.keep {w w':World} {eb sb nb:Nat} {x:List UInt8} (h:Bx3 w eb sb nb x) {S:Nat->Prop} (hm:Mod S w w') (h1:¬ S eb) (h2:¬ S sb) (h3:¬ S nb):Bx3 w' eb sb nb x :=
 ⟨hm.keep h.e h1,hm.keep h.s h2,hm.keep h.n h3,h.es,h.sn⟩
theorem range_box {x:List UInt8} (hx:x.length<=1000000) {eb sb nb:Nat} {g:Operand} {p:Tmp} {assign body:Code} {Q:Exit->Act->World->Prop} {a:Act} {w:World} (n:Nat)
  (hg:a.eval g=.func (.func 309) #[] #[.pointer (some ⟨eb,0,none⟩),.pointer (some ⟨sb,0,none⟩),.pointer (some ⟨nb,0,none⟩)])
  (hB:Bx3 w eb sb nb x) (I Ix:List (List UInt8)->World->Prop)
  (hI:∀ pre W W',I pre W->Turn w.heap.size sb W W'->I pre W') (hIx:∀ pre W W',Ix pre W->Turn w.heap.size sb W W'->Ix pre W')
  (hG:∀ pre W,I pre W->Gl W) (h0:I [] w) (a₁:List UInt8->Act)
  (hassign:∀ (l:Nat) (y:List UInt8) (W:World) (K:Act->World->Prop),K (a₁ y) W →
   assign.wpIn (Fence.wide.inRound l) (n - 1 - 1) prog (Exit.then K (fun _ _ _=>False)) { tmps:=a.tmps.setIfInBounds p (strV y),defers:=[] } W)
  (hbody:∀ (l:Nat) (pre:List (List UInt8)) (y:List UInt8) (W:World),I pre W->pre++[y] <+: splitO x->body.wpIn (Fence.wide.inRound l) (n - 1 - 1) prog (RdPost w.heap.size eb sb nb I Ix (pre++[y]) W) (a₁ y) W)
  (hdone:∀ (D:Nat) (W:World),w.heap.size<=D->I (splitO x) W->W.heap[D]? = some (.deferred (some []))->Q .normal { a with defers:={ target:=.collected D,args:=#[] } :: a.defers } W)
  (hstop:∀ (D:Nat) (pre:List (List UInt8)) (W:World),w.heap.size<=D->pre <+: splitO x->Ix pre W->W.heap[D]? = some (.deferred (some []))->Code.ret.wpIn Fence.wide n prog Q { a with defers:={ target:=.collected D,args:=#[] } :: a.defers } W) :
  (Code.rangeFunc g #[p] assign body).wpIn Fence.wide n prog Q a w:=by
 have be:=lt_of_heap hB.e
 have bs:=lt_of_heap hB.s
 have bn:=lt_of_heap hB.n
 refine wpIn_rangeFunc ?_
 intro fn hfn
 obtain ⟨L,hL⟩:∃ L:LoopState->Option Code->Loop,L=fun st pe=>{ state:=st,pending:=pe,fn,tmps:=a.tmps,params:=#[p],assign,body,defers:=w.heap.size }:=⟨_,rfl⟩
 obtain ⟨W1,hW1⟩:∃ W1,W1=(w.alloc (.deferred (some []))).alloc (.loop (L .ready none)):=⟨_,rfl⟩
 obtain ⟨lp,hlp⟩:∃ lp,lp=w.heap.size+1:=⟨_,rfl⟩
 have hl1:W1.heap[lp]? = some (.loop (L .ready none)):=by rw [hW1];exact heap_at_new _ _ (by rw [hlp];simp)
 have hd1:W1.heap[w.heap.size]? = some (.deferred (some [])):=by rw [hW1];exact heap_alloc_old _ (heap_alloc_new w _)
 have hb1:Bx3 W1 eb sb nb x:=by rw [hW1];exact hB.keep (S:=No) (((Mod.refl No w).alloc _).alloc _) (fun f=>f) (fun f=>f) (fun f=>f)
 have hi1:I [] W1:=by rw [hW1];exact hI _ _ _ (hI _ _ _ h0 (Turn.new _ _)) (Turn.new _ _)
 have hge:w.heap.size<=lp:=by omega
 refine ⟨lp,[{ target:=.collected w.heap.size,args:=#[] }],W1,{ target:=.fn (.func 309) #[.pointer (some ⟨eb,0,none⟩),.pointer (some ⟨sb,0,none⟩),.pointer (some ⟨nb,0,none⟩)],args:=#[.func (.yield lp) #[] #[]] },W1,309,
  #[.func (.yield lp) #[] #[],.pointer (some ⟨eb,0,none⟩),.pointer (some ⟨sb,0,none⟩),.pointer (some ⟨nb,0,none⟩)],W1,?_,?_,fun _ _=>trivial,?_,(fun h=>by cases h),?_⟩
 ·rw [hW1,hL,hlp];exact run_enterLoop_outer _ _ _ _ _
 ·simp only [resolve,hg]
  simp [go_sem]
 ·simp [invoke,go_sem]
 ·have hend:∀ (W W3:World) (c:Option Code),W.heap[lp]? = some (.loop (L .ready none))->W.heap[w.heap.size]? = some (.deferred (some []))->Rd w.heap.size eb sb nb (W.putObj lp (.loop (L .busy none))) W3 →
    (Instr.endRound lp c).run prog W3=.ok (.bool c.isNone) (W3.putObj lp (.loop (L (if c.isNone then .ready else .done) c))) ∧
    W3.heap[lp]? = some (.loop (L .busy none)) ∧
    (W3.putObj lp (.loop (L (if c.isNone then .ready else .done) c))).heap[lp]? = some (.loop (L (if c.isNone then .ready else .done) c)) ∧
    (W3.putObj lp (.loop (L (if c.isNone then .ready else .done) c))).heap[w.heap.size]? = some (.deferred (some [])):=fun W W3 c hl hd hr=>by
   have h1:=hr.same lp _ hge (World.putObj_heap_same (lt_of_heap hl)) rfl
   have h2:=hr.same w.heap.size _ (Nat.le_refl _) ((World.putObj_heap_other (by omega)).trans hd) rfl
   have h3:=run_endRound (P:=prog) c h1
   rw [hL] at h3 ⊢
   refine ⟨h3,by rw [<- hL];exact h1,World.putObj_heap_same (lt_of_heap h1),(World.putObj_heap_other (by omega)).trans h2⟩
  refine (splitseq_in x hx (n - 1) lp eb sb nb
   (fun pre W=>I pre W/\W.heap[lp]? = some (.loop (L .ready none))/\W.heap[w.heap.size]? = some (.deferred (some [])))
   (fun pre W=>Ix pre W/\W.heap[lp]? = some (.loop (L .done (some .ret)))/\W.heap[w.heap.size]? = some (.deferred (some [])))
   (fun pre W h=>hG pre W h.1)
   (fun pre W v h=>⟨hI _ _ _ h.1 (Turn.box W v),by rw [heap_setCell_ne _ (by dsimp only;omega)];exact h.2.1,by rw [heap_setCell_ne _ (by dsimp only;omega)];exact h.2.2⟩)
   ?_ W1 hb1 ⟨hi1,hl1,hd1⟩).mono ?_
  ·rintro pre y W ⟨hi,hl,hd⟩ hpre
   have hy:=run_yield (P:=prog) (args:=#[strV y]) hl (by rw [hL];rfl)
   rw [hL] at hy
   have hy:(Instr.yield lp #[strV y]).run prog W=.ok (.round lp fn (a.tmps.setIfInBounds p (strV y)) assign body) W:=by simpa using hy
   have hbz:∀ (W:World) (o:Obj),∀ z,Bx3 W eb sb nb z->Bx3 (W.putObj lp o) eb sb nb z:=fun W o z h=>h.keep (S:=fun k=>k=lp) (Mod.putObj (S:=fun k=>k=lp) W rfl o) (by omega) (by omega) (by omega)
   refine ⟨fn,_,assign,body,hy,roundIn_of_wpIn hfn ?_⟩
   refine hassign lp y W _ ?_
   refine ⟨_,run_beginRound hl (by rw [hL]),?_⟩
   have e0:({ L .ready none with state:=.busy }:Loop)=L .busy none:=by rw [hL]
   rw [e0]
   refine wpIn_mono (hbody _ pre y _ (hI _ _ _ hi (Turn.put hge hl rfl _)) hpre) ?_
   rintro e a3 W3 hp
   cases e with
   | normal =>
    obtain ⟨hr,hi3⟩:=hp
    obtain ⟨h1,h2,h3,h4⟩:=hend W W3 none hl hd hr
    exact ⟨_,_,h1,.inl ⟨rfl,⟨hI _ _ _ hi3 (Turn.put hge h2 rfl _),h3,h4⟩,fun z hz=>hbz _ _ _ (hr.box _ (hbz _ _ _ hz))⟩⟩
   | ret =>
    obtain ⟨hr,hi3⟩:=hp
    obtain ⟨h1,h2,h3,h4⟩:=hend W W3 (some .ret) hl hd hr
    exact ⟨_,_,h1,.inr ⟨rfl,hIx _ _ _ hi3 (Turn.put hge h2 rfl _),h3,h4⟩⟩
   | exit id=>exact hp.elim
   | goto t=>exact hp.elim
   | panic ch=>exact hp.elim
   | outgrown=>exact hp.elim
  ·rintro e W2 ⟨⟨v,rfl⟩,h⟩
   rcases h with ⟨hi,hl,hd⟩ | ⟨pre,hpre,hi,hl,hd⟩
   ·have h1:=run_endLoop (P:=prog) hl (by rw [hL];simp)
    rw [show (L .ready none).pending=none by rw [hL]] at h1
    exact ⟨none,_,h1,hdone _ _ (Nat.le_refl _) (hI _ _ _ hi (Turn.put hge hl rfl _)) ((World.putObj_heap_other (by omega)).trans hd)⟩
   ·have h1:=run_endLoop (P:=prog) hl (by rw [hL];simp)
    rw [show (L .done (some .ret)).pending=some .ret by rw [hL]] at h1
    exact ⟨some .ret,_,h1,hstop _ pre _ (Nat.le_refl _) hpre (hIx _ _ _ hi (Turn.put hge hl rfl _)) ((World.putObj_heap_other (by omega)).trans hd)⟩
attribute [local go_sem] Oper.semAt_some
structure SpI (w0:World) (B ob r2 r3 sb:Nat) (pre:List (List UInt8)) (W:World) (ov:Value) (xs:List OrX):Prop where
 all:allO listL pre=some (xs.map OrX.l)
 few:pre.length<=8
 out:W.heap[ob]? = some (.cells #[.bool false,ov] 111 (0,0))
 own:W.ownsRow B 252 1 ov xs.length (xs.map OrX.v)
 each:∀ x ∈ xs,BndsX (fun p=>p=sb) W x.v x.l
 res2:W.heap[r2]? = some (.cells #[.bool false,.slice none 0 0] 111 (0,0))
 res3:W.heap[r3]? = some (.cells #[.int .i64 0] 26 (0,0))
 mod:Mod No w0 W
 size:B<=W.heap.size
theorem own_block_heap {w:World} {base:Nat} {e:TypeId} {size:Nat} {v:Value} {n:Nat} {xs:List Value} (h:w.ownsRow base e size v n xs) {k:Nat} (hk:v.ownBlock=some k):base<=k/\∃ cur,w.heap[k]? = some (.cells cur e (0,0)):=by
 obtain ⟨_,⟨hv,_⟩ | ⟨g,cap,cur,hv,hg,hh,r⟩⟩:=h
 ·rw [hv] at hk;cases hk
 ·rw [hv] at hk;cases hk;exact ⟨hg,_,hh⟩
theorem SpI.turn {w0:World} {B ob r2 r3 sb:Nat} {pre:List (List UInt8)} {W W':World} {ov:Value} {xs:List OrX} (h:SpI w0 B ob r2 r3 sb pre W ov xs) (hm:Turn B sb W W')
  (h1:ob < B/\r2 < B/\r3 < B/\sb < B) (h2:ob ≠ sb/\r2 ≠ sb/\r3 ≠ sb) (h3:w0.heap.size<=sb/\w0.heap.size<=B):SpI w0 B ob r2 r3 sb pre W' ov xs:=by
 refine ⟨h.all,h.few,hm.keep h.out ?_,own_keepM h.own hm ?_,fun x hx=>(h.each x hx).keepX hm ?_,hm.keep h.res2 ?_,hm.keep h.res3 ?_,h.mod.then hm ?_,Nat.le_trans h.size hm.size⟩
 ·rintro (e | ⟨e,_⟩) <;> omega
 ·intro k hk hs
  obtain ⟨hb,cur,hh⟩:=own_block_heap h.own hk
  rcases hs with e | ⟨_,o,ho,hc⟩
  ·omega
  ·rw [hh] at ho;cases ho;cases hc
 ·intro k cur fz e hs hx hh
  rcases hs with e | ⟨_,o,ho,hc⟩
  ·exact hx e
  ·rw [hh] at ho;cases ho;cases hc
 ·rintro (e | ⟨e,_⟩) <;> omega
 ·rintro (e | ⟨e,_⟩) <;> omega
 ·intro i hi hs
  rcases hs with e | ⟨e,_⟩ <;> omega
structure Pl (z B ob r2 eb sb nb:Nat):Prop where
 p1:z<=r2
 p2:r2+1 < ob
 p3:ob < eb/\ob < sb/\ob < nb
 p4:eb < B/\sb < B/\nb < B
theorem BndsX.keepA {X S:Nat->Prop} {w w':World} {v:Value} {l:List Bnd} (h:BndsX X w v l) (hm:Mod S w w') (ha:Apart [9,255] S w):BndsX X w' v l:=by
 obtain ⟨xs,h1,h2,h3⟩:=h
 exact ⟨xs,h1,fun x hx=>(h2 x hx).keep hm (fun k cur fz hk _ hc=>ha k cur fz _ hk hc (by simp)),h3.keep hm (fun k cur fz hk _ hc=>ha k cur fz _ hk hc (by simp))⟩
theorem SpI.more {w0:World} {B ob r2 eb sb nb:Nat} {pre:List (List UInt8)} {W WA W3:World} {ov nv v':Value} {xs:List OrX} {y:List UInt8} {l:List Bnd} (h:SpI w0 B ob r2 (r2+1) sb pre W ov xs) (hm:Mod No W WA)
  (hp:Pl w0.heap.size B ob r2 eb sb nb) (hy:listL y=some l) (hx:xs.length < 8) (hg:WA.grownBy W3 ov.ownBlock) (hown:W3.ownsRow B 252 1 v' (xs.length+1) (xs.map OrX.v++[nv])) (hnew:BndsX (fun p=>p=sb) WA nv l) :
  Rd B eb sb nb W (W3.setCell ⟨ob,1,none⟩ v')/\SpI w0 B ob r2 (r2+1) sb (pre++[y]) (W3.setCell ⟨ob,1,none⟩ v') v' (xs++[⟨l,nv⟩]):=by
 obtain ⟨p1,p2,⟨p3,p4,p5⟩,p6,p7,p8⟩:=hp
 have hgm:Mod (fun q=>ov.ownBlock=some q) WA W3:=Mod.of_grown hg (fun q e _=>e)
 have hob:∀ q,ov.ownBlock=some q->B<=q/\(∃ cur,W.heap[q]? = some (.cells cur 252 (0,0))):=fun q e=>own_block_heap h.own e
 have hS2:Mod (fun p=>p=ob\/ov.ownBlock=some p) WA (W3.setCell ⟨ob,1,none⟩ v'):=(hgm.weaken (fun _ _ e=>.inr e)).setCell (fun _=>.inl rfl) _
 have hS:Mod (fun p=>p=ob\/ov.ownBlock=some p) W (W3.setCell ⟨ob,1,none⟩ v'):=hm.no.trans hS2
 have hno:∀ k,k < B->k ≠ ob->¬ (k=ob\/ov.ownBlock=some k):=fun k hk hk2 e=>by
  rcases e with e | e
  ·exact hk2 e
  ·have:=(hob k e).1;omega
 have hap:Apart [9,255] (fun p=>p=ob\/ov.ownBlock=some p) W:=fun k cur fz e hk hc hmem=>by
  rcases hk with rfl | hk
  ·rw [h.out] at hc;cases hc;simp at hmem
  ·obtain ⟨_,cur',hh⟩:=hob k hk
   rw [hh] at hc;cases hc;simp at hmem
 have hap2:Apart [9,255] (fun p=>p=ob\/ov.ownBlock=some p) WA:=fun k cur fz e hk hc hmem=>by
  rcases hk with rfl | hk
  ·rw [hm.keep h.out (fun f=>f)] at hc;cases hc;simp at hmem
  ·obtain ⟨_,cur',hh⟩:=hob k hk
   rw [hm.keep hh (fun f=>f)] at hc;cases hc;simp at hmem
 have ho3:=hgm.keep (hm.keep h.out (fun f=>f)) (fun e=>by have:=(hob ob e).1;omega)
 refine ⟨⟨fun k o hk ho hc=>hS.keep ho (fun e=>?_),fun z hz=>hz.keep hS (hno _ p6 (by omega)) (hno _ p7 (by omega)) (hno _ p8 (by omega))⟩,?_,?_,?_,?_,?_,?_,?_,?_,?_⟩
 ·rcases e with e | e
  ·omega
  ·obtain ⟨_,cur,hh⟩:=hob k e
   rw [hh] at ho;cases ho;cases hc
 ·rw [allO_append,h.all]
  simp [allO,hy]
 ·have h1:=allO_length h.all
  rw [List.length_map] at h1
  rw [List.length_append,<- h1]
  simp;omega
 ·rw [heap_setCell ho3];rfl
 ·rw [List.length_append,List.map_append]
  exact own_keepM hown (Mod.cell1 W3 ob 1 v') (fun k e e2=>by have h2:=(own_block_heap hown e).1;have h3:k=ob:=e2;omega)
 ·intro x hx
  rcases List.mem_append.1 hx with hx | hx
  ·exact (h.each x hx).keepA hS hap
  ·obtain rfl:x=⟨l,nv⟩:=by simpa using hx
   exact hnew.keepA hS2 hap2
 ·exact hS.keep h.res2 (hno _ (by omega) (by omega))
 ·exact hS.keep h.res3 (hno _ (by omega) (by omega))
 ·refine h.mod.then hS (fun i hi e=>?_)
  rcases e with e | e
  ·omega
  ·have:=(hob i e).1;omega
 ·exact Nat.le_trans h.size hS.size
def SpBad (pre:List (List UInt8)):Prop:=(∃ y ∈ pre,listL y=none)\/8 < pre.length
structure SpX (w0:World) (r2 r3:Nat) (pre:List (List UInt8)) (W:World):Prop where
 bad:SpBad pre
 res2:W.heap[r2]? = some (.cells #[.bool false,.slice none 0 0] 111 (0,0))
 res3:W.heap[r3]? = some (.cells #[.int .i64 61] 26 (0,0))
 mod:Mod No w0 W
theorem SpX.turn {w0:World} {B r2 r3 sb:Nat} {pre:List (List UInt8)} {W W':World} (h:SpX w0 r2 r3 pre W) (hm:Turn B sb W W') (h1:r2 < B/\r3 < B) (h2:r2 ≠ sb/\r3 ≠ sb) (h3:w0.heap.size<=sb/\w0.heap.size<=B):SpX w0 r2 r3 pre W':=by
 refine ⟨h.bad,hm.keep h.res2 ?_,hm.keep h.res3 ?_,h.mod.then hm ?_⟩
 ·rintro (e | ⟨e,_⟩) <;> omega
 ·rintro (e | ⟨e,_⟩) <;> omega
 ·intro i hi hs
  rcases hs with e | ⟨e,_⟩ <;> omega
abbrev failW (W:World) (r2:Nat):World:=((W.setCell ⟨r2,0,none⟩ (.bool false)).setCell ⟨r2,1,none⟩ (.slice none 0 0)).setCell ⟨r2+1,0,none⟩ (.int .i64 61)
theorem SpI.fail {w0:World} {B ob r2 eb sb nb:Nat} {pre pre':List (List UInt8)} {W W1:World} {ov:Value} {xs:List OrX} (h:SpI w0 B ob r2 (r2+1) sb pre W ov xs) (hm:Mod No W W1)
  (hp:Pl w0.heap.size B ob r2 eb sb nb) (hbad:SpBad pre'):Rd B eb sb nb W (failW W1 r2)/\SpX w0 r2 (r2+1) pre' (failW W1 r2):=by
 obtain ⟨p1,p2,⟨p3,p4,p5⟩,p6,p7,p8⟩:=hp
 have hS:Mod (fun p=>p=r2\/p=r2+1) W (failW W1 r2):=((hm.no.setCell (fun _=>.inl rfl) _).setCell (fun _=>.inl rfl) _).setCell (fun _=>.inr rfl) _
 have k2:(failW W1 r2).heap[r2]? = some (.cells #[.bool false,.slice none 0 0] 111 (0,0)):=by
  rw [heap_setCell_ne _ (by dsimp only;omega),heap_setCell (heap_setCell (hm.keep h.res2 (fun f=>f)) _)];rfl
 have k3:(failW W1 r2).heap[r2+1]? = some (.cells #[.int .i64 61] 26 (0,0)):=by
  rw [heap_setCell ((heap_setCell_ne _ (by dsimp only;omega)).trans ((heap_setCell_ne _ (by dsimp only;omega)).trans (hm.keep h.res3 (fun f=>f))))];rfl
 refine ⟨⟨fun k o hk ho _=>hS.keep ho (by omega),fun z hz=>hz.keep hS (by omega) (by omega) (by omega)⟩,hbad,k2,k3,h.mod.then hS (fun i hi e=>by omega)⟩
abbrev doneW (W:World) (r2:Nat) (ov:Value):World:=((W.setCell ⟨r2,0,none⟩ (.bool false)).setCell ⟨r2,1,none⟩ ov).setCell ⟨r2+1,0,none⟩ (.int .i64 0)
theorem SpI.done {w0:World} {B ob r2 eb sb nb D:Nat} {pre:List (List UInt8)} {W:World} {ov:Value} {xs:List OrX} (h:SpI w0 B ob r2 (r2+1) sb pre W ov xs)
  (hp:Pl w0.heap.size B ob r2 eb sb nb) (hD:B<=D) (hK:W.heap[D]? = some (.deferred (some []))) :
  (doneW W r2 ov).heap[D]? = some (.deferred (some []))/\((doneW W r2 ov).putObj D (.deferred none)).heap[r2]? = some (.cells #[.bool false,ov] 111 (0,0)) ∧
  ((doneW W r2 ov).putObj D (.deferred none)).heap[r2+1]? = some (.cells #[.int .i64 0] 26 (0,0))/\OrsAt ((doneW W r2 ov).putObj D (.deferred none)) ov (xs.map OrX.l)/\Mod No w0 ((doneW W r2 ov).putObj D (.deferred none)):=by
 obtain ⟨p1,p2,⟨p3,p4,p5⟩,p6,p7,p8⟩:=hp
 have hS0:Mod (fun p=>p=r2\/p=r2+1) W (doneW W r2 ov):=(((Mod.refl _ W).setCell (fun _=>.inl rfl) _).setCell (fun _=>.inl rfl) _).setCell (fun _=>.inr rfl) _
 have k2:(doneW W r2 ov).heap[r2]? = some (.cells #[.bool false,ov] 111 (0,0)):=by
  rw [heap_setCell_ne _ (by dsimp only;omega),heap_setCell (heap_setCell h.res2 _)];rfl
 have k3:(doneW W r2 ov).heap[r2+1]? = some (.cells #[.int .i64 0] 26 (0,0)):=by
  rw [heap_setCell ((heap_setCell_ne _ (by dsimp only;omega)).trans ((heap_setCell_ne _ (by dsimp only;omega)).trans h.res3))];rfl
 have hS:Mod (fun p=>p=r2\/p=r2+1\/p=D) W ((doneW W r2 ov).putObj D (.deferred none)) :=
  (hS0.weaken (fun _ _ e=>by omega)).trans (Mod.putObj _ (.inr (.inr rfl)) _)
 have hap:∀ k cur fz e,(k=r2\/k=r2+1\/k=D)->W.heap[k]? = some (.cells cur e fz)->e=111\/e=26:=fun k cur fz e hk hc=>by
  rcases hk with rfl | rfl | rfl
  ·rw [h.res2] at hc;cases hc;exact .inl rfl
  ·rw [h.res3] at hc;cases hc;exact .inr rfl
  ·rw [hK] at hc;cases hc
 refine ⟨hS0.keep hK (by omega),(World.putObj_heap_other (by omega)).trans k2,(World.putObj_heap_other (by omega)).trans k3,⟨xs,rfl,fun x hx=>?_,?_⟩,h.mod.then hS (fun i hi e=>by omega)⟩
 ·refine BndsX.no ((h.each x hx).keepA hS fun k cur fz e hk hc hm=>?_)
  rcases hap k cur fz e hk hc with rfl | rfl <;> simp at hm
 ·rw [List.length_map]
  refine (Sl.of_own (X:=No) h.own (fun _ _ f=>f)).keep hS fun k cur fz hk _ hc=>?_
  rcases hap k cur fz _ hk hc with e | e <;> cases e
theorem SpX.done {w0:World} {B ob r2 eb sb nb D:Nat} {pre:List (List UInt8)} {W:World} (h:SpX w0 r2 (r2+1) pre W) (hp:Pl w0.heap.size B ob r2 eb sb nb) (hD:B<=D) :
  (W.putObj D (.deferred none)).heap[r2]? = some (.cells #[.bool false,.slice none 0 0] 111 (0,0)) ∧
  (W.putObj D (.deferred none)).heap[r2+1]? = some (.cells #[.int .i64 61] 26 (0,0))/\Mod No w0 (W.putObj D (.deferred none)):=by
 obtain ⟨p1,p2,⟨p3,p4,p5⟩,p6,p7,p8⟩:=hp
 exact ⟨(World.putObj_heap_other (by omega)).trans h.res2,(World.putObj_heap_other (by omega)).trans h.res3,h.mod.then (Mod.putObj (S:=fun p=>p=D) _ rfl _) (fun i hi e=>by omega)⟩
theorem span_bad {l:List UInt8} {pre:List (List UInt8)} (hs:wordsL l ≠ [[42]]) (hp:pre <+: splitO l) (hb:SpBad pre):spanL l=none:=by
 unfold spanL
 rw [if_neg hs]
 rcases hb with ⟨y,hy,hn⟩ | hb
 ·by_cases h8:8 < (splitO l).length
  ·rw [if_pos h8]
  ·rw [if_neg h8]
   obtain ⟨k,hk,rfl⟩:=List.getElem_of_mem (hp.subset hy)
   rw [allO_fail hk hn];rfl
 ·rw [if_pos (Nat.lt_of_lt_of_le hb hp.length_le)]
theorem span_good {l:List UInt8} {xs:List (List Bnd)} (hs:wordsL l ≠ [[42]]) (h8:(splitO l).length<=8) (h:allO listL (splitO l)=some xs):spanL l=some ⟨false,xs⟩:=by
 unfold spanL
 rw [if_neg hs,if_neg (by omega),h]
 rfl
set_option maxRecDepth 100000 in
theorem load_span {w:World} {b:Nat} {v0 v1:Value} (h:w.heap[b]? = some (.cells #[v0,v1] 111 (0,0))) :
  (loadVar 111 ⟨b,0,none⟩).run prog w=.ok (.agg #[v0,v1]) w :=
 run_loadVar_row (P:=prog) w b 111 111 #[v0,v1] (0,0) _ h underlying111 rfl (by kernel_rfl)
set_option maxRecDepth 100000 in
theorem load_errno {w:World} {b:Nat} {x:Int} (h:w.heap[b]? = some (.cells #[.int .i64 x] 26 (0,0))) :
  (loadVar 26 ⟨b,0,none⟩).run prog w=.ok (.int .i64 x) w:=by
 have c:w.cell? ⟨b,0,none⟩=some (.int .i64 x):=cell_ofA h rfl
 go_simp
theorem info_bound:(prog.info? 255).map (fun i=>(i.zero,i.size,i.bytes))=some (some (.agg #[.string ⟨#[]⟩,.int .i64 0,.int .i64 0,.int .i64 0,.slice none 0 0]),5,64):=by kernel_rfl
theorem info_bounds:(prog.info? 252).map (fun i=>(i.zero,i.size,i.bytes))=some (some (.slice none 0 0),1,24):=by kernel_rfl
theorem bnd_one {X:Nat->Prop} {w:World} {bs:List BndX} (h:∀ x ∈ bs,Sl w X 9 x.pv x.b.v.pre.length (strs x.b.v.pre)):∀ u ∈ bs.flatMap BndX.cells,u.oneCell'=true:=by
 intro u hu
 obtain ⟨x,hx,hu⟩:=List.mem_flatMap.1 hu
 obtain ⟨a,c,e⟩:=(h x hx).len
 unfold BndX.cells verCs at hu
 rw [e] at hu
 simp only [List.mem_cons,List.not_mem_nil,or_false] at hu
 rcases hu with rfl | rfl | rfl | rfl | rfl <;> rfl
theorem bounds_few {l:List UInt8} {bs:List Bnd} (h:boundsL l=some bs):0 < bs.length/\bs.length<=2:=by
 unfold boundsL at h
 cases hv:verOf (l.drop (signL l).length) with
 | none=>rw [hv] at h;cases h
 | some v =>
  rw [hv] at h
  obtain rfl:=Option.some.inj h
  unfold boundsV
  split
  ·simp
  ·split
   ·simp
   ·split <;> simp
set_option maxRecDepth 100000 in
set_option maxHeartbeats 8000000 in
theorem span_any (l:List UInt8) (hl:l.length<=1000000) (w:World) (hgl:Gl w) :
  Calls prog 220 #[strV l] w fun e w'=>((spanL l=none/\e=.returned (.tuple #[.agg #[.bool false,.slice none 0 0],.int .i64 61])) ∨
   ∃ s ov,spanL l=some s/\e=.returned (.tuple #[.agg #[.bool s.any,ov],.int .i64 0])/\OrsAt w' ov s.ors)/\Mod No w w':=by
 refine calls_hide fun R hR=>?_
 refine (callsIn_wide (n:=9)).1 ?_
 refine callsIn_of_wp_marks func220 rfl trivial ?_
 simp only [ntmps220,List.size_toArray,List.length_cons,List.length_nil,Nat.reduceAdd,Nat.reduceSub,Array.replicate_succ,Array.replicate_zero,List.push_toArray,List.append_toArray,List.nil_append,List.cons_append]
 have HT:=zh (trim_any l hl)
 have HTS:=zh (trim_star l)
 have HSQ:=zh (splitseq_any l)
 unfold strV at *
 generalize hZ:(⟨l.toArray⟩:ByteArray)=Z at *
 gi_wp2
 obtain ⟨r2,hr2⟩:∃ g,g=w.heap.size:=⟨_,rfl⟩
 rw [<- hr2]
 generalize hw1:World.alloc (World.alloc w _) _=w1
 have h21:w1.heap[r2]? = some (.cells #[.bool false,.slice none 0 0] 111 (0,0)):=by rw [<- hw1,hr2];exact heap_alloc_old _ (heap_alloc_new w _)
 have h31:w1.heap[r2+1]? = some (.cells #[.int .i64 0] 26 (0,0)):=by
  rw [<- hw1,hr2]
  exact heap_at_new _ _ (by simp)
 have hm1:Mod No w w1:=by rw [<- hw1];exact ((Mod.refl No w).alloc _).alloc _
 clear hw1
 refine ⟨trivial,(callsIn_wide.2 (HT.out w1)).mono ?_⟩
 rintro e w2 ⟨rfl,hm2⟩
 have H22:=zh (hm2.keep h21 (fun f=>f))
 have H32:=zh (hm2.keep h31 (fun f=>f))
 have HM2:=zh (hm1.trans hm2)
 have HR2:=zh hr2
 clear h21 h31 hm1 hm2 HT hr2 w1
 have HTT:=zh (str_list (Lib.trimB l 32))
 by_cases hst:wordsL l=[[42]]
 ·have htt:(⟨(Lib.trimB l 32).toArray⟩:ByteArray).toList=[42]:=by rw [HTT.out];exact HTS.out.2 hst
  generalize (⟨(Lib.trimB l 32).toArray⟩:ByteArray)=T at *
  have f2:=frozen_of 0 H22.out
  have f2':=frozen_of 1 H22.out
  have f3:=frozen_of 0 H32.out
  have c2:=cell_ofA H22.out (i:=0) rfl
  have c2':=cell_ofA H22.out (i:=1) rfl
  have c3:=cell_ofA H32.out (i:=0) rfl
  gi_wp2
  have k2:(((w2.setCell ⟨r2,0,none⟩ (.bool true)).setCell ⟨r2,1,none⟩ (.slice none 0 0)).setCell ⟨r2+1,0,none⟩ (.int .i64 0)).heap[r2]? = some (.cells #[.bool true,.slice none 0 0] 111 (0,0)):=by
   rw [heap_setCell_ne _ (by dsimp only;omega),heap_setCell (heap_setCell H22.out _)];rfl
  have k3:(((w2.setCell ⟨r2,0,none⟩ (.bool true)).setCell ⟨r2,1,none⟩ (.slice none 0 0)).setCell ⟨r2+1,0,none⟩ (.int .i64 0)).heap[r2+1]? = some (.cells #[.int .i64 0] 26 (0,0)):=by
   rw [heap_setCell ((heap_setCell_ne _ (by dsimp only;omega)).trans ((heap_setCell_ne _ (by dsimp only;omega)).trans H32.out))];rfl
  have HMz:=zh (show Mod No w (((w2.setCell ⟨r2,0,none⟩ (.bool true)).setCell ⟨r2,1,none⟩ (.slice none 0 0)).setCell ⟨r2+1,0,none⟩ (.int .i64 0)) from
   ((HM2.out.setCell (fun h=>by have:=HR2.out;dsimp only at h;omega) _).setCell (fun h=>by have:=HR2.out;dsimp only at h;omega) _).setCell (fun h=>by have:=HR2.out;dsimp only at h;omega) _)
  have hl2:=load_span k2
  have hl3:=load_errno k3
  exact ⟨.tuple #[.agg #[.bool true,.slice none 0 0],.int .i64 0],by simp [results,results220,asAddr,hl2,hl3],fin hR ⟨.inr ⟨⟨true,[]⟩,_,by unfold spanL;rw [if_pos hst],rfl,⟨[],rfl,by simp,.inl ⟨rfl,rfl,rfl⟩⟩⟩,HMz.out⟩⟩
 ·have htt:((⟨(Lib.trimB l 32).toArray⟩:ByteArray).toList == [42])=false:=by rw [HTT.out];simpa using fun h=>hst (HTS.out.1 h)
  generalize (⟨(Lib.trimB l 32).toArray⟩:ByteArray)=T at *
  gi_wp2
  obtain ⟨ob,hob⟩:∃ g,g=w2.heap.size:=⟨_,rfl⟩
  rw [<- hob]
  generalize hw3:World.alloc w2 _=w3
  have h23:w3.heap[r2]? = some (.cells #[.bool false,.slice none 0 0] 111 (0,0)):=by rw [<- hw3];exact heap_alloc_old _ H22.out
  have h33:w3.heap[r2+1]? = some (.cells #[.int .i64 0] 26 (0,0)):=by rw [<- hw3];exact heap_alloc_old _ H32.out
  have ho3:w3.heap[ob]? = some (.cells #[.bool false,.slice none 0 0] 111 (0,0)):=by rw [<- hw3,hob];exact heap_alloc_new w2 _
  have hm3:Mod No w w3:=by rw [<- hw3];exact HM2.out.alloc _
  have hlt:r2+1 < ob:=by rw [hob];exact lt_of_heap H32.out
  clear hw3 hob H22 H32 HM2
  refine ⟨trivial,(callsIn_wide.2 (HSQ.out w3)).mono ?_⟩
  rintro e w4 ⟨eb,sb,nb,rfl,hB,hm4,hge⟩
  have h24:=hm4.keep h23 (fun f=>f)
  have h34:=hm4.keep h33 (fun f=>f)
  have ho4:=hm4.keep ho3 (fun f=>f)
  have HM4:=zh (hm3.trans hm4)
  have hlo:=lt_of_heap ho3
  have hs3:=hm3.size
  have hs4:=hm4.size
  have bs:=lt_of_heap hB.s
  clear h23 h33 ho3 hm3 hm4 HSQ
  have h0:∃ ov xs,SpI w w4.heap.size ob r2 (r2+1) sb [] w4 ov xs:=⟨_,[],rfl,by simp,ho4,⟨rfl,.inl ⟨rfl,rfl⟩⟩,(fun x hx=>by cases hx),h24,h34,HM4.out,Nat.le_refl _⟩
  have hr2w:=HR2.out
  have hA:ob < w4.heap.size/\r2 < w4.heap.size/\r2+1 < w4.heap.size/\sb < w4.heap.size:=by omega
  have hC:ob ≠ sb/\r2 ≠ sb/\r2+1 ≠ sb:=by omega
  have hE:w.heap.size<=sb/\w.heap.size<=w4.heap.size:=by omega
  have HAL:=zh (And.intro hA (And.intro hC (And.intro hE hlt)))
  have HPL:=zh (show Pl w.heap.size w4.heap.size ob r2 eb sb nb from ⟨by omega,hlt,by omega,lt_of_heap hB.e,bs,lt_of_heap hB.n⟩)
  have HB:=zh hB
  have H0:=zh h0
  have HX:=zh (show ∀ W,Mod No w W->Gl W from fun W hm=>hgl.stay hm (fun f=>f))
  clear h24 h34 ho4 hlo hs3 hs4 bs hr2w hA hC hE hlt hge h0 HM4 hgl hB
  gi_wp2
  refine range_box hl 9 rfl HB.out (fun pre W=>∃ ov xs,SpI w w4.heap.size ob r2 (r2+1) sb pre W ov xs) (fun pre W=>SpX w r2 (r2+1) pre W)
   (fun pre W W' ⟨ov,xs,h⟩ hm=>⟨ov,xs,h.turn hm HAL.out.1 HAL.out.2.1 HAL.out.2.2.1⟩)
   (fun pre W W' h hm=>h.turn hm ⟨HAL.out.1.2.1,HAL.out.1.2.2.1⟩ HAL.out.2.1.2 HAL.out.2.2.1)
   (fun pre W ⟨ov,xs,h⟩=>HX.out _ h.mod) H0.out
   (fun y=>{ tmps:=#[.string Z,undef,.pointer (some ⟨r2,0,none⟩),.pointer (some ⟨r2+1,0,none⟩),.pointer (some ⟨ob,0,none⟩),strV y,undef,undef,undef,undef,undef,undef,.string Z,.string T,.bool false,undef,.string Z,.func (.func 309) #[] #[.pointer (some ⟨eb,0,none⟩),.pointer (some ⟨sb,0,none⟩),.pointer (some ⟨nb,0,none⟩)],strV y,undef,undef,undef,undef,undef,undef,undef,undef,undef,undef,undef,undef,undef,undef,undef,undef,undef,undef,undef,undef,undef,undef,undef,undef,undef,undef,undef,undef,undef,undef,undef,undef,undef,undef,undef,undef,undef,undef,undef,undef,undef,undef],defers:=[] }) ?assign ?body ?done ?stop
  case assign =>
   intro lp x W K hK
   gi_wp2
   exact hK
  case body =>
   rintro lp pre y W ⟨ov,xs,hs⟩ hpre
   have hyl:y.length<=1000000:=Nat.le_trans (splitO_mem_le l y (hpre.subset (by simp))) hl
   have HF:=zh (fields_any y hyl)
   have HWD:=zh (words_mem_le y)
   have HWL:=zh (words_le y)
   have HS:=zh hs
   have HLL:=zh (show listL y=if wordsL y=[]\/8 < (wordsL y).length then none else (allO boundsL (wordsL y)).map List.flatten from rfl)
   clear hs hR HTS HTT htt H0 HR2
   unfold strV at *
   generalize (⟨y.toArray⟩:ByteArray)=Y at *
   gi_wp2
   refine ⟨trivial,(CallsIn.inRound lp (callsIn_wide.2 (HF.out W))).mono ?_⟩
   rintro e W1 ⟨wv,rfl,hown,hm1⟩
   have HW1:=zh (Sl.of_own (X:=No) hown (fun _ _ f=>f))
   obtain ⟨wa,wc,rfl⟩:=HW1.out.len
   have HM1:=zh hm1
   clear hown HF
   generalize wordsL y=ws at *
   have c2:=cell_ofA (HM1.out.keep HS.out.res2 (fun f=>f)) (i:=0) rfl
   have c2':=cell_ofA (HM1.out.keep HS.out.res2 (fun f=>f)) (i:=1) rfl
   have c3:=cell_ofA (HM1.out.keep HS.out.res3 (fun f=>f)) (i:=0) rfl
   have f2:=frozen_of 0 (HM1.out.keep HS.out.res2 (fun f=>f))
   have f2':=frozen_of 1 (HM1.out.keep HS.out.res2 (fun f=>f))
   have f3:=frozen_of 0 (HM1.out.keep HS.out.res3 (fun f=>f))
   obtain ⟨oa,oc,rfl⟩:=own_len HS.out.own
   have o1:=cell_ofA (HM1.out.keep HS.out.out (fun f=>f)) (i:=1) rfl
   have HXL:=zh (show xs.length=pre.length by
    have:=allO_length HS.out.all
    rw [List.length_map] at this;exact this)
   by_cases hbad:ws=[]\/8 < ws.length\/xs.length=8
   ·have HBD:=zh (show SpBad (pre++[y]) by
     rcases hbad with h | h | h
     ·exact .inl ⟨y,by simp,by rw [HLL.out,if_pos (.inl h)]⟩
     ·exact .inl ⟨y,by simp,by rw [HLL.out,if_pos (.inr h)]⟩
     ·exact .inr (by rw [List.length_append,<- HXL.out];simp;omega))
    have hb3:ws.length=0\/8 < ws.length\/(ws.length ≠ 0/\ws.length<=8/\xs.length=8):=by
     rcases hbad with h | h | h
     ·exact .inl (by rw [h];rfl)
     ·exact .inr (.inl h)
     ·omega
    have HFL:=zh (HS.out.fail HM1.out HPL.out HBD.out)
    clear hbad HXL HWL HWD HLL hm1 HBD
    generalize ws.length=wn at *
    generalize xs.length=xn at *
    rcases hb3 with rfl | h | ⟨h1,h2,rfl⟩
    ·gi_wp2
     exact HFL.out
    ·have h1:(8:Int) < (wn:Int):=by omega
     have h2:((wn:Int) == 0)=false:=by simp;omega
     gi_wp2
     exact HFL.out
    ·have h3:(wn:Int)<=8:=by omega
     have h4:((wn:Int) == 0)=false:=by simpa using h1
     gi_wp2
     exact HFL.out
   ·have hg1:ws.length ≠ 0:=fun h=>hbad (.inl (List.eq_nil_of_length_eq_zero h))
    have hg2:(ws.length:Int)<=8:=by omega
    have hg3:((ws.length:Int) == 0)=false:=by simpa using hg1
    have hg4:((xs.length:Int) == 8)=false:=by simp;omega
    have HLL2:=zh (show listL y=(allO boundsL ws).map List.flatten by rw [HLL.out,if_neg (by rintro (h | h);exact hbad (.inl h);exact hbad (.inr (.inl h)))])
    have hwl:ws.length<=8:=by omega
    have hx7:xs.length < 8:=by
     have:=HS.out.few
     have:=HXL.out
     have:xs.length ≠ 8:=fun h=>hbad (.inr (.inr h))
     omega
    clear hbad HLL HWL hm1 c2 c2' c3 f2 f2' f3 hg1
    gi_wp2
    clear o1 hg2 hg3 hg4
    gi_loopw [7,38] (fun u q wr=>∃ (k:Nat) (bs:List BndX) (bss:List (List Bnd)),k<=ws.length/\q=.int .i64 (k:Int)/\allO boundsL (ws.take k)=some bss/\bs.map BndX.b=bss.flatten/\bs.length<=2*k/\wr.ownsRow W1.heap.size 255 5 u bs.length (bs.flatMap BndX.cells) ∧
     (∀ x ∈ bs,Sl wr (fun p=>p=sb) 9 x.pv x.b.v.pre.length (strs x.b.v.pre))/\Mod No W1 wr) (fun _ q _=>ws.length - (intOf q).toNat)
    case atStart=>exact ⟨0,[],[],by omega,rfl,rfl,rfl,by simp,⟨rfl,.inl ⟨rfl,rfl⟩⟩,(fun x hx=>by cases hx),Mod.refl _ _⟩
    case round =>
     obtain ⟨k,bs,bss,hk,rfl,hall,hbs,hbl,hown,heach,hmod⟩:=hrel
     have HO:=zh hown
     have HE:=zh heach
     have HM:=zh hmod
     have HA:=zh hall
     have HBS:=zh hbs
     have hk0:(0:Int)<=(k:Int):=Int.natCast_nonneg _
     obtain ⟨ua,uc,rfl⟩:=own_len HO.out
     clear hown heach hmod hall hbs
     by_cases hlt:k < ws.length
     ·have hk1:(k:Int) < (ws.length:Int):=by omega
      obtain ⟨fb,fo,fc,hvs,_⟩:=HW1.out.shape (by omega)
      cases hvs
      have hcell:=HM.out.cell (HW1.out.cellN (i:=k) (by rw [strs_length];exact hlt)) (fun f=>f)
      rw [show (strs ws)[k]'(by rw [strs_length];exact hlt)=strV ws[k] from by simp [strs]] at hcell
      have hwk:=HWD.out _ (List.getElem_mem hlt)
      have HWO:=zh (word_any ws[k] (by omega))
      have HAT:=zh (show ∀ b,boundsL ws[k]=some b->allO boundsL (ws.take (k+1))=some (bss++[b]) from fun b hb=>allO_take hlt HA.out hb)
      have HAF:=zh (show boundsL ws[k]=none->allO boundsL ws=none from fun hb=>allO_fail hlt hb)
      have HGL:=zh (HX.out _ ((HS.out.mod.trans HM1.out).trans HM.out))
      unfold strV at *
      generalize ws[k]=wk at *
      gi_wp2
      refine ⟨trivial,(CallsIn.inRound lp (callsIn_wide.2 (HWO.out _ HGL.out))).mono ?_⟩
      rintro e W2 ⟨hv,hm2⟩
      rcases hv with ⟨hn,rfl⟩ | ⟨bk,vv,hbk,rfl,hbx⟩
      ·have HBD:=zh (show SpBad (pre++[y]) from .inl ⟨y,by simp,by rw [HLL2.out,HAF.out hn];rfl⟩)
       have hmz:=(HM1.out.trans HM.out).trans hm2
       have HFL:=zh (HS.out.fail hmz HPL.out HBD.out)
       have c2:=cell_ofA (hmz.keep HS.out.res2 (fun f=>f)) (i:=0) rfl
       have c2':=cell_ofA (hmz.keep HS.out.res2 (fun f=>f)) (i:=1) rfl
       have c3:=cell_ofA (hmz.keep HS.out.res3 (fun f=>f)) (i:=0) rfl
       have f2:=frozen_of 0 (hmz.keep HS.out.res2 (fun f=>f))
       have f2':=frozen_of 1 (hmz.keep HS.out.res2 (fun f=>f))
       have f3:=frozen_of 0 (hmz.keep HS.out.res3 (fun f=>f))
       clear hn hm2 hmz HBD hcell HWO HAT HAF
       gi_wp2
       exact HFL.out
      ·obtain ⟨ys,hy1,hy2,hy3⟩:=hbx
       have HY2:=zh (show ∀ x ∈ ys,Sl W2 (fun p=>p=sb) 9 x.pv x.b.v.pre.length (strs x.b.v.pre) from fun x hx=>(hy2 x hx).shrink (fun p hp (e:p=sb)=>by
        have h1:=HPL.out.p4.2.1
        have h2:=HM.out.size
        have h3:=HM1.out.size
        have h4:=HS.out.size
        show p < wr.heap.size
        omega))
       obtain ⟨hb0,hb2⟩:=bounds_few hbk
       have hyn:ys.length=bk.length:=by rw [<- hy1,List.length_map]
       have HY3:=zh (hy3.shrink (Y:=No) (fun _ _ f=>f.elim))
       obtain ⟨vb,vo,vc,hvs,_⟩:=HY3.out.shape (by omega)
       cases hvs
       have HAK:=zh (HAT.out _ hbk)
       have HO2:=zh (own_keepM HO.out hm2 (fun _ _ f=>f))
       have HE2:=zh (show ∀ x ∈ bs,Sl W2 (fun p=>p=sb) 9 x.pv x.b.v.pre.length (strs x.b.v.pre) from fun x hx=>(HE.out x hx).kn hm2)
       have HM2:=zh (HM.out.trans hm2)
       have HY1:=zh hy1
       obtain ⟨i0,hi0,hz0,hz1,hz2⟩:=info_parts info_bound
       have hlen5:(ys.flatMap BndX.cells).length=bk.length*5:=by rw [flat_length BndX.cells_length,hyn]
       have hbase:=HM2.out.size
       clear hy1 hy2 hy3 hbk hm2 HAT HAF HWO hcell HO HE HM HGL hwk
       gi_wp2_with (gi_at_builtin;refine wpListIn_append_own _ rfl _ _ 252 rfl W1.heap.size 255 i0 (.agg #[.string ⟨#[]⟩,.int .i64 0,.int .i64 0,.int .i64 0,.slice none 0 0]) 5 64 underlying252 hi0 hz0 hz1 hz2 rfl (by decide) _ _ _ rfl HO2.out ⟨vb,vo,none⟩ bk.length vc (ys.flatMap BndX.cells) rfl hlen5 (fun j u hu=>by
        rw [Addr.add_lit]
        have hj:j < (ys.flatMap BndX.cells).length:=(List.getElem?_eq_some_iff.1 hu).1
        rw [Sl.cell HY3.out hj];exact hu) (bnd_one HY2.out) ?_ ?_ hbase ?_)
       ·unfold maxLen;omega
       ·omega
       intro v' W3 hown3 hg3 _
       have HM3:=zh (show Mod (fun q=>(Value.slice ua bs.length uc).ownBlock=some q) W2 W3 from Mod.of_grown hg3 (fun q e _=>e))
       have HOB:=zh (fun q (e:(Value.slice ua bs.length uc).ownBlock=some q)=>own_block_heap HO2.out e)
       have HE3:=zh (show ∀ x ∈ bs++ys,Sl W3 (fun p=>p=sb) 9 x.pv x.b.v.pre.length (strs x.b.v.pre) from fun x hx=>by
        have hk:Sl W2 (fun p=>p=sb) 9 x.pv x.b.v.pre.length (strs x.b.v.pre):=(List.mem_append.1 hx).elim (HE2.out x) (HY2.out x)
        refine hk.keep HM3.out (fun q cur fz e _ hh=>?_)
        obtain ⟨_,cur',hh2⟩:=HOB.out q e
        rw [hh] at hh2
        cases hh2)
       have HM4:=zh (HM2.out.then HM3.out (S:=No) (fun i hi e=>by have:=(HOB.out i e).1;omega))
       have HO3:=zh hown3
       clear hown3 hg3
       obtain ⟨za,zc,rfl⟩:=own_len HO3.out
       gi_wp2
       go_roundw
       case rel=>exact ⟨k+1,bs++ys,bss++[bk],by omega,rfl,HAK.out,by rw [List.map_append,HBS.out,HY1.out];simp,by rw [List.length_append];omega,by rw [List.length_append,hyn,List.flatMap_append];exact HO3.out,HE3.out,HM4.out⟩
       case measure=>show ws.length - ((k:Int)+1).toNat < ws.length - (k:Int).toNat;omega
     ·obtain rfl:k=ws.length:=by omega
      have hE:ws.take ws.length=ws:=List.take_length
      rw [hE] at HA
      have hk1:¬ (ws.length:Int) < (ws.length:Int):=by omega
      clear hE hlt
      have HLY:=zh (show listL y=some bss.flatten by rw [HLL2.out,HA.out];rfl)
      have ho:=(HM1.out.trans HM.out).keep HS.out.out (fun f=>f)
      have o1:=cell_ofA ho (i:=1) rfl
      have f1:=frozen_of 1 ho
      have hmA:=(HM1.out.trans HM.out).alloc (.cells #[.slice ua bs.length uc] 252)
      have HOV:=zh (own_keepM HS.out.own hmA (fun _ _ f=>f))
      have HMA:=zh hmA
      have hbase:w4.heap.size<=(wr.alloc (.cells #[.slice ua bs.length uc] 252)).heap.size:=Nat.le_trans HS.out.size hmA.size
      have HNEW:=zh (show BndsX (fun p=>p=sb) (wr.alloc (.cells #[.slice ua bs.length uc] 252)) (.slice ua bs.length uc) bss.flatten from
       ⟨bs,HBS.out,fun x hx=>(HE.out x hx).keep (S:=No) ((Mod.refl No wr).alloc _) (fun _ _ _ f=>f.elim),by
        rw [<- HBS.out,List.length_map]
        refine Sl.keep (S:=No) (Sl.of_own (X:=fun p=>p=sb) HO.out (fun q hq e=>?_)) ((Mod.refl No wr).alloc _) (fun _ _ _ f=>f.elim)
        have h1:=HPL.out.p4.2.1
        have h3:=HM1.out.size
        have h4:=HS.out.size
        omega⟩)
      obtain ⟨i1,hi1,hy0,hy1,hy2⟩:=info_parts info_bounds
      clear hmA HO HE HBS HA
      gi_wp2_with (gi_at_builtin;refine wpListIn_append_own _ rfl _ _ 109 rfl w4.heap.size 252 i1 (.slice none 0 0) 1 24 underlying109 hi1 hy0 hy1 hy2 rfl (by decide) _ _ _ rfl HOV.out ⟨wr.heap.size,0,none⟩ 1 1 [.slice ua bs.length uc] rfl rfl (fun j u hu=>by
        have hj:j < 1:=(List.getElem?_eq_some_iff.1 hu).1
        obtain rfl:j=0:=by omega
        rw [Addr.add_lit]
        have:=heap_alloc_new wr (.cells #[.slice ua bs.length uc] 252)
        rw [cell_ofA this (i:=0) rfl];exact hu) (by simp [Value.oneCell']) ?_ ?_ hbase ?_)
      ·unfold maxLen;omega
      ·omega
      intro v' W3 hown3 hg3 _
      have HFIN:=zh (fun v'' (e:v'=v'')=>HS.out.more (v':=v'') HMA.out HPL.out HLY.out hx7 hg3 (e ▸ hown3) HNEW.out)
      have ho3:W3.heap[ob]? = some (.cells #[.bool false,.slice oa xs.length oc] 111 (0,0)) :=
       (Mod.of_grown (S:=fun q=>(Value.slice oa xs.length oc).ownBlock=some q) hg3 (fun q e _=>e)).keep (heap_alloc_old _ ho) (fun e=>by have h1:=(own_block_heap HOV.out e).1;have h2:=HPL.out.p3.1;have h3:=HPL.out.p4.1;omega)
      have o3:=cell_ofA ho3 (i:=1) rfl
      have f3:=frozen_of 1 ho3
      obtain ⟨za,zc,hz⟩:=own_len hown3
      have HF2:=zh (HFIN.out _ hz)
      clear HFIN hown3 hg3 ho3 o1 f1 ho HNEW HOV HMA hbase
      subst hz
      gi_wp2
      exact ⟨HF2.out.1,_,_,HF2.out.2⟩
  case done =>
   rintro D W hD ⟨ov,xs,hs⟩ hK
   have HG:=zh (show spanL l=some ⟨false,xs.map OrX.l⟩ from span_good hst hs.few hs.all)
   obtain ⟨oa,oc,rfl⟩:=own_len hs.own
   have HD:=zh (hs.done HPL.out hD hK)
   have c2:=cell_ofA hs.res2 (i:=0) rfl
   have c2':=cell_ofA hs.res2 (i:=1) rfl
   have c3:=cell_ofA hs.res3 (i:=0) rfl
   have f2:=frozen_of 0 hs.res2
   have f2':=frozen_of 1 hs.res2
   have f3:=frozen_of 0 hs.res3
   have o0:=cell_ofA hs.out (i:=0) rfl
   have o1:=cell_ofA hs.out (i:=1) rfl
   clear hs hK
   gi_wp2
   refine ⟨by simp,.inl ⟨_,_,rfl,run_takeDeferred HD.out.1,?_⟩⟩
   have hl2:=load_span HD.out.2.1
   have hl3:=load_errno HD.out.2.2.1
   exact ⟨.tuple #[.agg #[.bool false,.slice oa xs.length oc],.int .i64 0],by simp [results,results220,asAddr,hl2,hl3],fin hR ⟨.inr ⟨_,_,HG.out,rfl,HD.out.2.2.2.1⟩,HD.out.2.2.2.2⟩⟩
  case stop =>
   rintro D pre W hD hpre hx hK
   have HG:=zh (show spanL l=none from span_bad hst hpre hx.bad)
   have HD:=zh (hx.done HPL.out hD)
   have HK:=zh hK
   clear hx hK
   gi_wp2
   refine ⟨by simp,.inl ⟨_,_,rfl,run_takeDeferred HK.out,?_⟩⟩
   have hl2:=load_span HD.out.1
   have hl3:=load_errno HD.out.2.1
   exact ⟨.tuple #[.agg #[.bool false,.slice none 0 0],.int .i64 61],by simp [results,results220,asAddr,hl2,hl3],fin hR ⟨.inl ⟨HG.out,rfl⟩,HD.out.2.2⟩⟩
end Go.Proofs.YtmppeipgjcjdkaaGreatDoor
namespace Go.Proofs.YtmppeipgjcjdkaaGreatDoor
open _root_.Go.Proofs.Tryz
open Go.RowKit
set_option maxRecDepth 100000 in
set_option maxHeartbeats 8000000 in
theorem need_any (s:List UInt8) (hl:s.length<=1000000) (w:World) (hgl:Gl w) :
  Calls prog 159 #[strV s] w fun e w'=>NeedRes w' (needLine s) e/\Mod No w w':=by
 refine calls_hide fun R hR=>?_
 have HCP:=zh (show ∀ w,Calls prog 156 #[strV s,.string ⟨#[110,101,101,100,32]⟩] w fun e w'=>e=.returned (.tuple #[strV (Lib.trimPrefix s [110,101,101,100,32]),.bool (decide (s.take 5=[110,101,101,100,32]))])/\w'=w from fun w =>
  (Tryz.strings_CutPrefix ⟨s.toArray⟩ ⟨#[110,101,101,100,32]⟩ w).mono fun e w' ⟨he,hw⟩=>⟨he.trans (by
   have h1:=prefix_iff s [110,101,101,100,32]
   rw [show ([110,101,101,100,32]:List UInt8).length=5 from rfl] at h1
   rw [<- h1]),hw⟩)
 have HRL:=zh (show (Lib.trimPrefix s [110,101,101,100,32]).length<=1000000 by
  unfold Lib.trimPrefix
  split
  ·rw [List.length_drop];omega
  ·exact hl)
 have HNL:=zh (show needLine s=if s.take 5=[110,101,101,100,32] then needL (Lib.trimPrefix s [110,101,101,100,32]) else none by
  unfold needLine Lib.trimPrefix
  have h1:=prefix_iff s [110,101,101,100,32]
  rw [show ([110,101,101,100,32]:List UInt8).length=5 from rfl] at h1
  rw [h1]
  by_cases h:s.take 5=[110,101,101,100,32]
  ·rw [if_pos h,if_pos h,if_pos (by simpa using h)];rfl
  ·rw [if_neg h,if_neg h])
 generalize Lib.trimPrefix s [110,101,101,100,32]=r at *
 have HCU:=zh (fun w h=>cut_any 32 r HRL.out w h)
 have HND:=zh (show needL r=if 32 ∈ r/\nameB (headC 32 r)=true then (spanL (tailC 32 r)).map (fun s=>⟨headC 32 r,s,tailC 32 r⟩) else none from rfl)
 have HNM:=zh (name_any (headC 32 r) (Nat.le_trans (headC_le 32 r) HRL.out))
 have HSP:=zh (span_any (tailC 32 r) (Nat.le_trans (tailC_le 32 r) HRL.out))
 have HG:=zh hgl
 clear hgl hl
 generalize headC 32 r=hd at *
 generalize tailC 32 r=tl at *
 unfold strV at *
 generalize (⟨s.toArray⟩:ByteArray)=Z at *
 generalize (⟨r.toArray⟩:ByteArray)=Y at *
 generalize hHe:(⟨hd.toArray⟩:ByteArray)=H at *
 generalize hTe:(⟨tl.toArray⟩:ByteArray)=T at *
 have HHE:=zh (And.intro hHe hTe)
 clear hHe hTe
 go_enter func159,ntmps159
 go_upto_region 1 with fail
 obtain ⟨r2,hr2⟩:∃ g,g=w.heap.size:=⟨_,rfl⟩
 rw [<- hr2]
 generalize hw1:World.alloc w _=w1
 have H21:=zh (show w1.heap[r2]? = some (.cells #[.string ⟨#[]⟩,.bool false,.slice none 0 0,.string ⟨#[]⟩] 113 (0,0)) by rw [<- hw1,hr2];exact heap_alloc_new w _)
 have HM1:=zh (show Mod No w w1 by rw [<- hw1];exact (Mod.refl No w).alloc _)
 have HR:=zh hr2
 clear hw1 hr2
 go_wp2_with fail
 with_reducible refine (HCP.out _).mono ?_
 rintro e wA ⟨rfl,rfl⟩
 go_wp2_with fail
 with_reducible refine (HCU.out _ (HG.out.stay HM1.out (fun f=>f))).mono ?_
 rintro e w2 ⟨rfl,hm2⟩
 have HM2:=zh (HM1.out.trans hm2)
 have H22:=zh (hm2.keep H21.out (fun f=>f))
 clear hm2 HM1 H21 HCU HCP
 have key:∀ (b1 b2 nb:Bool),b1=decide (s.take 5=[110,101,101,100,32])->b2=decide (32 ∈ r)->nb=nameB hd->(needLine s=if b1=true/\b2=true/\nb=true then (spanL tl).map (fun s=>⟨hd,s,tl⟩) else none):=fun b1 b2 nb h1 h2 h3=>by
  rw [HNL.out,HND.out,h1,h2,h3]
  by_cases a:s.take 5=[110,101,101,100,32]
  ·by_cases b:32 ∈ r
   ·simp [a,b]
   ·simp [a,b]
  ·simp [a]
 obtain ⟨b1,hb1⟩:∃ b,b=decide (s.take 5=[110,101,101,100,32]):=⟨_,rfl⟩
 obtain ⟨b2,hb2⟩:∃ b,b=decide (32 ∈ r):=⟨_,rfl⟩
 rw [<- hb1,<- hb2]
 have HK:=zh (key b1 b2 (nameB hd) hb1 hb2 rfl)
 clear key hb1 hb2 HNL HND
 generalize nameB hd=nb at *
 obtain ⟨⟨c0,c1,c2,c3⟩,f0,f1,f2,f3⟩:=cells4 H22.out
 have k2:=set4 H22.out (.string ⟨#[]⟩) (.bool false) (.slice none 0 0) (.string ⟨#[]⟩)
 have hl0:=load_need k2
 have HMz:=zh (HM2.out.set4 (b:=r2) (fun h=>by have:=HR.out;omega) (.string ⟨#[]⟩) (.bool false) (.slice none 0 0) (.string ⟨#[]⟩))
 clear k2
 rcases b1 with _ | _
 ·have HN:=zh (show needLine s=none by rw [HK.out];simp)
  go_wp2_with fail
  exact bodyPost_ret (v:=.tuple #[.agg #[.string ⟨#[]⟩,.bool false,.slice none 0 0,.string ⟨#[]⟩],.bool false]) (by simp [results,results159,asAddr,hl0]) rfl (fin hR ⟨by rw [HN.out];exact ⟨_,_,_,_,_,_,rfl⟩,HMz.out⟩)
 ·rcases b2 with _ | _
  ·have HN:=zh (show needLine s=none by rw [HK.out];simp)
   go_wp2_with fail
   exact bodyPost_ret (v:=.tuple #[.agg #[.string ⟨#[]⟩,.bool false,.slice none 0 0,.string ⟨#[]⟩],.bool false]) (by simp [results,results159,asAddr,hl0]) rfl (fin hR ⟨by rw [HN.out];exact ⟨_,_,_,_,_,_,rfl⟩,HMz.out⟩)
  ·go_wp2_with fail
   with_reducible refine (HNM.out _).mono ?_
   rintro e wB ⟨rfl,rfl⟩
   rcases nb with _ | _
   ·have HN:=zh (show needLine s=none by rw [HK.out];simp)
    go_wp2_with fail
    exact bodyPost_ret (v:=.tuple #[.agg #[.string ⟨#[]⟩,.bool false,.slice none 0 0,.string ⟨#[]⟩],.bool false]) (by simp [results,results159,asAddr,hl0]) rfl (fin hR ⟨by rw [HN.out];exact ⟨_,_,_,_,_,_,rfl⟩,HMz.out⟩)
   ·have HK2:=zh (show needLine s=(spanL tl).map (fun s=>⟨hd,s,tl⟩) by rw [HK.out];simp)
    clear HK HMz hl0 c0 c1 c2 c3 f0 f1 f2 f3 HNM
    go_wp2_with fail
    with_reducible refine (HSP.out _ (HG.out.stay HM2.out (fun f=>f))).mono ?_
    rintro e w3 ⟨hv,hm3⟩
    have HM3:=zh (HM2.out.trans hm3)
    have H23:=zh (hm3.keep H22.out (fun f=>f))
    clear hm3 HM2 H22 HSP
    have hlt:=lt_of_heap H23.out
    have hne:r2 ≠ w3.heap.size:=by omega
    have HA2:=zh (fun o=>heap_alloc_old o H23.out)
    rcases hv with ⟨hn,rfl⟩ | ⟨⟨an,os⟩,ov,hsp,rfl,hor⟩
    ·have HN:=zh (show needLine s=none by rw [HK2.out,hn];rfl)
     go_upto_region 6 with fail
     obtain ⟨gv,hgv⟩:∃ g,g=w3.heap.size:=⟨_,rfl⟩
     rw [<- hgv] at hne ⊢
     generalize hw4:World.alloc w3 _=w4
     have HV:=zh (show w4.heap[gv]? = some (.cells #[.bool false,.slice none 0 0] 111 (0,0)) by rw [<- hw4,hgv];exact heap_alloc_new w3 _)
     have H24:=zh (show w4.heap[r2]? = some (.cells #[.string ⟨#[]⟩,.bool false,.slice none 0 0,.string ⟨#[]⟩] 113 (0,0)) by rw [<- hw4];exact HA2.out _)
     have HM4:=zh (show Mod No w w4 by rw [<- hw4];exact HM3.out.alloc _)
     clear hw4 hgv HA2 hlt
     obtain ⟨⟨c0,c1,c2,c3⟩,f0,f1,f2,f3⟩:=cells4 H24.out
     have v0:=cell_ofA HV.out (i:=0) rfl
     have v1:=cell_ofA HV.out (i:=1) rfl
     have k2:=set4 H24.out (.string H) (.bool false) (.slice none 0 0) (.string T)
     have hl0:=load_need k2
     have HMz:=zh (HM4.out.set4 (b:=r2) (fun h=>by have:=HR.out;omega) (.string H) (.bool false) (.slice none 0 0) (.string T))
     clear k2
     go_wp2_with fail
     exact bodyPost_ret (v:=.tuple #[.agg #[.string H,.bool false,.slice none 0 0,.string T],.bool false]) (by simp [results,results159,asAddr,hl0]) rfl (fin hR ⟨by rw [HN.out];exact ⟨_,_,_,_,_,_,rfl⟩,HMz.out⟩)
    ·obtain ⟨xs,hx1,hx2,hx3⟩:=hor
     obtain ⟨oa,oc,rfl⟩:=hx3.len
     dsimp only at *
     have HO3:=zh (show OrsAt w3 (.slice oa os.length oc) os from ⟨xs,hx1,hx2,hx3⟩)
     have HN:=zh (show needLine s=some ⟨hd,⟨an,os⟩,tl⟩ by rw [HK2.out,hsp];rfl)
     clear hx1 hx2 hx3 hsp HK2
     go_upto_region 6 with fail
     obtain ⟨gv,hgv⟩:∃ g,g=w3.heap.size:=⟨_,rfl⟩
     rw [<- hgv] at hne ⊢
     generalize hw4:World.alloc w3 _=w4
     have HV:=zh (show w4.heap[gv]? = some (.cells #[.bool an,.slice oa os.length oc] 111 (0,0)) by rw [<- hw4,hgv];exact heap_alloc_new w3 _)
     have H24:=zh (show w4.heap[r2]? = some (.cells #[.string ⟨#[]⟩,.bool false,.slice none 0 0,.string ⟨#[]⟩] 113 (0,0)) by rw [<- hw4];exact HA2.out _)
     have HM4:=zh (show Mod No w w4 by rw [<- hw4];exact HM3.out.alloc _)
     have HO4:=zh (show OrsAt w4 (.slice oa os.length oc) os by rw [<- hw4];exact OrsAt.keep HO3.out ((Mod.refl No w3).alloc _) (Apart.no _ _))
     clear hw4 hgv HA2 hlt
     obtain ⟨⟨c0,c1,c2,c3⟩,f0,f1,f2,f3⟩:=cells4 H24.out
     have v0:=cell_ofA HV.out (i:=0) rfl
     have v1:=cell_ofA HV.out (i:=1) rfl
     have k2:=set4 H24.out (.string H) (.bool an) (.slice oa os.length oc) (.string T)
     have hl0:=load_need k2
     have HMz:=zh (HM4.out.set4 (b:=r2) (fun h=>by have:=HR.out;omega) (.string H) (.bool an) (.slice oa os.length oc) (.string T))
     have HOz:=zh (OrsAt.keep HO4.out (Mod.set4 (S:=fun p=>p=r2) (b:=r2) (Mod.refl _ w4) (fun _=>rfl) (.string H) (.bool an) (.slice oa os.length oc) (.string T)) (fun q cur fz e hq hc hm=>by
      have e2:q=r2:=hq
      subst e2
      rw [H24.out] at hc;cases hc;simp at hm))
     clear k2
     go_wp2_with fail
     exact bodyPost_ret (v:=.tuple #[.agg #[.string H,.bool an,.slice oa os.length oc,.string T],.bool true]) (by simp [results,results159,asAddr,hl0]) rfl (fin hR ⟨by rw [HN.out];exact ⟨_,_,_,by rw [<- HHE.out.1,<- HHE.out.2],HOz.out⟩,HMz.out⟩)
end Go.Proofs.YtmppeipgjcjdkaaGreatDoor
