/-
  Layers 0 to 14: helps of the laws of indexes. No statement is proved here; no condition.
-/
import Derived.Test.YticfcmdjplmaeaaGreatDoorX01
import Derived.Test.YticfcmdjplmaeaaGreatDoorX05
import Derived.Test.YticfcmdjplmaeaaGreatDoorX04
import Derived.RangeFuncNested
import Derived.RangeFuncBound
import Derived.RangeFuncCalls
import Derived.RangeFuncLeaves
import Derived.Shelf.Abstract
import Derived.Shelf.RegionOpen
import Derived.WalkKit
import Derived.OwnWalkIn
import Derived.TacticsInMore
import Derived.LoopNIn
import Derived.LoopIn
set_option maxRecDepth 100000
set_option maxHeartbeats 64000000
namespace Go.Proofs.YticfcmdjplmaeaaGreatDoor
open _root_.Go.Proofs.Tryz
open Go.RowKit Go.Shelf
attribute [local go_sem] Oper.semAt_some
structure Bx3 (w:World) (eb sb nb:Nat) (x:List UInt8):Prop where
 e:w.heap[eb]? = some (.cells #[.string ⟨#[124,124]⟩] 9 (0,0))
 s:w.heap[sb]? = some (.cells #[strV x] 9 (0,0))
 n:w.heap[nb]? = some (.cells #[.int .i64 0] 3 (0,0))
 es:eb ≠ sb
 sn:sb ≠ nb
theorem Bx3.set {w:World} {eb sb nb:Nat} {x:List UInt8} (h:Bx3 w eb sb nb x) (y:List UInt8):Bx3 (w.setCell ⟨sb,0,none⟩ (strV y)) eb sb nb y :=
 ⟨by rw [heap_setCell_ne _ (by dsimp only;exact h.es)];exact h.e,by rw [heap_setCell h.s];rfl,by rw [heap_setCell_ne _ (by dsimp only;exact h.sn.symm)];exact h.n,h.es,h.sn⟩
def boxLen (sb:Nat) (w:World):Nat:=match w.cell? ⟨sb,0,none⟩ with
 | some (.string s)=>s.size
 | _=>0
theorem boxLen_eq {w:World} {eb sb nb:Nat} {x:List UInt8} (h:Bx3 w eb sb nb x):boxLen sb w=x.length:=by
 unfold boxLen;rw [cell_ofA h.s (i:=0) rfl];exact str_len3 x
theorem splitseq_in (x:List UInt8) (hx:x.length<=1000000) (n l eb sb nb:Nat) (J Jx:List (List UInt8)->World->Prop)
  (hG:∀ pre W,J pre W->Gl W)
  (hJ:∀ pre W v,J pre W->J pre (W.setCell ⟨sb,0,none⟩ v))
  (hY:∀ pre y W,J pre W->pre++[y] <+: splitO x->YieldAt Fence.wide (n - 1) prog l #[strV y] W fun e W' =>
   (e=.returned (.bool true)/\J (pre++[y]) W'/\∀ z,Bx3 W eb sb nb z->Bx3 W' eb sb nb z)\/(e=.returned (.bool false)/\Jx (pre++[y]) W'))
  (W:World) (hB:Bx3 W eb sb nb x) (h0:J [] W) :
  CallsIn Fence.wide n prog 268 #[.func (.yield l) #[] #[],.pointer (some ⟨eb,0,none⟩),.pointer (some ⟨sb,0,none⟩),.pointer (some ⟨nb,0,none⟩)] W fun e W' =>
   (∃ v,e=.returned v)/\(J (splitO x) W'\/∃ pre,pre <+: splitO x/\Jx pre W'):=by
 refine callsIn_of_wp func268 rfl trivial ?_;simp only [ntmps268,List.size_toArray,List.length_cons,List.length_nil,Nat.reduceAdd,Nat.reduceSub,Array.replicate_succ,Array.replicate_zero,List.push_toArray,List.append_toArray,List.nil_append,List.cons_append];have e0:=cell_ofA hB.e (i:=0) rfl;gi_wp2
 clear e0;gi_loopw [7] (fun i wr=>∃ (pre:List (List UInt8)) (r:List UInt8),r.length<=1000000/\splitO x=pre++splitO r/\Bx3 wr eb sb nb r/\J pre wr) (fun _ wr=>boxLen sb wr)
 case atStart=>exact ⟨[],x,hx,rfl,hB,h0⟩
 case round =>
  obtain ⟨pre,r,hr,hs,hb,hj⟩:=hrel;obtain ⟨m,hm⟩:=hG _ _ hj;have e0:=cell_ofA hb.e (i:=0) rfl;have s0:=cell_ofA hb.s (i:=0) rfl;have n0:=cell_ofA hb.n (i:=0) rfl;have HIX:=zh (show Calls prog 217 #[strV r,.string ⟨#[124,124]⟩] wr fun e w'=>e=.returned (.int .i64 (Lib.index r [124,124]))/\w'=wr from
   Tryz.strings_Index ⟨r.toArray⟩ ⟨#[124,124]⟩ m wr (by rw [str_len3];omega) hm)
  have HBL:=zh (boxLen_eq hb);have HB2:=zh hb;by_cases hno:Lib.index r [124,124] = -1
  ·have HS:=zh (show splitO x=pre++[r] by rw [hs,splitO_none r hno]);rw [hno] at HIX;obtain ⟨fn,tmps,assign,body,hy,hR⟩:=hY pre r wr hj (by rw [HS.out];exact List.prefix_rfl);clear hm hno hb hs hJ hG;unfold strV at *;gi_wp2
   refine ⟨trivial,(fun h=>by cases h),(callsIn_wide.2 HIX.out).mono ?_⟩
   rintro e w2 ⟨rfl,rfl⟩;gi_wp2
   refine ⟨(fun h=>by cases h),hR.mono ?_⟩
   rintro e W3 (⟨rfl,hJ3,hk3⟩ | ⟨rfl,hJx3⟩)
   ·gi_wp2
    go_end0
    exact ⟨⟨_,rfl⟩,.inl (by rw [HS.out];exact hJ3)⟩
   ·gi_wp2
    go_end0
    exact ⟨⟨_,rfl⟩,.inr ⟨_,by rw [HS.out];exact List.prefix_rfl,hJx3⟩⟩
  ·obtain ⟨i,hi⟩:∃ i:Nat,Lib.index r [124,124]=(i:Int):=⟨(Lib.index r [124,124]).toNat,by have:=Lib.index_ge r [124,124];omega⟩
   obtain ⟨hsp,hil⟩:=splitO_hit r i hi;rw [hi] at HIX;have HS:=zh (show splitO x=(pre++[r.take i])++splitO (r.drop (i+2)) by rw [hs,hsp];simp);obtain ⟨fn,tmps,assign,body,hy,hR⟩:=hY pre (r.take i) wr hj (by rw [HS.out];exact List.prefix_append _ _);have hto:=str_to r i;have hfrom:=str_from r (i+2);have HZ:=zh (str_len3 r);clear hm hno hb hs hG hsp hi;unfold strV at *;have q1:(0:Int)<=(i:Int):=Int.natCast_nonneg _;generalize hZe:(⟨r.toArray⟩:ByteArray)=Z at *;have hZs:(Z.size:Int)=(r.length:Int):=by rw [HZ.out]
   have q2:(i:Int)+2<=(Z.size:Int):=by omega
   have q3:wrap64 ((i:Int)+2)=(i:Int)+2:=by unfold wrap64;omega
   have q4:wrap64 ((i:Int)+0)=(i:Int):=by unfold wrap64;omega
   gi_wp2
   refine ⟨trivial,(fun h=>by cases h),(callsIn_wide.2 HIX.out).mono ?_⟩
   rintro e w2 ⟨rfl,rfl⟩;gi_wp2
   refine ⟨(fun h=>by cases h),hR.mono ?_⟩
   rintro e W3 (⟨rfl,hJ3,hk3⟩ | ⟨rfl,hJx3⟩)
   ·have hb3:=hk3 _ HB2.out;have e3:=cell_ofA hb3.e (i:=0) rfl;have s3:=cell_ofA hb3.s (i:=0) rfl;have f3:=frozen_of 0 hb3.s;have HB3:=zh (hb3.set (r.drop (i+2)));have HJ3:=zh (hJ _ _ (strV (r.drop (i+2))) hJ3);clear e0 s0 n0 hk3 hb3 hJ3 hJ hy hR;unfold strV at *;rw [hZe] at s3;gi_wp2
    go_roundw
    case rel=>exact ⟨pre++[r.take i],r.drop (i+2),by rw [List.length_drop];omega,HS.out,HB3.out,HJ3.out⟩
    case measure =>
     rw [boxLen_eq HB3.out,HBL.out,List.length_drop];omega
   ·gi_wp2
    refine bodyPost_ret (results_none rfl _ _ _) rfl ?_;exact ⟨⟨_,rfl⟩,.inr ⟨_,by rw [HS.out];exact List.prefix_append _ _,hJx3⟩⟩
end Go.Proofs.YticfcmdjplmaeaaGreatDoor
namespace Go.Proofs.YticfcmdjplmaeaaGreatDoor
open _root_.Go.Proofs.Tryz
open Go.RowKit
theorem splitseq0_any (x:List UInt8) (w:World):Calls prog 226 #[strV x,.string ⟨#[124,124]⟩,.int .i64 0] w fun e w' =>
  ∃ eb sb nb,e=.returned (.func (.func 268) #[] #[.pointer (some ⟨eb,0,none⟩),.pointer (some ⟨sb,0,none⟩),.pointer (some ⟨nb,0,none⟩)])/\Bx3 w' eb sb nb x/\Mod No w w'/\(w.heap.size<=eb/\w.heap.size<=sb/\w.heap.size<=nb):=by
 refine calls_hide fun R hR=>?_
 unfold strV at *;generalize hZ:(⟨x.toArray⟩:ByteArray)=Z at *;go_enter func226,ntmps226
 go_wp2_with fail
 refine fin hR ⟨_,_,_,rfl,⟨?_,?_,?_,?_,?_⟩,(((Mod.refl No w).alloc _).alloc _).alloc _,?_⟩
 ·have h1:=heap_alloc_new (w.alloc (.cells #[.string Z] 9)) (.cells #[.string ⟨#[124,124]⟩] 9);rw [World.size_alloc] at h1;exact heap_alloc_old _ h1
 ·unfold strV;rw [hZ];exact heap_alloc_old _ (heap_alloc_old _ (heap_alloc_new w _))
 ·have h1:=heap_alloc_new ((w.alloc (.cells #[.string Z] 9)).alloc (.cells #[.string ⟨#[124,124]⟩] 9)) (.cells #[.int .i64 0] 3);rw [World.size_alloc,World.size_alloc] at h1;exact h1
 ·omega
 ·omega
 ·omega
theorem splitseq_any (x:List UInt8) (w:World):Calls prog 173 #[strV x,.string ⟨#[124,124]⟩] w fun e w' =>
  ∃ eb sb nb,e=.returned (.func (.func 268) #[] #[.pointer (some ⟨eb,0,none⟩),.pointer (some ⟨sb,0,none⟩),.pointer (some ⟨nb,0,none⟩)])/\Bx3 w' eb sb nb x/\Mod No w w'/\(w.heap.size<=eb/\w.heap.size<=sb/\w.heap.size<=nb):=by
 refine calls_hide fun R hR=>?_
 have HS:=zh (splitseq0_any x w);unfold strV at *;generalize (⟨x.toArray⟩:ByteArray)=Z at *;go_enter func173,ntmps173
 go_wp2_with fail
 with_reducible refine HS.out.mono ?_
 rintro e w' ⟨eb,sb,nb,rfl,h1,h2,h3⟩;go_wp2_with fail
 exact fin hR ⟨eb,sb,nb,rfl,h1,h2,h3⟩
end Go.Proofs.YticfcmdjplmaeaaGreatDoor
namespace Go.Proofs.YticfcmdjplmaeaaGreatDoor
open _root_.Go.Proofs.Tryz
open Go.RowKit Go.Shelf
attribute [local go_sem] Oper.semAt_some
def Aside (B sb:Nat) (W:World) (p:Nat):Prop:=p=sb\/(B<=p/\∃ o,W.heap[p]? = some o/\o.isCells=false)
abbrev Turn (B sb:Nat) (W W':World):Prop:=Mod (Aside B sb W) W W'
theorem Mod.putObj {S:Nat->Prop} (W:World) {l:Nat} (h:S l) (o:Obj):Mod S W (W.putObj l o) :=
 ⟨rfl,rfl,rfl,by simp,fun k _ hn=>World.putObj_heap_other (fun e=>hn (e ▸ h))⟩
theorem Turn.put {B sb:Nat} {W:World} {l:Nat} {o:Obj} (hB:B<=l) (hl:W.heap[l]? = some o) (ho:o.isCells=false) (o':Obj):Turn B sb W (W.putObj l o') :=
 Mod.putObj W (.inr ⟨hB,o,hl,ho⟩) o'
theorem Turn.new {B sb:Nat} (W:World) (o:Obj):Turn B sb W (W.alloc o):=(Mod.refl _ W).alloc o
theorem Turn.box {B sb:Nat} (W:World) (v:Value):Turn B sb W (W.setCell ⟨sb,0,none⟩ v):=(Mod.refl _ W).setCell (p:=⟨sb,0,none⟩) (fun _=>.inl rfl) v
structure Rd (B eb sb nb:Nat) (W W':World):Prop where
 same:∀ (k:Nat) (o:Obj),B<=k->W.heap[k]? = some o->o.isCells=false->W'.heap[k]? = some o
 box:∀ z,Bx3 W eb sb nb z->Bx3 W' eb sb nb z
def RdPost (B eb sb nb:Nat) (I:List (List UInt8)->World->Prop) (Ix:List (List UInt8)->World->Prop) (xs:List (List UInt8)) (W:World):Exit->Act->World->Prop
 | .normal,_,W'=>Rd B eb sb nb W W'/\I xs W'
 | .ret,_,W'=>Rd B eb sb nb W W'/\Ix xs W'
 | _,_,_=>False
theorem Bx3.keep {w w':World} {eb sb nb:Nat} {x:List UInt8} (h:Bx3 w eb sb nb x) {S:Nat->Prop} (hm:Mod S w w') (h1:¬ S eb) (h2:¬ S sb) (h3:¬ S nb):Bx3 w' eb sb nb x :=
 ⟨hm.keep h.e h1,hm.keep h.s h2,hm.keep h.n h3,h.es,h.sn⟩
theorem range_box {x:List UInt8} (hx:x.length<=1000000) {eb sb nb:Nat} {g:Operand} {p:Tmp} {assign body:Code} {Q:Exit->Act->World->Prop} {a:Act} {w:World} (n:Nat)
  (hg:a.eval g=.func (.func 268) #[] #[.pointer (some ⟨eb,0,none⟩),.pointer (some ⟨sb,0,none⟩),.pointer (some ⟨nb,0,none⟩)])
  (hB:Bx3 w eb sb nb x) (I Ix:List (List UInt8)->World->Prop)
  (hI:∀ pre W W',I pre W->Turn w.heap.size sb W W'->I pre W') (hIx:∀ pre W W',Ix pre W->Turn w.heap.size sb W W'->Ix pre W')
  (hG:∀ pre W,I pre W->Gl W) (h0:I [] w) (a₁:List UInt8->Act)
  (hassign:∀ (l:Nat) (y:List UInt8) (W:World) (K:Act->World->Prop),K (a₁ y) W →
   assign.wpIn (Fence.wide.inRound l) (n - 1 - 1) prog (Exit.then K (fun _ _ _=>False)) { tmps:=a.tmps.setIfInBounds p (strV y),defers:=[] } W)
  (hbody:∀ (l:Nat) (pre:List (List UInt8)) (y:List UInt8) (W:World),I pre W->pre++[y] <+: splitO x->body.wpIn (Fence.wide.inRound l) (n - 1 - 1) prog (RdPost w.heap.size eb sb nb I Ix (pre++[y]) W) (a₁ y) W)
  (hdone:∀ (D:Nat) (W:World),w.heap.size<=D->I (splitO x) W->W.heap[D]? = some (.deferred (some []))->Q .normal { a with defers:={ target:=.collected D,args:=#[] } :: a.defers } W)
  (hstop:∀ (D:Nat) (pre:List (List UInt8)) (W:World),w.heap.size<=D->pre <+: splitO x->Ix pre W->W.heap[D]? = some (.deferred (some []))->Code.ret.wpIn Fence.wide n prog Q { a with defers:={ target:=.collected D,args:=#[] } :: a.defers } W) :
  (Code.rangeFunc g #[p] assign body).wpIn Fence.wide n prog Q a w:=by
 have be:=lt_of_heap hB.e;have bs:=lt_of_heap hB.s;have bn:=lt_of_heap hB.n;refine wpIn_rangeFunc ?_;intro fn hfn;obtain ⟨L,hL⟩:∃ L:LoopState->Option Code->Loop,L=fun st pe=>{ state:=st,pending:=pe,fn,tmps:=a.tmps,params:=#[p],assign,body,defers:=w.heap.size }:=⟨_,rfl⟩
 obtain ⟨W1,hW1⟩:∃ W1,W1=(w.alloc (.deferred (some []))).alloc (.loop (L .ready none)):=⟨_,rfl⟩
 obtain ⟨lp,hlp⟩:∃ lp,lp=w.heap.size+1:=⟨_,rfl⟩
 have hl1:W1.heap[lp]? = some (.loop (L .ready none)):=by rw [hW1];exact heap_at_new _ _ (by rw [hlp];simp)
 have hd1:W1.heap[w.heap.size]? = some (.deferred (some [])):=by rw [hW1];exact heap_alloc_old _ (heap_alloc_new w _)
 have hb1:Bx3 W1 eb sb nb x:=by rw [hW1];exact hB.keep (S:=No) (((Mod.refl No w).alloc _).alloc _) (fun f=>f) (fun f=>f) (fun f=>f)
 have hi1:I [] W1:=by rw [hW1];exact hI _ _ _ (hI _ _ _ h0 (Turn.new _ _)) (Turn.new _ _)
 have hge:w.heap.size<=lp:=by omega
 refine ⟨lp,[{ target:=.collected w.heap.size,args:=#[] }],W1,{ target:=.fn (.func 268) #[.pointer (some ⟨eb,0,none⟩),.pointer (some ⟨sb,0,none⟩),.pointer (some ⟨nb,0,none⟩)],args:=#[.func (.yield lp) #[] #[]] },W1,268,
  #[.func (.yield lp) #[] #[],.pointer (some ⟨eb,0,none⟩),.pointer (some ⟨sb,0,none⟩),.pointer (some ⟨nb,0,none⟩)],W1,?_,?_,fun _ _=>trivial,?_,(fun h=>by cases h),?_⟩
 ·rw [hW1,hL,hlp];exact run_enterLoop_outer _ _ _ _ _
 ·simp only [resolve,hg];simp [go_sem]
 ·simp [invoke,go_sem]
 ·have hend:∀ (W W3:World) (c:Option Code),W.heap[lp]? = some (.loop (L .ready none))->W.heap[w.heap.size]? = some (.deferred (some []))->Rd w.heap.size eb sb nb (W.putObj lp (.loop (L .busy none))) W3 →
    (Instr.endRound lp c).run prog W3=.ok (.bool c.isNone) (W3.putObj lp (.loop (L (if c.isNone then .ready else .done) c))) ∧
    W3.heap[lp]? = some (.loop (L .busy none)) ∧
    (W3.putObj lp (.loop (L (if c.isNone then .ready else .done) c))).heap[lp]? = some (.loop (L (if c.isNone then .ready else .done) c)) ∧
    (W3.putObj lp (.loop (L (if c.isNone then .ready else .done) c))).heap[w.heap.size]? = some (.deferred (some [])):=fun W W3 c hl hd hr=>by
   have h1:=hr.same lp _ hge (World.putObj_heap_same (lt_of_heap hl)) rfl;have h2:=hr.same w.heap.size _ (Nat.le_refl _) ((World.putObj_heap_other (by omega)).trans hd) rfl;have h3:=run_endRound (P:=prog) c h1;rw [hL] at h3 ⊢;refine ⟨h3,by rw [<- hL];exact h1,World.putObj_heap_same (lt_of_heap h1),(World.putObj_heap_other (by omega)).trans h2⟩
  refine (splitseq_in x hx (n - 1) lp eb sb nb
   (fun pre W=>I pre W/\W.heap[lp]? = some (.loop (L .ready none))/\W.heap[w.heap.size]? = some (.deferred (some [])))
   (fun pre W=>Ix pre W/\W.heap[lp]? = some (.loop (L .done (some .ret)))/\W.heap[w.heap.size]? = some (.deferred (some [])))
   (fun pre W h=>hG pre W h.1)
   (fun pre W v h=>⟨hI _ _ _ h.1 (Turn.box W v),by rw [heap_setCell_ne _ (by dsimp only;omega)];exact h.2.1,by rw [heap_setCell_ne _ (by dsimp only;omega)];exact h.2.2⟩)
   ?_ W1 hb1 ⟨hi1,hl1,hd1⟩).mono ?_
  ·rintro pre y W ⟨hi,hl,hd⟩ hpre;have hy:=run_yield (P:=prog) (args:=#[strV y]) hl (by rw [hL];rfl);rw [hL] at hy;have hy:(Instr.yield lp #[strV y]).run prog W=.ok (.round lp fn (a.tmps.setIfInBounds p (strV y)) assign body) W:=by simpa using hy
   have hbz:∀ (W:World) (o:Obj),∀ z,Bx3 W eb sb nb z->Bx3 (W.putObj lp o) eb sb nb z:=fun W o z h=>h.keep (S:=fun k=>k=lp) (Mod.putObj (S:=fun k=>k=lp) W rfl o) (by omega) (by omega) (by omega)
   refine ⟨fn,_,assign,body,hy,roundIn_of_wpIn hfn ?_⟩
   refine hassign lp y W _ ?_;refine ⟨_,run_beginRound hl (by rw [hL]),?_⟩
   have e0:({ L .ready none with state:=.busy }:Loop)=L .busy none:=by rw [hL]
   rw [e0];refine wpIn_mono (hbody _ pre y _ (hI _ _ _ hi (Turn.put hge hl rfl _)) hpre) ?_;rintro e a3 W3 hp;cases e with
   | normal =>
    obtain ⟨hr,hi3⟩:=hp;obtain ⟨h1,h2,h3,h4⟩:=hend W W3 none hl hd hr;exact ⟨_,_,h1,.inl ⟨rfl,⟨hI _ _ _ hi3 (Turn.put hge h2 rfl _),h3,h4⟩,fun z hz=>hbz _ _ _ (hr.box _ (hbz _ _ _ hz))⟩⟩
   | ret =>
    obtain ⟨hr,hi3⟩:=hp;obtain ⟨h1,h2,h3,h4⟩:=hend W W3 (some .ret) hl hd hr;exact ⟨_,_,h1,.inr ⟨rfl,hIx _ _ _ hi3 (Turn.put hge h2 rfl _),h3,h4⟩⟩
   | exit id=>exact hp.elim
   | goto t=>exact hp.elim
   | panic ch=>exact hp.elim
   | outgrown=>exact hp.elim
  ·rintro e W2 ⟨⟨v,rfl⟩,h⟩;rcases h with ⟨hi,hl,hd⟩ | ⟨pre,hpre,hi,hl,hd⟩
   ·have h1:=run_endLoop (P:=prog) hl (by rw [hL];simp);rw [show (L .ready none).pending=none by rw [hL]] at h1;exact ⟨none,_,h1,hdone _ _ (Nat.le_refl _) (hI _ _ _ hi (Turn.put hge hl rfl _)) ((World.putObj_heap_other (by omega)).trans hd)⟩
   ·have h1:=run_endLoop (P:=prog) hl (by rw [hL];simp);rw [show (L .done (some .ret)).pending=some .ret by rw [hL]] at h1;exact ⟨some .ret,_,h1,hstop _ pre _ (Nat.le_refl _) hpre (hIx _ _ _ hi (Turn.put hge hl rfl _)) ((World.putObj_heap_other (by omega)).trans hd)⟩
end Go.Proofs.YticfcmdjplmaeaaGreatDoor
