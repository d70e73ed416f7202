/-
  StateTurned: for every input the law returns true, and its arguments read as they did; the card's listed variables are tied to the program's text. No conditions beyond the given statement's own.
-/
import Derived.Test.YtmppeipgjcjdkaaGreatDoorX44
import Derived.Test.YtmppeipgjcjdkaaGreatDoorX45
import Derived.Test.YtmppeipgjcjdkaaGreatDoorX16
import Derived.Test.YtmppeipgjcjdkaaGreatDoorX46
import Derived.Test.YtmppeipgjcjdkaaGreatDoorX49
import Derived.Test.YtmppeipgjcjdkaaGreatDoorCards
import Derived.Test.YtmppeipgjcjdkaaGreatDoorTie
import Derived.SevenTiedAt
import Derived.ProofKit
import Derived.OpenShut
import Derived.ShutString
import Derived.ChangeOld
import Derived.Shelf.Vars
import Derived.Deep.DeepHandedRow
import Derived.Deep.DeepWitnessRowRef
namespace Go.Proofs.YtmppeipgjcjdkaaGreatDoor.lawStateTurned
open Go.ChangeShapes Go.WideShapes Go.ChangeAt Go.RowKit
open Go.ChangeMaps (open_string shut_string)
theorem own:ownKnob Tryz.prog.godebug=none:=by kernel_rfl
theorem laidOut:laidOutB Tryz.prog=true:=by kernel_rfl
theorem gl_of (W:World) (h:W.ShapedOpen Tryz.prog):Gl W:=cell_of_shapedOpen_int (t:=3) (zero:=#[.int .i64 0]) h (by decide +kernel) (by kernel_rfl) rfl (by kernel_rfl) (by kernel_rfl) Tryz.underlying3
theorem witness_row (os:Os) {H:Type} (enc:TypeId × Value->H) :
  (OpenSpec.ofChange Rows.stateTurnedSpec).preRow enc Tryz.prog Tryz.f4 Rows.stateTurnedRow.domain false Rows.stateTurnedRow.laid ((laidWorld os).forCall (fun _ _=>0) ⟨#[],#[.slice none 0 0,.int .u8 0],[]⟩).memory #[.slice none 0 0,.int .u8 0]:=by
 have hw:(DataW.whole enc Tryz.prog ((laidWorld os).forCall (fun _ _=>0) ⟨#[],#[.slice none 0 0,.int .u8 0],[]⟩).memory Tryz.f4.params.toList (OpenSpec.ofChange Rows.stateTurnedSpec).vars false (#[.slice none 0 0,.int .u8 0]:Array Value).toList 8).map (fun x=>(x.1,x.2.1)) =
   some ([.nil,.lit (.int .u8 0)],[]):=by kernel_rfl
 obtain ⟨⟨x1,x2,x3⟩,hx,hx1⟩:=Option.map_eq_some_iff.1 hw
 simp only [Prod.mk.injEq] at hx1
 obtain ⟨rfl,rfl⟩:=hx1
 exact OpenSpec.preRow_of_cond 8 hx (by kernel_rfl) (fun k hk=>by cases hk) (by kernel_rfl) (laid_met os _)
set_option maxRecDepth 100000 in
set_option maxHeartbeats 4000000 in
theorem lifted (os:Os) (started:os.Started) (H:Type) (enc:TypeId × Value->H) (F:Stop.Interp) :
  ReturnsInHanded {} Tryz.checked os 4 .any ((OpenSpec.ofChange Rows.stateTurnedSpec).preRow enc Tryz.prog Tryz.f4 Rows.stateTurnedRow.domain false Rows.stateTurnedRow.laid) (((OpenSpec.ofChange Rows.stateTurnedSpec).at F).post enc Tryz.prog Tryz.f4 false true false false):=by
 refine returnsInHanded_of_row (C:=Tryz.checked) (s:=OpenSpec.ofChange Rows.stateTurnedSpec) own started (by kernel_rfl) Tryz.func4
  (witness_row_atRef (enc:=enc) (C:=Tryz.checked) false (laidWorld os) #[.slice none 0 0,.int .u8 0] rfl (by kernel_rfl) (by kernel_rfl) (by kernel_rfl) (witness_row os enc)) ?_
 intro W base args ds gs before hval0 hW _ _ _ _ hsh _
 have hgl:=gl_of W hsh
 have hval:∀ (j:Nat) t v,Tryz.f4.params[j]? = some t->args[j]? = some v->Value.okWide Tryz.prog W .any base t v:=hval0
 have hW':=hW
 obtain ⟨p,q,hA0,hV0,rfl,hfz,hnd⟩:=hW
 have hA:DataW.TrodAll enc Tryz.prog W 0 (fun _=>true) true Tryz.f4.params.toList args.toList ds p:=hA0
 rw [Tryz.params4] at hA hval
 obtain ⟨v0,vs0,d0,ds0,p0,q0,hargs,rfl,rfl,h0,r0⟩:=trodAll_cons hA
 obtain ⟨v1,vs1,d1,ds1,p1,q1,rfl,rfl,rfl,h1,r1⟩:=trodAll_cons r0
 obtain ⟨rfl,rfl,rfl⟩:=trodAll_nil r1
 obtain rfl:args=#[v0,v1]:=by cases args;simp_all
 obtain ⟨rfl,rfl⟩:=trodVars_none hV0
 have k0:=h0
 have lt0:∀ x ∈ p0,x.block < W.heap.size:=by obtain ⟨m,hm⟩:=k0;exact DataW.trod_lt m _ _ _ hm
 obtain ⟨a0,len0,cap0,rfl⟩:=okWide_slice Tryz.underlying41 (hval 0 41 v0 rfl rfl)
 obtain ⟨z0,w0⟩:∃ l:List UInt8,SvX W No (.slice a0 len0 cap0) l.length (bv l):=by
  obtain ⟨fuel,hf⟩:=h0
  obtain ⟨v',l',hcs,hl'⟩:=bytes_open hf
  simp [Value.cells] at hcs
  subst hcs
  exact ⟨l',hl'⟩
 obtain ⟨a1,rfl,rfl,rfl,w1⟩:=open_int Tryz.underlying5 (hval 1 5 v1 rfl rfl) h1
 clear hA0 hval0
 refine (turned_top a0 len0 cap0 z0 w0 a1 w1 hgl).mono fun e W' ⟨he,hm⟩=>?_
 have bel:=hm.below
 subst he
 exact ⟨_,rfl,_,_,_,[],_,[],hW',trodAll_mk1 (shut_bool Tryz.underlying4 _),(trodAll_cons_mk (Below.trod laidOut (by kernel_rfl) (of_decide_eq_true (by kernel_rfl)) k0 bel lt0) (trodAll_cons_mk (shut_int Tryz.underlying5 w1) trodAll_mk0)),rfl,bel.frame _,fun h=>by cases h⟩
theorem row_holds:Rows.StateTurnedSaid :=
 OpenClaim.holds_of_cond 4 Tryz.f4 rfl rfl rfl rfl rfl rfl rfl ⟨rfl,rfl,rfl,rfl,rfl⟩ rfl rfl rfl rfl rfl (by kernel_rfl) Tryz.func4 hv5
  (of_decide_eq_true (by kernel_rfl)) (by unfold Func.isWrapper;first | (rw [if_pos (by decide +kernel)];kernel_rfl) | (rw [if_neg (by decide +kernel)];exact ⟨rfl,rfl⟩))
  (fun os started H enc _ F0=>by rw [OpenClaim.pre_eq_preRow];exact lifted os started H enc F0)
theorem stands (j:Nat) (t:TypeId) (ht:Tryz.f4.params[j]? = some t):Tryz.prog.wantsStandIn t=false:=by
 rw [Tryz.params4] at ht
 rcases j with _ | j
 ·obtain rfl:t=41:=by simpa using ht.symm
  exact (show Tryz.prog.wantsStandIn 41=false by kernel_rfl)
 ·rcases j with _ | j
  ·obtain rfl:t=5:=by simpa using ht.symm
   exact (show Tryz.prog.wantsStandIn 5=false by kernel_rfl)
  ·simp at ht
/-- The statement. -/
theorem proved:Rows.StateTurnedCardSaid :=
 Claim7.holds_tied_plain_at .later [] [.data,.data,.data,.data,.sentinel,.sentinel,.pinned] true Rows.stateTurnedCard.stood.harness true
  row_holds (fun _ h=>by cases h) (by kernel_rfl) (fun _ h=>by cases h) stateTurned_row_tie rfl ⟨rfl,rfl⟩ (by kernel_rfl) rfl
  (fun f fn hf hfn=>by
   obtain rfl:f=4:=Option.some.inj ((show Tryz.prog.funcNamed Rows.stateTurnedRow.func=some 4 by kernel_rfl).symm.trans hf) |>.symm
   obtain rfl:fn=Tryz.f4:=(Option.some.inj (Tryz.func4.symm.trans hfn)).symm
   exact ⟨hv7,stands⟩)
  hv6
end Go.Proofs.YtmppeipgjcjdkaaGreatDoor.lawStateTurned
