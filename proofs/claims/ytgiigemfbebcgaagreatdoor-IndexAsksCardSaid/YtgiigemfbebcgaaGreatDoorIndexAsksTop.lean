/-
  IndexAsks: for every input the law returns true, and its arguments read as they did; the card's listed variables are tied to the program's text. No conditions beyond the given statement's own.
-/
import Derived.Test.YtgiigemfbebcgaaGreatDoorT47
import Derived.Test.YtgiigemfbebcgaaGreatDoorT48
import Derived.Test.YtgiigemfbebcgaaGreatDoorT46
import Derived.Test.YtgiigemfbebcgaaGreatDoorCards
import Derived.Test.YtgiigemfbebcgaaGreatDoorTie
import Derived.SevenTiedAt
import Derived.ProofKit
import Derived.OpenShut
import Derived.ShutString
import Derived.ChangeOld
import Derived.Shelf.Vars
import Derived.Deep.DeepHandedRow
import Derived.Deep.DeepWitnessRowRef
namespace Go.Proofs.YtgiigemfbebcgaaGreatDoor.lawIndexAsks
open Go.ChangeShapes Go.WideShapes Go.ChangeAt Go.RowKit
open Go.ChangeMaps (open_string shut_string)
theorem own:ownKnob Tryz.prog.godebug=none:=by kernel_rfl
theorem laidOut:laidOutB Tryz.prog=true:=by kernel_rfl
theorem gl_of (W:World) (h:W.ShapedOpen Tryz.prog):Gl W:=cell_of_shapedOpen_int (t:=3) (zero:=#[.int .i64 0]) h (by decide +kernel) (by kernel_rfl) rfl (by kernel_rfl) (by kernel_rfl) Tryz.underlying3
theorem witness_row (os:Os) {H:Type} (enc:TypeId × Value->H) :
  (OpenSpec.ofChange Rows.indexAsksSpec).preRow enc Tryz.prog Tryz.f4 Rows.indexAsksRow.domain false Rows.indexAsksRow.laid ((laidWorld os).forCall (fun _ _=>0) ⟨#[],#[.slice none 0 0,.string ⟨#[]⟩,.agg #[.int .i64 0,.int .i64 0,.int .i64 0,.slice none 0 0]],[]⟩).memory #[.slice none 0 0,.string ⟨#[]⟩,.agg #[.int .i64 0,.int .i64 0,.int .i64 0,.slice none 0 0]]:=by
 have hw:(DataW.whole enc Tryz.prog ((laidWorld os).forCall (fun _ _=>0) ⟨#[],#[.slice none 0 0,.string ⟨#[]⟩,.agg #[.int .i64 0,.int .i64 0,.int .i64 0,.slice none 0 0]],[]⟩).memory Tryz.f4.params.toList (OpenSpec.ofChange Rows.indexAsksSpec).vars false (#[.slice none 0 0,.string ⟨#[]⟩,.agg #[.int .i64 0,.int .i64 0,.int .i64 0,.slice none 0 0]]:Array Value).toList 8).map (fun x=>(x.1,x.2.1)) =
   some ([.nil,.lit (.string []),.agg [.lit (.int .i64 0),.lit (.int .i64 0),.lit (.int .i64 0),.nil]],[]):=by kernel_rfl
 obtain ⟨⟨x1,x2,x3⟩,hx,hx1⟩:=Option.map_eq_some_iff.1 hw
 simp only [Prod.mk.injEq] at hx1
 obtain ⟨rfl,rfl⟩:=hx1
 exact OpenSpec.preRow_of_cond 8 hx (by kernel_rfl) (fun k hk=>by cases hk) (by kernel_rfl) (laid_met os _)
set_option maxRecDepth 100000 in
set_option maxHeartbeats 4000000 in
theorem lifted (os:Os) (started:os.Started) (H:Type) (enc:TypeId × Value->H) (F:Stop.Interp) :
  ReturnsInHanded {} Tryz.checked os 4 .any ((OpenSpec.ofChange Rows.indexAsksSpec).preRow enc Tryz.prog Tryz.f4 Rows.indexAsksRow.domain false Rows.indexAsksRow.laid) (((OpenSpec.ofChange Rows.indexAsksSpec).at F).post enc Tryz.prog Tryz.f4 false true false false):=by
 refine returnsInHanded_of_row (C:=Tryz.checked) (s:=OpenSpec.ofChange Rows.indexAsksSpec) own started (by kernel_rfl) Tryz.func4
  (witness_row_atRef (enc:=enc) (C:=Tryz.checked) false (laidWorld os) #[.slice none 0 0,.string ⟨#[]⟩,.agg #[.int .i64 0,.int .i64 0,.int .i64 0,.slice none 0 0]] rfl (by kernel_rfl) (by kernel_rfl) (by kernel_rfl) (witness_row os enc)) ?_
 intro W base args ds gs before hval0 hW _ _ _ _ hsh _
 have hgl:=gl_of W hsh
 have hval:∀ (j:Nat) t v,Tryz.f4.params[j]? = some t->args[j]? = some v->Value.okWide Tryz.prog W .any base t v:=hval0
 have hW':=hW
 obtain ⟨p,q,hA0,hV0,rfl,hfz,hnd⟩:=hW
 have hA:DataW.TrodAll enc Tryz.prog W 0 (fun _=>true) true Tryz.f4.params.toList args.toList ds p:=hA0
 rw [Tryz.params4] at hA hval
 obtain ⟨v0,vs0,d0,ds0,p0,q0,hargs,rfl,rfl,h0,r0⟩:=trodAll_cons hA
 obtain ⟨v1,vs1,d1,ds1,p1,q1,rfl,rfl,rfl,h1,r1⟩:=trodAll_cons r0
 obtain ⟨v2,vs2,d2,ds2,p2,q2,rfl,rfl,rfl,h2,r2⟩:=trodAll_cons r1
 obtain ⟨rfl,rfl,rfl⟩:=trodAll_nil r2
 obtain rfl:args=#[v0,v1,v2]:=by cases args;simp_all
 obtain ⟨rfl,rfl⟩:=trodVars_none hV0
 have k0:=h0
 have lt0:∀ x ∈ p0,x.block < W.heap.size:=by obtain ⟨m,hm⟩:=k0;exact DataW.trod_lt m _ _ _ hm
 obtain ⟨a0,len0,cap0,rfl⟩:=okWide_slice Tryz.underlying22 (hval 0 22 v0 rfl rfl)
 obtain ⟨z0,w0,c0⟩:∃ l,SrsIn W a0 len0 l/\(len0<=cap0/\cap0<=maxLen\/len0=0):=by
  obtain ⟨fuel,hf⟩:=h0
  obtain ⟨a',len',cap',l',hcs,hl'⟩:=srs_open hf
  simp [Value.cells] at hcs
  obtain ⟨rfl,rfl,rfl⟩:=hcs
  exact ⟨l',hl'⟩
 obtain ⟨a1,rfl,rfl,rfl,w1⟩:=open_string Tryz.underlying9 (hval 1 9 v1 rfl rfl) h1
 have k2:=h2
 have lt2:∀ x ∈ p2,x.block < W.heap.size:=by obtain ⟨m,hm⟩:=k2;exact DataW.trod_lt m _ _ _ hm
 obtain ⟨y2,pv2,rfl,w2⟩:∃ y pv,v2=verV y pv/\VerIn W y pv:=by
  obtain ⟨fuel,hf⟩:=h2
  exact ver_open hf
 clear hA0 hval0
 refine (ask_walk a0 len0 cap0 z0 w0 c0 a1 w1 y2 pv2 w2 hgl).mono fun e W' ⟨he,hm⟩=>?_
 have bel:=hm.below
 subst he
 exact ⟨_,rfl,_,_,_,[],_,[],hW',trodAll_mk1 (shut_bool Tryz.underlying4 _),(trodAll_cons_mk (Below.trod laidOut (by kernel_rfl) (of_decide_eq_true (by kernel_rfl)) k0 bel lt0) (trodAll_cons_mk (shut_string Tryz.underlying9 w1) (trodAll_cons_mk (Below.trod laidOut (by kernel_rfl) (of_decide_eq_true (by kernel_rfl)) k2 bel lt2) trodAll_mk0))),rfl,bel.frame _,fun h=>by cases h⟩
theorem row_holds:Rows.IndexAsksSaid :=
 OpenClaim.holds_of_cond 4 Tryz.f4 rfl rfl rfl rfl rfl rfl rfl ⟨rfl,rfl,rfl,rfl,rfl⟩ rfl rfl rfl rfl rfl (by kernel_rfl) Tryz.func4 (by kernel_rfl)
  (of_decide_eq_true (by kernel_rfl)) (by unfold Func.isWrapper;first | (rw [if_pos (by decide +kernel)];kernel_rfl) | (rw [if_neg (by decide +kernel)];exact ⟨rfl,rfl⟩))
  (fun os started H enc _ F0=>by rw [OpenClaim.pre_eq_preRow];exact lifted os started H enc F0)
theorem stands (j:Nat) (t:TypeId) (ht:Tryz.f4.params[j]? = some t):Tryz.prog.wantsStandIn t=false:=by
 rw [Tryz.params4] at ht
 rcases j with _ | j
 ·obtain rfl:t=22:=by simpa using ht.symm
  exact (show Tryz.prog.wantsStandIn 22=false by kernel_rfl)
 ·rcases j with _ | j
  ·obtain rfl:t=9:=by simpa using ht.symm
   exact (show Tryz.prog.wantsStandIn 9=false by kernel_rfl)
  ·rcases j with _ | j
   ·obtain rfl:t=40:=by simpa using ht.symm
    exact (show Tryz.prog.wantsStandIn 40=false by kernel_rfl)
   ·simp at ht
/-- The statement. -/
theorem proved:Rows.IndexAsksCardSaid :=
 Claim7.holds_tied_plain_at .later [] [.data,.data,.data,.data,.sentinel,.sentinel,.pinned] true Rows.indexAsksCard.stood.harness true
  row_holds (fun _ h=>by cases h) (by kernel_rfl) (fun _ h=>by cases h) indexAsks_row_tie rfl ⟨rfl,rfl⟩ (by kernel_rfl) rfl
  (fun f fn hf hfn=>by
   obtain rfl:f=4:=Option.some.inj ((show Tryz.prog.funcNamed Rows.indexAsksRow.func=some 4 by kernel_rfl).symm.trans hf) |>.symm
   obtain rfl:fn=Tryz.f4:=(Option.some.inj (Tryz.func4.symm.trans hfn)).symm
   exact ⟨by kernel_rfl,stands⟩)
  (by kernel_rfl)
end Go.Proofs.YtgiigemfbebcgaaGreatDoor.lawIndexAsks
