/-
  StateSaves: for every input the law returns true, and its arguments read as they did; the card's listed variables are tied to the program's text. No conditions beyond the given statement's own.
-/
import Derived.Test.YtmppeipgjcjdkaaGreatDoorW47
import Derived.Test.YtmppeipgjcjdkaaGreatDoorW48
import Derived.Test.YtmppeipgjcjdkaaGreatDoorW30
import Derived.Test.YtmppeipgjcjdkaaGreatDoorW49
import Derived.Test.YtmppeipgjcjdkaaGreatDoorW52
import Derived.Test.YtmppeipgjcjdkaaGreatDoorCards
import Derived.Test.YtmppeipgjcjdkaaGreatDoorTie
import Derived.SevenTiedAt
import Derived.ProofKit
import Derived.OpenShut
import Derived.ShutString
import Derived.ChangeOld
import Derived.Shelf.Vars
import Derived.Deep.DeepHandedRow
import Derived.Deep.DeepWitnessRowRef
namespace Go.Proofs.YtmppeipgjcjdkaaGreatDoor.lawStateSaves
open Go.ChangeShapes Go.WideShapes Go.ChangeAt Go.RowKit
open Go.ChangeMaps (open_string shut_string)
theorem own:ownKnob Tryz.prog.godebug=none:=by kernel_rfl
theorem laidOut:laidOutB Tryz.prog=true:=by kernel_rfl
theorem gl_of (W:World) (h:W.ShapedOpen Tryz.prog):Gl W:=cell_of_shapedOpen_int (t:=3) (zero:=#[.int .i64 0]) h (by decide +kernel) (by kernel_rfl) rfl (by kernel_rfl) (by kernel_rfl) Tryz.underlying3
theorem witness_row (os:Os) {H:Type} (enc:TypeId × Value->H) :
  (OpenSpec.ofChange Rows.stateSavesSpec).preRow enc Tryz.prog Tryz.f5 Rows.stateSavesRow.domain false Rows.stateSavesRow.laid ((laidWorld os).forCall (fun _ _=>0) ⟨#[],#[.string ⟨#[]⟩,.string ⟨#[]⟩,.slice none 0 0,.string ⟨#[]⟩,.string ⟨#[]⟩,.slice none 0 0,.slice none 0 0],[]⟩).memory #[.string ⟨#[]⟩,.string ⟨#[]⟩,.slice none 0 0,.string ⟨#[]⟩,.string ⟨#[]⟩,.slice none 0 0,.slice none 0 0]:=by
 have hw:(DataW.whole enc Tryz.prog ((laidWorld os).forCall (fun _ _=>0) ⟨#[],#[.string ⟨#[]⟩,.string ⟨#[]⟩,.slice none 0 0,.string ⟨#[]⟩,.string ⟨#[]⟩,.slice none 0 0,.slice none 0 0],[]⟩).memory Tryz.f5.params.toList (OpenSpec.ofChange Rows.stateSavesSpec).vars false (#[.string ⟨#[]⟩,.string ⟨#[]⟩,.slice none 0 0,.string ⟨#[]⟩,.string ⟨#[]⟩,.slice none 0 0,.slice none 0 0]:Array Value).toList 8).map (fun x=>(x.1,x.2.1)) =
   some ([.lit (.string []),.lit (.string []),.nil,.lit (.string []),.lit (.string []),.nil,.nil],[]):=by kernel_rfl
 obtain ⟨⟨x1,x2,x3⟩,hx,hx1⟩:=Option.map_eq_some_iff.1 hw
 simp only [Prod.mk.injEq] at hx1
 obtain ⟨rfl,rfl⟩:=hx1
 exact OpenSpec.preRow_of_cond 8 hx (by kernel_rfl) (fun k hk=>by cases hk) (by kernel_rfl) (laid_met os _)
set_option maxRecDepth 100000 in
set_option maxHeartbeats 4000000 in
theorem lifted (os:Os) (started:os.Started) (H:Type) (enc:TypeId × Value->H) (F:Stop.Interp) :
  ReturnsInHanded {} Tryz.checked os 5 .any ((OpenSpec.ofChange Rows.stateSavesSpec).preRow enc Tryz.prog Tryz.f5 Rows.stateSavesRow.domain false Rows.stateSavesRow.laid) (((OpenSpec.ofChange Rows.stateSavesSpec).at F).post enc Tryz.prog Tryz.f5 false true false false):=by
 refine returnsInHanded_of_row (C:=Tryz.checked) (s:=OpenSpec.ofChange Rows.stateSavesSpec) own started (by kernel_rfl) Tryz.func5
  (witness_row_atRef (enc:=enc) (C:=Tryz.checked) false (laidWorld os) #[.string ⟨#[]⟩,.string ⟨#[]⟩,.slice none 0 0,.string ⟨#[]⟩,.string ⟨#[]⟩,.slice none 0 0,.slice none 0 0] rfl (by kernel_rfl) (by kernel_rfl) (by kernel_rfl) (witness_row os enc)) ?_
 intro W base args ds gs before hval0 hW _ _ _ _ hsh _
 have hgl:=gl_of W hsh
 have hval:∀ (j:Nat) t v,Tryz.f5.params[j]? = some t->args[j]? = some v->Value.okWide Tryz.prog W .any base t v:=hval0
 have hW':=hW
 obtain ⟨p,q,hA0,hV0,rfl,hfz,hnd⟩:=hW
 have hA:DataW.TrodAll enc Tryz.prog W 0 (fun _=>true) true Tryz.f5.params.toList args.toList ds p:=hA0
 rw [Tryz.params5] at hA hval
 obtain ⟨v0,vs0,d0,ds0,p0,q0,hargs,rfl,rfl,h0,r0⟩:=trodAll_cons hA
 obtain ⟨v1,vs1,d1,ds1,p1,q1,rfl,rfl,rfl,h1,r1⟩:=trodAll_cons r0
 obtain ⟨v2,vs2,d2,ds2,p2,q2,rfl,rfl,rfl,h2,r2⟩:=trodAll_cons r1
 obtain ⟨v3,vs3,d3,ds3,p3,q3,rfl,rfl,rfl,h3,r3⟩:=trodAll_cons r2
 obtain ⟨v4,vs4,d4,ds4,p4,q4,rfl,rfl,rfl,h4,r4⟩:=trodAll_cons r3
 obtain ⟨v5,vs5,d5,ds5,p5,q5,rfl,rfl,rfl,h5,r5⟩:=trodAll_cons r4
 obtain ⟨v6,vs6,d6,ds6,p6,q6,rfl,rfl,rfl,h6,r6⟩:=trodAll_cons r5
 obtain ⟨rfl,rfl,rfl⟩:=trodAll_nil r6
 obtain rfl:args=#[v0,v1,v2,v3,v4,v5,v6]:=by cases args;simp_all
 obtain ⟨rfl,rfl⟩:=trodVars_none hV0
 obtain ⟨a0,rfl,rfl,rfl,w0⟩:=open_string Tryz.underlying9 (hval 0 9 v0 rfl rfl) h0
 obtain ⟨a1,rfl,rfl,rfl,w1⟩:=open_string Tryz.underlying9 (hval 1 9 v1 rfl rfl) h1
 have k2:=h2
 have lt2:∀ x ∈ p2,x.block < W.heap.size:=by obtain ⟨m,hm⟩:=k2;exact DataW.trod_lt m _ _ _ hm
 obtain ⟨a2,len2,cap2,rfl⟩:=okWide_slice Tryz.underlying22 (hval 2 22 v2 rfl rfl)
 obtain ⟨z2,w2,c2⟩:∃ l,FlsIn W a2 len2 l/\(len2<=cap2/\cap2<=maxLen\/len2=0):=by
  obtain ⟨fuel,hf⟩:=h2
  obtain ⟨a',len',cap',l',hcs,hl'⟩:=fls_open hf
  simp [Value.cells] at hcs
  obtain ⟨rfl,rfl,rfl⟩:=hcs
  exact ⟨l',hl'⟩
 obtain ⟨a3,rfl,rfl,rfl,w3⟩:=open_string Tryz.underlying9 (hval 3 9 v3 rfl rfl) h3
 obtain ⟨a4,rfl,rfl,rfl,w4⟩:=open_string Tryz.underlying9 (hval 4 9 v4 rfl rfl) h4
 have k5:=h5
 have lt5:∀ x ∈ p5,x.block < W.heap.size:=by obtain ⟨m,hm⟩:=k5;exact DataW.trod_lt m _ _ _ hm
 obtain ⟨a5,len5,cap5,rfl⟩:=okWide_slice Tryz.underlying22 (hval 5 22 v5 rfl rfl)
 obtain ⟨z5,w5,c5⟩:∃ l,FlsIn W a5 len5 l/\(len5<=cap5/\cap5<=maxLen\/len5=0):=by
  obtain ⟨fuel,hf⟩:=h5
  obtain ⟨a',len',cap',l',hcs,hl'⟩:=fls_open hf
  simp [Value.cells] at hcs
  obtain ⟨rfl,rfl,rfl⟩:=hcs
  exact ⟨l',hl'⟩
 have k6:=h6
 have lt6:∀ x ∈ p6,x.block < W.heap.size:=by obtain ⟨m,hm⟩:=k6;exact DataW.trod_lt m _ _ _ hm
 obtain ⟨a6,len6,cap6,rfl⟩:=okWide_slice Tryz.underlying41 (hval 6 41 v6 rfl rfl)
 obtain ⟨z6,w6⟩:∃ l:List UInt8,SvX W No (.slice a6 len6 cap6) l.length (bv l):=by
  obtain ⟨fuel,hf⟩:=h6
  obtain ⟨v',l',hcs,hl'⟩:=bytes_open hf
  simp [Value.cells] at hcs
  subst hcs
  exact ⟨l',hl'⟩
 clear hA0 hval0
 refine (saves_top a0 w0 a1 w1 a2 len2 cap2 z2 w2 c2 a3 w3 a4 w4 a5 len5 cap5 z5 w5 c5 a6 len6 cap6 z6 w6 hgl).mono fun e W' ⟨he,hm⟩=>?_
 have bel:=hm.below
 subst he
 exact ⟨_,rfl,_,_,_,[],_,[],hW',trodAll_mk1 (shut_bool Tryz.underlying4 _),(trodAll_cons_mk (shut_string Tryz.underlying9 w0) (trodAll_cons_mk (shut_string Tryz.underlying9 w1) (trodAll_cons_mk (Below.trod laidOut (by kernel_rfl) (of_decide_eq_true (by kernel_rfl)) k2 bel lt2) (trodAll_cons_mk (shut_string Tryz.underlying9 w3) (trodAll_cons_mk (shut_string Tryz.underlying9 w4) (trodAll_cons_mk (Below.trod laidOut (by kernel_rfl) (of_decide_eq_true (by kernel_rfl)) k5 bel lt5) (trodAll_cons_mk (Below.trod laidOut (by kernel_rfl) (of_decide_eq_true (by kernel_rfl)) k6 bel lt6) trodAll_mk0))))))),rfl,bel.frame _,fun h=>by cases h⟩
theorem row_holds:Rows.StateSavesSaid :=
 OpenClaim.holds_of_cond 5 Tryz.f5 rfl rfl rfl rfl rfl rfl rfl ⟨rfl,rfl,rfl,rfl,rfl⟩ rfl rfl rfl rfl rfl (by kernel_rfl) Tryz.func5 hv5
  (of_decide_eq_true (by kernel_rfl)) (by unfold Func.isWrapper;first | (rw [if_pos (by decide +kernel)];kernel_rfl) | (rw [if_neg (by decide +kernel)];exact ⟨rfl,rfl⟩))
  (fun os started H enc _ F0=>by rw [OpenClaim.pre_eq_preRow];exact lifted os started H enc F0)
theorem stands (j:Nat) (t:TypeId) (ht:Tryz.f5.params[j]? = some t):Tryz.prog.wantsStandIn t=false:=by
 rw [Tryz.params5] at ht
 rcases j with _ | j
 ·obtain rfl:t=9:=by simpa using ht.symm
  exact (show Tryz.prog.wantsStandIn 9=false by kernel_rfl)
 ·rcases j with _ | j
  ·obtain rfl:t=9:=by simpa using ht.symm
   exact (show Tryz.prog.wantsStandIn 9=false by kernel_rfl)
  ·rcases j with _ | j
   ·obtain rfl:t=22:=by simpa using ht.symm
    exact (show Tryz.prog.wantsStandIn 22=false by kernel_rfl)
   ·rcases j with _ | j
    ·obtain rfl:t=9:=by simpa using ht.symm
     exact (show Tryz.prog.wantsStandIn 9=false by kernel_rfl)
    ·rcases j with _ | j
     ·obtain rfl:t=9:=by simpa using ht.symm
      exact (show Tryz.prog.wantsStandIn 9=false by kernel_rfl)
     ·rcases j with _ | j
      ·obtain rfl:t=22:=by simpa using ht.symm
       exact (show Tryz.prog.wantsStandIn 22=false by kernel_rfl)
      ·rcases j with _ | j
       ·obtain rfl:t=41:=by simpa using ht.symm
        exact (show Tryz.prog.wantsStandIn 41=false by kernel_rfl)
       ·simp at ht
/-- The statement. -/
theorem proved:Rows.StateSavesCardSaid :=
 Claim7.holds_tied_plain_at .later [] [.data,.data,.data,.data,.sentinel,.sentinel,.pinned] true Rows.stateSavesCard.stood.harness true
  row_holds (fun _ h=>by cases h) (by kernel_rfl) (fun _ h=>by cases h) stateSaves_row_tie rfl ⟨rfl,rfl⟩ (by kernel_rfl) rfl
  (fun f fn hf hfn=>by
   obtain rfl:f=5:=Option.some.inj ((show Tryz.prog.funcNamed Rows.stateSavesRow.func=some 5 by kernel_rfl).symm.trans hf) |>.symm
   obtain rfl:fn=Tryz.f5:=(Option.some.inj (Tryz.func5.symm.trans hfn)).symm
   exact ⟨hv7,stands⟩)
  hv6
end Go.Proofs.YtmppeipgjcjdkaaGreatDoor.lawStateSaves
