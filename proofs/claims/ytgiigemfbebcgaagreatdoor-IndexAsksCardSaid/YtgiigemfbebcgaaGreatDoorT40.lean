/-
  Layers 0 to 14: helps of the laws of indexes. No statement is proved here; no condition.
-/
import Derived.Test.YtgiigemfbebcgaaGreatDoorT39
import Derived.Test.YtgiigemfbebcgaaGreatDoorT18
import Derived.Test.YtgiigemfbebcgaaGreatDoorT01
namespace Go.Proofs.YtgiigemfbebcgaaGreatDoor
open _root_.Go.Proofs.Tryz
open Go.RowKit
noncomputable def blkMd1:Code:=(blockAt 1 bodyMd).getD .skip
structure SrX where
 r:SRow
 nv:Value
def SrX.cells (x:SrX):List Value:=[.int .u8 (x.r.n:Int),.int .u8 (x.r.v:Int),x.nv,.int .u8 (x.r.kind:Int),.int .u8 (x.r.lie:Int)]
theorem SrX.cells_length (x:SrX):x.cells.length=5:=rfl
structure SrOk (w:World) (x:SrX):Prop where
 needs:SvX w No x.nv x.r.needs.length (u16s x.r.needs)
 few:x.r.needs.length<=20
 small:∀ t ∈ x.r.needs,t < 65536
theorem filesK_path (r:SRow):∀ f ∈ filesK r,f.path.length<=60000:=fun f hf=>by
 unfold filesK at hf
 rw [List.mem_append,List.mem_append] at hf
 rcases hf with (hf | hf) | hf
 ·simp only [List.mem_cons,List.not_mem_nil,or_false] at hf
  rcases hf with rfl | rfl
  ·show libT.length<=60000
   decide
  ·simp [libT,nameK]
 ·split at hf
  ·obtain rfl:=List.mem_singleton.1 hf
   show bigT.length<=60000
   decide
  ·cases hf
 ·split at hf
  ·cases hf
  ·obtain rfl:=List.mem_singleton.1 hf
   show buildT.length<=60000
   decide
theorem info_u8s:(prog.info? 29).map (fun i=>(i.zero,i.size,i.bytes))=some (some (.slice none 0 0),1,24):=by kernel_rfl
theorem srow_info:(prog.info? 72).map (·.size)=some 5:=by kernel_rfl
theorem verTK_le' (k:Nat):(verTK k).length<=999999:=by have:=verTK_le k;omega
theorem verK_any (k:Nat) (w:World):Calls prog 24 #[strV (verTK k)] w fun e w'=>(∃ pv,e=.returned (.tuple #[verV (verK k) pv,.int .i64 0])/\Small (verK k)/\Sl w' No 9 pv (verK k).pre.length (strs (verK k).pre))/\Mod No w w':=by
 refine (refver_u (verTK k) (verTK_le' k) w).mono ?_
 rintro e w' ⟨⟨v,pv,c,h1,h2,h3,h4⟩,hm⟩
 have hg:=verK_good k
 rcases h4 with ⟨rfl,h5⟩ | ⟨-,h5⟩
 ·rw [hg] at h5
  obtain rfl:verK k=v:=Option.some.inj h5
  exact ⟨⟨pv,h1,h2,h3⟩,hm⟩
 ·rw [hg] at h5
  exact nomatch h5
structure RowsM (B:Nat) (w:World) (v:Value) (xs:List RwX):Prop where
 own:w.ownsRow B 46 39 v xs.length (xs.flatMap RwX.cells)
 each:∀ x ∈ xs,RwAt w x
theorem RowsM.no {B:Nat} {w w':World} {v:Value} {xs:List RwX} (h:RowsM B w v xs) (hm:Mod No w w'):RowsM B w' v xs :=
 ⟨own_keepM h.own hm (fun _ _ f=>f),fun x hx=>(h.each x hx).keep hm (Apart.no _ _)⟩
structure ArX where
 b:List UInt8
 v:Value
structure ArcsM (B:Nat) (w:World) (v:Value) (xs:List ArX):Prop where
 own:w.ownsRow B 29 1 v xs.length (xs.map ArX.v)
 each:∀ x ∈ xs,Sl w No 5 x.v x.b.length (bv x.b)
theorem ArcsM.no {B:Nat} {w w':World} {v:Value} {xs:List ArX} (h:ArcsM B w v xs) (hm:Mod No w w'):ArcsM B w' v xs :=
 ⟨own_keepM h.own hm (fun _ _ f=>f),fun x hx=>(h.each x hx).kn hm⟩
theorem own_twain {B B':Nat} {w:World} {e e':TypeId} {size size':Nat} {v v':Value} {n n':Nat} {xs xs':List Value} (h:w.ownsRow B e size v n xs) (h':w.ownsRow B' e' size' v' n' xs') (hne:e ≠ e'):∀ k,v.ownBlock=some k->¬ v'.ownBlock=some k:=fun k hk hk'=>by
 obtain ⟨c1,h1⟩:=own_heapM h hk
 obtain ⟨c2,h2⟩:=own_heapM h' hk'
 rw [h1] at h2
 cases h2
 exact hne rfl
theorem apart_one {ts:List TypeId} {w:World} {b:Nat} {cur:Array Value} {t:TypeId} {fz:Nat × Nat} (h:w.heap[b]? = some (.cells cur t fz)) (ht:t ∉ ts):Apart ts (fun q=>q=b) w:=fun k c f e hk hc hm=>by
 subst hk
 rw [h] at hc
 cases hc
 exact ht hm
theorem ndsK_le (name:List UInt8) (l:List Nat):(ndsK name l).length<=l.length:=by
 obtain ⟨-,-,n3⟩:=ndsK_good name l [] List.Pairwise.nil (fun n hn=>by cases hn)
 have:(ndsK name l).length<=0+l.length:=n3
 omega
theorem RowsM.push {B:Nat} {w w':World} {v v':Value} {xs:List RwX} {x:RwX} (h:RowsM B w v xs) (hg:w.grownBy w' v.ownBlock) (ho:w'.ownsRow B 46 39 v' (xs.length+1) (xs.flatMap RwX.cells++RwX.cells x)) (hx:RwAt w x):RowsM B w' v' (xs++[x]):=by
 have hm:Mod (fun k=>v.ownBlock=some k) w w':=Mod.of_grown hg (fun k hk _=>hk)
 refine ⟨by simpa using ho,fun y hy=>?_⟩
 rcases List.mem_append.1 hy with hy | hy
 ·exact (h.each y hy).keep hm (own_apart h.own (by decide))
 ·obtain rfl:y=x:=by simpa using hy
  exact hx.keep hm (own_apart h.own (by decide))
theorem ArcsM.push {B:Nat} {w w':World} {v v':Value} {xs:List ArX} {x:ArX} (h:ArcsM B w v xs) (hg:w.grownBy w' v.ownBlock) (ho:w'.ownsRow B 29 1 v' (xs.length+1) (xs.map ArX.v++[x.v])) (hx:Sl w No 5 x.v x.b.length (bv x.b)):ArcsM B w' v' (xs++[x]):=by
 have hm:Mod (fun k=>v.ownBlock=some k) w w':=Mod.of_grown hg (fun k hk _=>hk)
 refine ⟨by simpa using ho,fun y hy=>?_⟩
 rcases List.mem_append.1 hy with hy | hy
 ·exact (h.each y hy).apart hm (own_apart h.own (by decide))
 ·obtain rfl:y=x:=by simpa using hy
  exact hx.apart hm (own_apart h.own (by decide))
theorem RowsM.beside {B:Nat} {w w':World} {v v2:Value} {xs:List RwX} {as':List ArX} (h:RowsM B w v xs) (ha:ArcsM B w v2 as') (hm:Mod (fun k=>v2.ownBlock=some k) w w'):RowsM B w' v xs :=
 ⟨own_keepM h.own hm (own_twain h.own ha.own (by decide)),fun x hx=>(h.each x hx).keep hm (own_apart ha.own (by decide))⟩
theorem ArcsM.beside {B:Nat} {w w':World} {v v2:Value} {xs:List RwX} {as':List ArX} (h:RowsM B w v xs) (ha:ArcsM B w v2 as') (hm:Mod (fun k=>v.ownBlock=some k) w w'):ArcsM B w' v2 as' :=
 ⟨own_keepM ha.own hm (own_twain ha.own h.own (by decide)),fun x hx=>(ha.each x hx).apart hm (own_apart h.own (by decide))⟩
theorem wpList_value {P:Program} {ops:Array Oper} {rest:List Oper} {o:Oper} {a:Act} {w w':World} {Q:Exit->Act->World->Prop} {v:Value} (hgd:o.guard=none) (hr:(execOp a.eval o).run P w=.ok (.value v) w') (h:wpList P ops Q rest (a.put o.dst v) w'):wpList P ops Q (o :: rest) a w :=
 wpList_plain hgd fun _ hK=>wp_value hr (hK _ _ h)
theorem wpList_loadrow {ops:Array Oper} {rest:List Oper} {o:Oper} {a:Act} {w:World} {Q:Exit->Act->World->Prop} (hgd:o.guard=none) (x:Operand) (ho:o.op=.load 46 x) (b:Nat) (cs:List Value) (hx:a.eval x=.pointer (some ⟨b,0,none⟩)) (hl:cs.length=39) (hb:w.heap[b]? = some (.cells cs.toArray 46 (0,0)))
  (h:wpList prog ops Q rest (a.put o.dst (.agg cs.toArray)) w):wpList prog ops Q (o :: rest) a w :=
 wpList_value hgd (yloadv (load_rowM (by rw [List.size_toArray];exact hl) hb) x ho hx) h
theorem wpList_bsrow {ops:Array Oper} {rest:List Oper} {o:Oper} {a:Act} {w:World} {Q:Exit->Act->World->Prop} (hgd:o.guard=none) (x:Operand) (ho:o.op=.buildSlice 25 1 #[(0,x)]) (cs:List Value) (hx:a.eval x=.agg cs.toArray) (hl:cs.length=39)
  (h:wpList prog ops Q rest (a.put o.dst (.slice (some ⟨w.heap.size,0,none⟩) 1 1)) (w.alloc (.cells cs.toArray 46))):wpList prog ops Q (o :: rest) a w :=
 wpList_value hgd (rw_new hl x ho hx) h
set_option maxRecDepth 100000 in
set_option maxHeartbeats 16000000 in
theorem row1_part (z1 z2 z3 z4 z215 z216 z217 z218:Value) (B:Nat) (st:List SRow) (xs:List RwX) (as':List ArX) (s:SrX) (rv av:Value) (k ib io inn icc:Nat) (f:Act) (w:World) (hB:B<=w.heap.size) (hr:RowsM B w rv xs) (ha:ArcsM B w av as') (hxs:xs.map RwX.r=st.map rowK) (has:as'.map ArX.b=st.map archK) (hst:st.length<=1000)
  (hs:SrOk w s) (hsB:SvX w (fun q=>B<=q) s.nv s.r.needs.length (u16s s.r.needs)) (hk:k < inn) (hrg:w.rangeAt ib (io+k*5) (SrX.cells s)) (hib:ib < B)
  (hF:Fr 219 [(0,.slice (some ⟨ib,io,none⟩) inn icc),(5,rv),(6,av),(7,.int .i64 (k:Int)),(1,z1),(2,z2),(3,z3),(4,z4),(215,z215),(216,z216),(217,z217),(218,z218)] f) :
  Code.wp prog blkMd1 (Exit.then (fun a' w'=>∃ (rv' av':Value) (xs2:List RwX) (as2:List ArX),Fr 219 [(0,.slice (some ⟨ib,io,none⟩) inn icc),(5,rv'),(6,av'),(7,.int .i64 (k:Int)),(1,z1),(2,z2),(3,z3),(4,z4),(215,z215),(216,z216),(217,z217),(218,z218)] a'/\RowsM B w' rv' xs2/\ArcsM B w' av' as2/\xs2.map RwX.r=(keptK st [s.r]).map rowK/\as2.map ArX.b=(keptK st [s.r]).map archK/\Mod (fun q=>B<=q) w w') Nope) f w:=by
 refine wp_part fun J K' hJ hK=>?_
 have HJ:=zh hJ
 clear hJ
 obtain ⟨ts,ds⟩:=f
 obtain ⟨hsz,hds,hs0,hs5,hs6,hs7,hs1,hs2,hs3,hs4,hs215,hs216,hs217,hs218,-⟩:=hF
 dsimp only at hsz hds hs0 hs5 hs6 hs7 hs1 hs2 hs3 hs4 hs215 hs216 hs217 hs218
 subst hds
 obtain ⟨c,rfl,hc⟩:=lit219 ts hsz
 rw [hc] at hs0
 rw [hc] at hs5
 rw [hc] at hs6
 rw [hc] at hs7
 rw [hc] at hs1
 rw [hc] at hs2
 rw [hc] at hs3
 rw [hc] at hs4
 rw [hc] at hs215
 rw [hc] at hs216
 rw [hc] at hs217
 rw [hc] at hs218
 simp only [hs0,hs5,hs6,hs7,hs1,hs2,hs3,hs4,hs215,hs216,hs217,hs218]
 clear hc hsz hs0 hs5 hs6 hs7 hs1 hs2 hs3 hs4 hs215 hs216 hs217 hs218
 have HRG:=zh hrg
 have HS:=zh hs
 have HSB:=zh hsB
 have HBB:=zh hB
 have hxl:xs.length=st.length:=by rw [<- List.length_map (f:=RwX.r),hxs,List.length_map]
 have hal:as'.length=st.length:=by rw [<- List.length_map (f:=ArX.b),has,List.length_map]
 have HXS:=zh hxs
 have HAS:=zh has
 obtain ⟨th,hth⟩:∃ th,th=(atL (xs.map RwX.r) (nameK s.r.n) (verK s.r.v)).isSome:=⟨_,rfl⟩
 have HKP:=zh (show keptK st [s.r]=if th then st else st++[s.r] by rw [hth,hxs];rfl)
 have HOKX:=zh (show ∀ x ∈ xs,RwOk w x from fun x hx=>(hr.each x hx).ok)
 have HFN0:=zh (fun (W:World) (v:Ver) (pv:Value) (hv:Small v) (hm:Mod No w W)=>reffind_any xs (by omega) (nameK s.r.n) v pv rv W (fun x hx=>((hr.each x hx).ok).keep hm (Apart.no _ _)) hv)
 have HRS:=zh (fun W (hm:Mod No w W)=>Sl.keep (S:=No) (Sl.of_own hr.own (fun _ _ f=>f)) hm (fun _ _ _ f=>f.elim))
 obtain ⟨ra,rc,hrv⟩:=own_len hr.own
 obtain ⟨aa,ac,hav⟩:=own_len ha.own
 subst hrv
 subst hav
 rw [hxl] at hr HRS HFN0
 rw [hal] at ha
 rw [hxl,hal]
 have HXL:=zh hxl
 have HAL:=zh hal
 have HR:=zh hr
 have HA:=zh ha
 obtain ⟨⟨va,vi,vp,pr⟩,hV⟩:∃ V,V=verK s.r.v:=⟨_,rfl⟩
 have HVK:=zh (show ∀ W,Calls prog 24 #[strV (verTK s.r.v)] W fun e w'=>(∃ pv,e=.returned (.tuple #[.agg #[.int .i64 va,.int .i64 vi,.int .i64 vp,pv],.int .i64 0])/\Small ⟨va,vi,vp,pr⟩/\Sl w' No 9 pv pr.length (strs pr))/\Mod No W w' from by
  have h9:=verK_any s.r.v
  rw [<- hV] at h9
  exact h9)
 rw [<- hV] at hth
 have HTH:=zh hth
 have hk1:(k:Int) < (inn:Int):=by omega
 have hk0:(0:Int)<=(k:Int):=Int.natCast_nonneg _
 have c1:=hrg 1 _ rfl
 have HVV:=zh hV
 clear hr ha hrg hs hsB hB hth hxs has hV hxl hal
 conv=>arg 2;whnf
 go_wp2_with fail
 with_reducible refine (seatversion_any s.r.v w).mono ?_
 rintro e w1 ⟨rfl,hm1⟩
 have HM1:=zh hm1
 clear hm1 c1
 go_wp2_with fail
 with_reducible refine (HVK.out _).mono ?_
 rintro e w2 ⟨⟨pv,rfl,hsmall,hpv⟩,hm2⟩
 have HSMALL:=zh hsmall
 have HPV:=zh hpv
 have HM2:=zh (HM1.out.trans hm2)
 clear hm2 hsmall hpv
 obtain ⟨pa,pc,hpv⟩:=HPV.out.len
 subst hpv
 go_upto_region 7 with fail
 obtain ⟨vb,hvb⟩:∃ g,g=w2.heap.size:=⟨_,rfl⟩
 rw [<- hvb]
 generalize hw3:World.alloc w2 _=w3
 have hm3:Mod No w2 w3:=by rw [<- hw3];exact (Mod.refl No _).alloc _
 have HV3:=zh (show w3.heap[vb]? = some (.cells #[.int .i64 va,.int .i64 vi,.int .i64 vp,.slice pa pr.length pc] 40 (0,0)) by rw [<- hw3,hvb];exact heap_alloc_new _ _)
 have HM3:=zh (HM2.out.trans hm3)
 have HP3:=zh (HPV.out.kn hm3)
 clear hw3 hvb hm3 HPV HVK HM2 HM1
 rename_i K7 hK7
 obtain ⟨zs,hzs⟩:∃ zs,zs=rowCs ⟨#[]⟩ 0 0 0 (.slice none 0 0) (List.replicate 32 0) 0:=⟨_,rfl⟩
 have HZS:=zh hzs
 have HZL:=zh (show zs.toArray.size=39 by rw [hzs];exact rowCs_length (by simp) _ _ _ _ _ _)
 obtain ⟨wD,hwD⟩:∃ y,y=w3.drew:=⟨_,rfl⟩
 have hmD:Mod No w3 wD:=by rw [hwD];exact (Mod.refl No w3).drew
 have HMD:=zh (HM3.out.trans hmD)
 have H3D:=zh hmD
 have HPD:=zh (HP3.out.kn hmD)
 have HSM:=zh (show ∀ w',Mod No wD w'->w'.cell? ⟨ib,io+k*5,none⟩=some (.int .u8 (s.r.n:Int))/\w'.heap[vb]? = some (.cells #[.int .i64 va,.int .i64 vi,.int .i64 vp,.slice pa pr.length pc] 40 (0,0)) from fun w' h =>
  ⟨(HMD.out.trans h).cell (HRG.out 0 _ rfl) (fun f=>f),(hmD.trans h).keep HV3.out (fun f=>f)⟩)
 have HFN:=zh (show ∀ W,Mod No wD W->Calls prog 16 #[.slice ra st.length rc,strV (nameK s.r.n),.agg #[.int .i64 va,.int .i64 vi,.int .i64 vp,.slice pa pr.length pc]] W fun e w'=>FindR xs (nameK s.r.n) ⟨va,vi,vp,pr⟩ e/\Mod No W w' from fun W hm=>by
  exact HFN0.out W ⟨va,vi,vp,pr⟩ (.slice pa pr.length pc) HSMALL.out (HMD.out.trans hm) (HPD.out.kn hm) (HRS.out W (HMD.out.trans hm)))
 have HWD:=zh hwD
 have hS0:=Mod.refl No wD
 clear hwD hmD hzs
 refine wp_only (R:=fun a' w'=>Fr 219 [(0,.slice (some ⟨ib,io,none⟩) inn icc),(5,.slice ra st.length rc),(6,.slice aa st.length ac),(7,.int .i64 (k:Int)),(1,z1),(2,z2),(3,z3),(4,z4),(215,z215),(216,z216),(217,z217),(218,z218),(8,.pointer (some ⟨vb,0,none⟩)),(11,.bool th)] a'/\Mod No wD w') ?_ ?_
 ·clear hK7 K7
  refine wp_region_T (fun w'=>Mod No wD w') 99 (by kernel_rfl) ?_
  rw [<- HWD.out]
  refine yT 0 (some 39) ?_ hS0 ?_ ?_
  rotate_left
  ·(intro w' hSw;go_simp;try with_reducible rfl)
  simp only [Act.put,yB,yC,yD]
  refine yT 1 (some 40) ?_ hS0 ?_ ?_
  rotate_left
  ·(intro w' hSw;go_simp;try with_reducible rfl)
  simp only [Act.put,yB,yC,yD]
  refine yT 2 (some 41) ?_ hS0 ?_ ?_
  rotate_left
  ·(intro w' hSw;go_simp;try with_reducible rfl)
  simp only [Act.put,yB,yC,yD]
  refine yT 3 (some 42) ?_ hS0 ?_ ?_
  rotate_left
  ·(intro w' hSw;go_simp;try with_reducible rfl)
  simp only [Act.put,yB,yC,yD]
  refine yT 4 (some 43) ?_ hS0 ?_ ?_
  rotate_left
  ·(intro w' hSw;go_simp;try with_reducible rfl)
  simp only [Act.put,yB,yC,yD]
  refine yT 5 (some 44) (.int .u8 (s.r.n:Int)) hS0 ?_ ?_
  ·(intro w' hSw;have q0:=(HSM.out w' hSw).1;go_simp;try with_reducible rfl)
  simp only [Act.put,yB,yC,yD]
  refine yT 7 (some 46) (.agg #[.int .i64 va,.int .i64 vi,.int .i64 vp,.slice pa pr.length pc]) hS0 ?_ ?_
  ·(intro w' hSw;apply yloadv (load_ver (HSM.out w' hSw).2) (.tmp 8) <;> rfl)
  simp only [Act.put,yB,yC,yD]
  refine wpAnyT_two 6 12 rfl rfl (by kernel_rfl) rfl rfl ?_ ?_
  ·intro K hK
   go_simp
   go_at_call 28
   with_reducible refine (seatname_any s.r.n wD).mono ?_
   rintro e wD_6 ⟨rfl,hwD_6⟩
   have HMwD_6:=zh (show Mod No wD wD_6 by rw [hwD_6];exact hS0)
   clear hwD_6
   show K _ _
   have hS1:=HMwD_6.out
   refine hK.out _ _ (fun _=>hS1) ?_
   clear hK K
   refine wpAnyT_two 8 12 rfl rfl (by kernel_rfl) rfl rfl ?_ ?_
   ·intro K hK
    go_simp
    go_at_call 16
    with_reducible refine (HFN.out wD_6 hS1).mono ?_
    rintro e wD_6_8 ⟨hfr,hmwD_6_8⟩
    obtain ⟨ds,rfl,hd1,hd2⟩:=findr_u HOKX.out th HTH.out hfr
    have HD39:=zh hd1
    have HDO:=zh hd2
    have HMwD_6_8:=zh (hS1.trans hmwD_6_8)
    clear hmwD_6_8 hfr hd1 hd2
    show K _ _
    have hS2:=HMwD_6_8.out
    refine hK.out _ _ (fun _=>hS2) ?_
    clear hK K
    refine yT 9 (some 38) ?_ hS2 ?_ ?_
    rotate_left
    ·(intro w' hSw;go_simp;try with_reducible rfl)
    simp only [Act.put,yB,yC,yD]
    refine yT 10 (some 48) ?_ hS2 ?_ ?_
    rotate_left
    ·(intro w' hSw;go_simp;try with_reducible rfl)
    simp only [Act.put,yB,yC,yD]
    refine yT 11 (some 49) ?_ hS2 ?_ ?_
    rotate_left
    ·(intro w' hSw;go_simp;try with_reducible rfl)
    simp only [Act.put,yB,yC,yD]
    refine wpAnyT_one 12 rfl (by kernel_rfl) rfl ?_
    intro K hK
    obtain ⟨fb,hfb⟩:∃ g,g=wD_6_8.heap.size:=⟨_,rfl⟩
    go_simp
    rw [<- hfb]
    generalize hwwD_6_8_12:World.alloc wD_6_8 _=wD_6_8_12
    have HFB:=zh (show wD_6_8_12.heap[fb]? = some (.cells zs.toArray 46 (0,0)) by rw [<- hwwD_6_8_12,hfb,HZS.out];exact heap_alloc_new _ _)
    have hmwD_6_8_12:Mod No wD_6_8 wD_6_8_12:=by rw [<- hwwD_6_8_12];exact (Mod.refl No _).alloc _
    have HMwD_6_8_12:=zh (hS2.trans hmwD_6_8_12)
    have HFL:=zh (show wD.heap.size<=fb by rw [hfb];exact hS2.size)
    clear hwwD_6_8_12 hfb hmwD_6_8_12
    show K _ _
    have hS3:=HMwD_6_8_12.out
    refine hK.out _ _ (fun _=>hS3) ?_
    clear hK K
    refine wpAnyT_one 13 rfl (by kernel_rfl) rfl ?_
    intro K hK
    refine wp_store_row 46 (.tmp 10) (.tmp 48) rfl fb ds rfl rfl 46 zs.toArray HFB.out (by rw [HD39.out];exact row_info) (by rw [HD39.out];exact HZL.out) HDO.out ?_
    obtain ⟨wD_6_8_12_13,hwD_6_8_12_13⟩:∃ y,y=wD_6_8_12.setRow fb ds:=⟨_,rfl⟩
    rw [<- hwD_6_8_12_13]
    have HMwD_6_8_12_13:=zh (show Mod No wD wD_6_8_12_13 by rw [hwD_6_8_12_13];exact hS3.setRow (fun h=>absurd h (by have h1:=HFL.out;omega)) ds)
    clear hwD_6_8_12_13
    show K _ _
    have hS4:=HMwD_6_8_12_13.out
    refine hK.out _ _ (fun _=>hS4) ?_
    clear hK K
    refine yT 14 (some 11) ?_ hS4 ?_ ?_
    rotate_left
    ·(intro w' hSw;go_simp;try with_reducible rfl)
    simp only [Act.put]
    refine wpAnyT_done (by kernel_rfl) ?_ _
    exact ⟨⟨rfl,rfl,rfl,rfl,rfl,rfl,rfl,rfl,rfl,rfl,rfl,rfl,rfl,rfl,rfl,rfl,trivial⟩,HMwD_6_8_12_13.out⟩
   ·intro K hK
    obtain ⟨fb,hfb⟩:∃ g,g=wD_6.heap.size:=⟨_,rfl⟩
    go_simp
    rw [<- hfb]
    generalize hwwD_6_12:World.alloc wD_6 _=wD_6_12
    have HFB:=zh (show wD_6_12.heap[fb]? = some (.cells zs.toArray 46 (0,0)) by rw [<- hwwD_6_12,hfb,HZS.out];exact heap_alloc_new _ _)
    have hmwD_6_12:Mod No wD_6 wD_6_12:=by rw [<- hwwD_6_12];exact (Mod.refl No _).alloc _
    have HMwD_6_12:=zh (hS1.trans hmwD_6_12)
    have HFL:=zh (show wD.heap.size<=fb by rw [hfb];exact hS1.size)
    clear hwwD_6_12 hfb hmwD_6_12
    show K _ _
    have hS2:=HMwD_6_12.out
    refine hK.out _ _ (fun _=>hS2) ?_
    clear hK K
    refine wpAnyT_one 8 rfl (by kernel_rfl) rfl ?_
    intro K hK
    go_simp
    go_at_call 16
    with_reducible refine (HFN.out wD_6_12 hS2).mono ?_
    rintro e wD_6_12_8 ⟨hfr,hmwD_6_12_8⟩
    obtain ⟨ds,rfl,hd1,hd2⟩:=findr_u HOKX.out th HTH.out hfr
    have HD39:=zh hd1
    have HDO:=zh hd2
    have HMwD_6_12_8:=zh (hS2.trans hmwD_6_12_8)
    have HFB:=zh (hmwD_6_12_8.keep HFB.out (fun f=>f))
    clear hmwD_6_12_8 hfr hd1 hd2
    show K _ _
    have hS3:=HMwD_6_12_8.out
    refine hK.out _ _ (fun _=>hS3) ?_
    clear hK K
    refine yT 9 (some 38) ?_ hS3 ?_ ?_
    rotate_left
    ·(intro w' hSw;go_simp;try with_reducible rfl)
    simp only [Act.put,yB,yC,yD]
    refine yT 10 (some 48) ?_ hS3 ?_ ?_
    rotate_left
    ·(intro w' hSw;go_simp;try with_reducible rfl)
    simp only [Act.put,yB,yC,yD]
    refine yT 11 (some 49) ?_ hS3 ?_ ?_
    rotate_left
    ·(intro w' hSw;go_simp;try with_reducible rfl)
    simp only [Act.put,yB,yC,yD]
    refine wpAnyT_one 13 rfl (by kernel_rfl) rfl ?_
    intro K hK
    refine wp_store_row 46 (.tmp 10) (.tmp 48) rfl fb ds rfl rfl 46 zs.toArray HFB.out (by rw [HD39.out];exact row_info) (by rw [HD39.out];exact HZL.out) HDO.out ?_
    obtain ⟨wD_6_12_8_13,hwD_6_12_8_13⟩:∃ y,y=wD_6_12_8.setRow fb ds:=⟨_,rfl⟩
    rw [<- hwD_6_12_8_13]
    have HMwD_6_12_8_13:=zh (show Mod No wD wD_6_12_8_13 by rw [hwD_6_12_8_13];exact hS3.setRow (fun h=>absurd h (by have h1:=HFL.out;omega)) ds)
    clear hwD_6_12_8_13
    show K _ _
    have hS4:=HMwD_6_12_8_13.out
    refine hK.out _ _ (fun _=>hS4) ?_
    clear hK K
    refine yT 14 (some 11) ?_ hS4 ?_ ?_
    rotate_left
    ·(intro w' hSw;go_simp;try with_reducible rfl)
    simp only [Act.put]
    refine wpAnyT_done (by kernel_rfl) ?_ _
    exact ⟨⟨rfl,rfl,rfl,rfl,rfl,rfl,rfl,rfl,rfl,rfl,rfl,rfl,rfl,rfl,rfl,rfl,trivial⟩,HMwD_6_12_8_13.out⟩
  ·intro K hK
   obtain ⟨fb,hfb⟩:∃ g,g=wD.heap.size:=⟨_,rfl⟩
   go_simp
   rw [<- hfb]
   generalize hwwD_12:World.alloc wD _=wD_12
   have HFB:=zh (show wD_12.heap[fb]? = some (.cells zs.toArray 46 (0,0)) by rw [<- hwwD_12,hfb,HZS.out];exact heap_alloc_new _ _)
   have hmwD_12:Mod No wD wD_12:=by rw [<- hwwD_12];exact (Mod.refl No _).alloc _
   have HMwD_12:=zh (hS0.trans hmwD_12)
   have HFL:=zh (show wD.heap.size<=fb by rw [hfb];exact hS0.size)
   clear hwwD_12 hfb hmwD_12
   show K _ _
   have hS1:=HMwD_12.out
   refine hK.out _ _ (fun _=>hS1) ?_
   clear hK K
   refine wpAnyT_one 6 rfl (by kernel_rfl) rfl ?_
   intro K hK
   go_simp
   go_at_call 28
   with_reducible refine (seatname_any s.r.n wD_12).mono ?_
   rintro e wD_12_6 ⟨rfl,hwD_12_6⟩
   have HMwD_12_6:=zh (show Mod No wD wD_12_6 by rw [hwD_12_6];exact hS1)
   have HFB:=zh (show wD_12_6.heap[fb]? = some (.cells zs.toArray 46 (0,0)) by rw [hwD_12_6];exact HFB.out)
   clear hwD_12_6
   show K _ _
   have hS2:=HMwD_12_6.out
   refine hK.out _ _ (fun _=>hS2) ?_
   clear hK K
   refine wpAnyT_one 8 rfl (by kernel_rfl) rfl ?_
   intro K hK
   go_simp
   go_at_call 16
   with_reducible refine (HFN.out wD_12_6 hS2).mono ?_
   rintro e wD_12_6_8 ⟨hfr,hmwD_12_6_8⟩
   obtain ⟨ds,rfl,hd1,hd2⟩:=findr_u HOKX.out th HTH.out hfr
   have HD39:=zh hd1
   have HDO:=zh hd2
   have HMwD_12_6_8:=zh (hS2.trans hmwD_12_6_8)
   have HFB:=zh (hmwD_12_6_8.keep HFB.out (fun f=>f))
   clear hmwD_12_6_8 hfr hd1 hd2
   show K _ _
   have hS3:=HMwD_12_6_8.out
   refine hK.out _ _ (fun _=>hS3) ?_
   clear hK K
   refine yT 9 (some 38) ?_ hS3 ?_ ?_
   rotate_left
   ·(intro w' hSw;go_simp;try with_reducible rfl)
   simp only [Act.put,yB,yC,yD]
   refine yT 10 (some 48) ?_ hS3 ?_ ?_
   rotate_left
   ·(intro w' hSw;go_simp;try with_reducible rfl)
   simp only [Act.put,yB,yC,yD]
   refine yT 11 (some 49) ?_ hS3 ?_ ?_
   rotate_left
   ·(intro w' hSw;go_simp;try with_reducible rfl)
   simp only [Act.put,yB,yC,yD]
   refine wpAnyT_one 13 rfl (by kernel_rfl) rfl ?_
   intro K hK
   refine wp_store_row 46 (.tmp 10) (.tmp 48) rfl fb ds rfl rfl 46 zs.toArray HFB.out (by rw [HD39.out];exact row_info) (by rw [HD39.out];exact HZL.out) HDO.out ?_
   obtain ⟨wD_12_6_8_13,hwD_12_6_8_13⟩:∃ y,y=wD_12_6_8.setRow fb ds:=⟨_,rfl⟩
   rw [<- hwD_12_6_8_13]
   have HMwD_12_6_8_13:=zh (show Mod No wD wD_12_6_8_13 by rw [hwD_12_6_8_13];exact hS3.setRow (fun h=>absurd h (by have h1:=HFL.out;omega)) ds)
   clear hwD_12_6_8_13
   show K _ _
   have hS4:=HMwD_12_6_8_13.out
   refine hK.out _ _ (fun _=>hS4) ?_
   clear hK K
   refine yT 14 (some 11) ?_ hS4 ?_ ?_
   rotate_left
   ·(intro w' hSw;go_simp;try with_reducible rfl)
   simp only [Act.put]
   refine wpAnyT_done (by kernel_rfl) ?_ _
   exact ⟨⟨rfl,rfl,rfl,rfl,rfl,rfl,rfl,rfl,rfl,rfl,rfl,rfl,rfl,rfl,rfl,rfl,trivial⟩,HMwD_12_6_8_13.out⟩
 rintro a4 w4 ⟨hF4,hm4⟩
 refine hK7 _ _ ?_
 have HM4:=zh hm4
 clear hK7 K7 HFN HFN0 hS0 hm4
 obtain ⟨ts,ds⟩:=a4
 obtain ⟨hsz,hds,hs0,hs5,hs6,hs7,hs1,hs2,hs3,hs4,hs215,hs216,hs217,hs218,hs8,hs11,-⟩:=hF4
 dsimp only at hsz hds hs0 hs5 hs6 hs7 hs1 hs2 hs3 hs4 hs215 hs216 hs217 hs218 hs8 hs11
 subst hds
 obtain ⟨c,rfl,hc⟩:=lit219 ts hsz
 rw [hc] at hs0
 rw [hc] at hs5
 rw [hc] at hs6
 rw [hc] at hs7
 rw [hc] at hs1
 rw [hc] at hs2
 rw [hc] at hs3
 rw [hc] at hs4
 rw [hc] at hs215
 rw [hc] at hs216
 rw [hc] at hs217
 rw [hc] at hs218
 rw [hc] at hs8
 rw [hc] at hs11
 simp only [hs0,hs5,hs6,hs7,hs1,hs2,hs3,hs4,hs215,hs216,hs217,hs218,hs8,hs11]
 clear hc hsz hs0 hs5 hs6 hs7 hs1 hs2 hs3 hs4 hs215 hs216 hs217 hs218 hs8 hs11
 cases th with
 | true =>
  have HKS:=zh (show keptK st [s.r]=st by rw [HKP.out];rfl)
  go_wp2_with fail
  exact Met.intro (HJ.out _ _ ⟨_,_,xs,as',⟨rfl,rfl,rfl,rfl,rfl,rfl,rfl,rfl,rfl,rfl,rfl,rfl,rfl,rfl,trivial⟩,HR.out.no (HMD.out.trans HM4.out),HA.out.no (HMD.out.trans HM4.out),by rw [HKS.out];exact HXS.out,by rw [HKS.out];exact HAS.out,(HMD.out.trans HM4.out).weaken (fun _ _ f=>f.elim)⟩)
 | false =>
  have HKS:=zh (show keptK st [s.r]=st++[s.r] by rw [HKP.out];rfl)
  have HW4:=zh (HMD.out.trans HM4.out)
  obtain ⟨na,nc,hnv⟩:=HSB.out.len
  have HNV:=zh hnv
  have HRG4:=zh (show w4.rangeAt ib (io+k*5) [.int .u8 (s.r.n:Int),.int .u8 (s.r.v:Int),.slice na s.r.needs.length nc,.int .u8 (s.r.kind:Int),.int .u8 (s.r.lie:Int)] by
   have h9:=HW4.out.rangeAt HRG.out (fun f=>f)
   unfold SrX.cells at h9
   rw [hnv] at h9
   exact h9)
  have HFI:=zh (files_any s.r.n s.r.v s.r.needs na s.r.needs.length nc s.r.kind s.r.lie w4)
  clear hnv
  go_wp2_with (refine wpList_load_mid rfl 72 _ rfl ib (io+k*5) rfl _ _ HRG4.out underlying72 rfl srow_info ?_)
  with_reducible refine HFI.out.mono ?_
  rintro e w5 ⟨⟨fv,fs,rfl,hfl,hff⟩,hm5⟩
  have HFL:=zh hfl
  have HFF:=zh (show fs.map FlX.f=filesK s.r from hff)
  have HM5:=zh (HW4.out.trans hm5)
  have H35:=zh ((H3D.out.trans HM4.out).trans hm5)
  have HSZ35:=zh H35.out.size
  clear hfl hff hm5 HFI
  have hple:(packA (filesK s.r)).length<=2000:=by
   have h9:=archK_le s.r
   unfold archK at h9
   rw [List.length_append] at h9
   omega
  obtain ⟨P0,hP0⟩:∃ P,P=packA (filesK s.r):=⟨_,rfl⟩
  rw [<- hP0] at hple
  have HP0:=zh hP0
  have HPK:=zh (show Calls prog 33 #[fv] w5 fun e w'=>∃ v',e=.returned v'/\w'.ownsRow w5.heap.size 5 1 v' P0.length (bv P0)/\Mod No w5 w' from by
   have h9:=pack_any fs fv w5 HFL.out (fun x hx=>filesK_path s.r _ (by rw [<- HFF.out];exact List.mem_map_of_mem hx)) (by rw [HFF.out,<- hP0];omega)
   rw [HFF.out,<- hP0] at h9
   exact h9)
  clear hP0
  go_wp2_with fail
  with_reducible refine HPK.out.mono ?_
  rintro e w6 ⟨v6,rfl,hown6,hm6⟩
  have HO6:=zh hown6
  have HM6:=zh (HM5.out.trans hm6)
  have H36:=zh (H35.out.trans hm6)
  have HSZ56:=zh hm6.size
  clear hown6 hm6 HPK HRG4
  have HSZ5:=zh HM5.out.size
  have HSZ6:=zh HM6.out.size
  have c3:=HM6.out.cell (HRG.out 3 _ rfl) (fun f=>f)
  have hm:(s.r.kind:Int).tmod 10=((s.r.kind % 10:Nat):Int):=(Int.ofNat_tmod s.r.kind 10).symm
  have hm2:(s.r.kind:Int) % 10=((s.r.kind % 10:Nat):Int):=by omega
  obtain ⟨kk,hkk⟩:∃ kk,kk=s.r.kind % 10:=⟨_,rfl⟩
  rw [<- hkk] at hm hm2
  have HAK:=zh (show archK s.r=P0++(if kk=9 then [7] else []) by rw [hkk,HP0.out];rfl)
  clear hkk
  go_upto_if 63 with fail
  rename_i K8 hK8
  refine wp_only (R:=fun a' w'=>∃ v,Fr 219 [(0,.slice (some ⟨ib,io,none⟩) inn icc),(5,.slice ra st.length rc),(6,.slice aa st.length ac),(7,.int .i64 (k:Int)),(1,z1),(2,z2),(3,z3),(4,z4),(215,z215),(216,z216),(217,z217),(218,z218),(8,.pointer (some ⟨vb,0,none⟩)),(12,v)] a'/\w'.ownsRow w5.heap.size 5 1 v (archK s.r).length (bv (archK s.r))/\Mod (fun q=>w5.heap.size<=q) w6 w') ?_ ?_
  ·clear hK8 K8
   by_cases h9:kk=9
   ·have h9i:((kk:Nat):Int)=9:=by omega
    have h9b:(((kk:Nat):Int) == 9)=true:=by simp [h9i]
    have HAK2:=zh (show archK s.r=P0++[7] by rw [HAK.out,if_pos h9])
    clear h9 HAK
    go_upto_region 11 with fail
    go_wp2_with (at_builtin;refine wpList_app_buf _ rfl _ _ rfl w5.heap.size _ P0 rfl (.inr (own_keepM HO6.out ((Mod.refl No w6).alloc _) (fun _ _ f=>f))) (by omega) w6.heap.size (.int .u8 7) rfl rfl (heap_alloc_new w6 _) (Nat.le_trans HSZ56.out ((Mod.refl No w6).alloc _).size) ?_;intro v7 w7 hown7 hm7;have HO7:=zh hown7;have HM7:=zh hm7;clear hown7 hm7)
    refine ⟨v7,⟨rfl,rfl,rfl,rfl,rfl,rfl,rfl,rfl,rfl,rfl,rfl,rfl,rfl,rfl,rfl,rfl,trivial⟩,?_,(((Mod.refl No w6).alloc _).weaken (fun _ _ f=>f.elim)).trans HM7.out⟩
    have h8:=HO7.out
    rw [HAK2.out,List.length_append,List.length_singleton,bv_append]
    exact h8
   ·have h9i:¬ ((kk:Nat):Int)=9:=by omega
    have h9b:(((kk:Nat):Int) == 9)=false:=by simp [h9i]
    have HAK2:=zh (show archK s.r=P0 by rw [HAK.out,if_neg h9,List.append_nil])
    clear h9 HAK
    go_wp2_with fail
    exact ⟨_,⟨rfl,rfl,rfl,rfl,rfl,rfl,rfl,rfl,rfl,rfl,rfl,rfl,rfl,rfl,rfl,rfl,trivial⟩,by rw [HAK2.out];exact HO6.out,Mod.refl _ w6⟩
  rintro a7 w7 ⟨v7,hF7,hown7,hm7⟩
  refine hK8 _ _ ?_
  have H37:=zh ((H36.out).then hm7 (fun q hq e=>absurd e (by have h1:=HSZ35.out;omega)))
  have HW7:=zh (HM6.out.then hm7 (fun q hq e=>absurd e (by have h1:=HSZ5.out;omega)))
  obtain ⟨aa2,ac2,hv7⟩:=own_len hown7
  subst hv7
  have HSL7:=zh (Sl.of_own (X:=No) hown7 (fun _ _ f=>f))
  have hal:=archK_le s.r
  obtain ⟨P,hP⟩:∃ P,P=archK s.r:=⟨_,rfl⟩
  have HP:=zh hP
  rw [<- hP] at hF7 hal HSL7
  obtain ⟨L,hL⟩:∃ L,L=P.length:=⟨_,rfl⟩
  have HL:=zh hL
  rw [<- hL] at hF7 hal HSL7
  clear hK8 K8 hown7 hm7 hP hL hm hm2 c3 HM4 HW4 HM6 HSZ6 HP0 HAK HO6 HFF HFL hple
  obtain ⟨ts,ds⟩:=a7
  obtain ⟨hsz,hds,hs0,hs5,hs6,hs7,hs1,hs2,hs3,hs4,hs215,hs216,hs217,hs218,hs8,hs12,-⟩:=hF7
  dsimp only at hsz hds hs0 hs5 hs6 hs7 hs1 hs2 hs3 hs4 hs215 hs216 hs217 hs218 hs8 hs12
  subst hds
  obtain ⟨c,rfl,hc⟩:=lit219 ts hsz
  rw [hc] at hs0
  rw [hc] at hs5
  rw [hc] at hs6
  rw [hc] at hs7
  rw [hc] at hs1
  rw [hc] at hs2
  rw [hc] at hs3
  rw [hc] at hs4
  rw [hc] at hs215
  rw [hc] at hs216
  rw [hc] at hs217
  rw [hc] at hs218
  rw [hc] at hs8
  rw [hc] at hs12
  simp only [hs0,hs5,hs6,hs7,hs1,hs2,hs3,hs4,hs215,hs216,hs217,hs218,hs8,hs12]
  clear hc hsz hs0 hs5 hs6 hs7 hs1 hs2 hs3 hs4 hs215 hs216 hs217 hs218 hs8 hs12
  have hS32:=sumF_length P
  obtain ⟨S,hS⟩:∃ S,S=sumF P:=⟨_,rfl⟩
  rw [<- hS] at hS32
  have HS32:=zh hS32
  have HSS:=zh hS
  have HNA:=zh (seatname_any s.r.n)
  have HNC:=zh (show rowCs ⟨(nameK s.r.n).toArray⟩ va vi vp (.slice pa pr.length pc) S (L:Int)=RwX.cells ⟨⟨nameK s.r.n,⟨va,vi,vp,pr⟩,S,L,[]⟩,.slice pa pr.length pc,.slice none 0 0⟩ from rfl)
  unfold strV at HNA
  generalize hA:(⟨(nameK s.r.n).toArray⟩:ByteArray)=A at *
  have HC:=zh (show (rowCs A va vi vp (.slice pa pr.length pc) S (L:Int)).length=39 by have:=rowCs_length hS32 A va vi vp (.slice pa pr.length pc) (L:Int);simpa using this)
  have HDO:=zh (show (rowCs A va vi vp (.slice pa pr.length pc) S (L:Int)).toArray.all (·.oneCell')=true by
   rw [List.all_toArray,List.all_eq_true]
   exact rowcs_one A va vi vp pa pr.length pc S (L:Int))
  go_upto_region 12 with fail
  rename_i K9 hK9
  have HV7:=zh (show w7.heap[vb]? = some (.cells #[.int .i64 va,.int .i64 vi,.int .i64 vp,.slice pa pr.length pc] 40 (0,0)) from H37.out.keep HV3.out (fun f=>f))
  have HP7:=zh (HP3.out.kn H37.out)
  clear HSM HPD HV3 HP3 HWD
  obtain ⟨wD,hwD⟩:∃ y,y=w7.drew:=⟨_,rfl⟩
  have hmD:Mod No w7 wD:=by rw [hwD];exact (Mod.refl No w7).drew
  have HMD:=zh (HW7.out.trans hmD)
  have HSLD:=zh (HSL7.out.kn hmD)
  have HPD:=zh (HP7.out.kn hmD)
  have HSM:=zh (show ∀ w',Mod No wD w'->w'.cell? ⟨ib,io+k*5,none⟩=some (.int .u8 (s.r.n:Int))/\w'.heap[vb]? = some (.cells #[.int .i64 va,.int .i64 vi,.int .i64 vp,.slice pa pr.length pc] 40 (0,0)) from fun w' h =>
   ⟨(HMD.out.trans h).cell (HRG.out 0 _ rfl) (fun f=>f),(hmD.trans h).keep HV7.out (fun f=>f)⟩)
  have HOF:=zh (show ∀ W ga,Mod No wD W->W.heap[ga]? = some (.cells #[.slice aa2 L ac2] 29 (0,0))->Calls prog 35 #[.slice (some ⟨ga,0,none⟩) 1 1] W fun e w'=>e=.returned (keyV S)/\Mod No W w' from fun W ga hW hga=>by
   rw [HSS.out]
   have h9:=HSLD.out.kn hW
   have h8:=HL.out
   subst h8
   exact refof_any P ga 0 1 _ W (by omega) (cell_of (i:=0) hga rfl) h9)
  have HWD:=zh hwD
  have hS0:=Mod.refl No wD
  clear hwD hmD hS32 hS
  refine wp_only (R:=fun a' w'=>∃ rb,Fr 219 [(0,.slice (some ⟨ib,io,none⟩) inn icc),(5,.slice ra st.length rc),(6,.slice aa st.length ac),(7,.int .i64 (k:Int)),(1,z1),(2,z2),(3,z3),(4,z4),(215,z215),(216,z216),(217,z217),(218,z218),(12,.slice aa2 L ac2),(13,.pointer (some ⟨rb,0,none⟩))] a'/\w'.heap[rb]? = some (.cells (rowCs A va vi vp (.slice pa pr.length pc) S (L:Int)).toArray 46 (0,0))/\wD.heap.size<=rb/\Mod No wD w') ?_ ?_
  ·clear hK9 K9
   refine wp_region_T (fun w'=>Mod No wD w') 99 (by kernel_rfl) ?_
   rw [<- HWD.out]
   refine yT 0 (some 67) ?_ hS0 ?_ ?_
   rotate_left
   ·(intro w' hSw;go_simp;try with_reducible rfl)
   simp only [Act.put,yB,yC,yD]
   refine yT 1 (some 68) ?_ hS0 ?_ ?_
   rotate_left
   ·(intro w' hSw;go_simp;try with_reducible rfl)
   simp only [Act.put,yB,yC,yD]
   refine yT 2 (some 69) ?_ hS0 ?_ ?_
   rotate_left
   ·(intro w' hSw;go_simp;try with_reducible rfl)
   simp only [Act.put,yB,yC,yD]
   refine yT 3 (some 70) ?_ hS0 ?_ ?_
   rotate_left
   ·(intro w' hSw;go_simp;try with_reducible rfl)
   simp only [Act.put,yB,yC,yD]
   refine yT 4 (some 71) (.int .u8 (s.r.n:Int)) hS0 ?_ ?_
   ·(intro w' hSw;have q0:=(HSM.out w' hSw).1;go_simp;try with_reducible rfl)
   simp only [Act.put,yB,yC,yD]
   refine yT 6 (some 73) (.agg #[.int .i64 va,.int .i64 vi,.int .i64 vp,.slice pa pr.length pc]) hS0 ?_ ?_
   ·(intro w' hSw;apply yloadv (load_ver (HSM.out w' hSw).2) (.tmp 8) <;> rfl)
   simp only [Act.put,yB,yC,yD]
   refine yT 7 (some 74) ?_ hS0 ?_ ?_
   rotate_left
   ·(intro w' hSw;go_simp;try with_reducible rfl)
   simp only [Act.put,yB,yC,yD]
   refine yT 10 (some 77) ?_ hS0 ?_ ?_
   rotate_left
   ·(intro w' hSw;go_simp;try with_reducible rfl)
   simp only [Act.put,yB,yC,yD]
   refine yT 11 (some 78) ?_ hS0 ?_ ?_
   rotate_left
   ·(intro w' hSw;go_simp;try with_reducible rfl)
   simp only [Act.put,yB,yC,yD]
   refine wpAnyT_three 5 8 13 rfl rfl rfl (by kernel_rfl) rfl rfl rfl ?_ ?_ ?_
   ·intro K hK
    go_simp
    go_at_call 28
    with_reducible refine (HNA.out wD).mono ?_
    rintro e wD_5 ⟨rfl,hwD_5⟩
    have HMwD_5:=zh (show Mod No wD wD_5 by rw [hwD_5];exact hS0)
    clear hwD_5
    show K _ _
    have hS1:=HMwD_5.out
    refine hK.out _ _ (fun _=>hS1) ?_
    clear hK K
    refine wpAnyT_two 8 13 rfl rfl (by kernel_rfl) rfl rfl ?_ ?_
    ·intro K hK
     obtain ⟨ga,hga⟩:∃ g,g=wD_5.heap.size:=⟨_,rfl⟩
     go_simp
     rw [<- hga]
     generalize hwwD_5_8:World.alloc wD_5 _=wD_5_8
     have HGA:=zh (show wD_5_8.heap[ga]? = some (.cells #[.slice aa2 L ac2] 29 (0,0)) by rw [<- hwwD_5_8,hga];exact heap_alloc_new _ _)
     have hmwD_5_8:Mod No wD_5 wD_5_8:=by rw [<- hwwD_5_8];exact (Mod.refl No _).alloc _
     have HMwD_5_8:=zh (hS1.trans hmwD_5_8)
     clear hwwD_5_8 hga hmwD_5_8
     show K _ _
     have hS2:=HMwD_5_8.out
     refine hK.out _ _ (fun _=>hS2) ?_
     clear hK K
     refine wpAnyT_two 9 13 rfl rfl (by kernel_rfl) rfl rfl ?_ ?_
     ·intro K hK
      go_simp
      go_at_call 35
      with_reducible refine (HOF.out wD_5_8 ga hS2 HGA.out).mono ?_
      rintro e wD_5_8_9 ⟨rfl,hmwD_5_8_9⟩
      have HMwD_5_8_9:=zh (hS2.trans hmwD_5_8_9)
      clear hmwD_5_8_9
      show K _ _
      have hS3:=HMwD_5_8_9.out
      refine hK.out _ _ (fun _=>hS3) ?_
      clear hK K
      refine wpAnyT_takeV 12 (some 79) (.agg (rowCs A va vi vp (.slice pa pr.length pc) S L).toArray) rfl rfl (by kernel_rfl) (fun _ _ _ h=>h) hS3 (Or.inl ⟨by rfl,?_⟩) ?_
      ·(intro w' hSw;exact ybuild _ (by simp only [Array.toList_map,List.map_cons,List.map_nil];exact row_built A va vi vp pa pr.length pc HS32.out (L:Int)) rfl)
      simp only [Act.put,yB,yC,yD]
      refine wpAnyT_one 13 rfl (by kernel_rfl) rfl ?_
      intro K hK
      obtain ⟨rb,hrb⟩:∃ g,g=wD_5_8_9.heap.size:=⟨_,rfl⟩
      go_simp
      rw [<- hrb]
      generalize hwwD_5_8_9_13:World.alloc wD_5_8_9 _=wD_5_8_9_13
      have HFB:=zh (show wD_5_8_9_13.heap[rb]? = some (.cells zs.toArray 46 (0,0)) by rw [<- hwwD_5_8_9_13,hrb,HZS.out];exact heap_alloc_new _ _)
      have hmwD_5_8_9_13:Mod No wD_5_8_9 wD_5_8_9_13:=by rw [<- hwwD_5_8_9_13];exact (Mod.refl No _).alloc _
      have HMwD_5_8_9_13:=zh (hS3.trans hmwD_5_8_9_13)
      have HRBL:=zh (show wD.heap.size<=rb by rw [hrb];exact hS3.size)
      clear hwwD_5_8_9_13 hrb hmwD_5_8_9_13
      show K _ _
      have hS4:=HMwD_5_8_9_13.out
      refine hK.out _ _ (fun _=>hS4) ?_
      clear hK K
      refine wpAnyT_one 14 rfl (by kernel_rfl) rfl ?_
      intro K hK
      refine wp_store_row 46 (.tmp 13) (.tmp 79) rfl rb (rowCs A va vi vp (.slice pa pr.length pc) S L).toArray rfl rfl 46 zs.toArray HFB.out (by rw [List.size_toArray,HC.out];exact row_info) (HZL.out.trans HC.out.symm) HDO.out ?_
      obtain ⟨wD_5_8_9_13_14,hwD_5_8_9_13_14⟩:∃ y,y=wD_5_8_9_13.setRow rb (rowCs A va vi vp (.slice pa pr.length pc) S L).toArray:=⟨_,rfl⟩
      rw [<- hwD_5_8_9_13_14]
      have HRF:=zh (show wD_5_8_9_13_14.heap[rb]? = some (.cells (rowCs A va vi vp (.slice pa pr.length pc) S L).toArray 46 (0,0)) by rw [hwD_5_8_9_13_14];exact setRow_heap _ _ _ _ _ _ HFB.out)
      have HMwD_5_8_9_13_14:=zh (show Mod No wD wD_5_8_9_13_14 by rw [hwD_5_8_9_13_14];exact hS4.setRow (fun h=>absurd h (by have h1:=HRBL.out;omega)) _)
      clear hwD_5_8_9_13_14
      show K _ _
      have hS5:=HMwD_5_8_9_13_14.out
      refine hK.out _ _ (fun _=>hS5) ?_
      clear hK K
      refine wpAnyT_done (by kernel_rfl) ?_ _
      exact ⟨rb,⟨rfl,rfl,rfl,rfl,rfl,rfl,rfl,rfl,rfl,rfl,rfl,rfl,rfl,rfl,rfl,rfl,trivial⟩,HRF.out,HRBL.out,HMwD_5_8_9_13_14.out⟩
     ·intro K hK
      obtain ⟨rb,hrb⟩:∃ g,g=wD_5_8.heap.size:=⟨_,rfl⟩
      go_simp
      rw [<- hrb]
      generalize hwwD_5_8_13:World.alloc wD_5_8 _=wD_5_8_13
      have HFB:=zh (show wD_5_8_13.heap[rb]? = some (.cells zs.toArray 46 (0,0)) by rw [<- hwwD_5_8_13,hrb,HZS.out];exact heap_alloc_new _ _)
      have hmwD_5_8_13:Mod No wD_5_8 wD_5_8_13:=by rw [<- hwwD_5_8_13];exact (Mod.refl No _).alloc _
      have HMwD_5_8_13:=zh (hS2.trans hmwD_5_8_13)
      have HGA:=zh (hmwD_5_8_13.keep HGA.out (fun f=>f))
      have HRBL:=zh (show wD.heap.size<=rb by rw [hrb];exact hS2.size)
      clear hwwD_5_8_13 hrb hmwD_5_8_13
      show K _ _
      have hS3:=HMwD_5_8_13.out
      refine hK.out _ _ (fun _=>hS3) ?_
      clear hK K
      refine wpAnyT_one 9 rfl (by kernel_rfl) rfl ?_
      intro K hK
      go_simp
      go_at_call 35
      with_reducible refine (HOF.out wD_5_8_13 ga hS3 HGA.out).mono ?_
      rintro e wD_5_8_13_9 ⟨rfl,hmwD_5_8_13_9⟩
      have HMwD_5_8_13_9:=zh (hS3.trans hmwD_5_8_13_9)
      have HFB:=zh (hmwD_5_8_13_9.keep HFB.out (fun f=>f))
      clear hmwD_5_8_13_9
      show K _ _
      have hS4:=HMwD_5_8_13_9.out
      refine hK.out _ _ (fun _=>hS4) ?_
      clear hK K
      refine wpAnyT_takeV 12 (some 79) (.agg (rowCs A va vi vp (.slice pa pr.length pc) S L).toArray) rfl rfl (by kernel_rfl) (fun _ _ _ h=>h) hS4 (Or.inl ⟨by rfl,?_⟩) ?_
      ·(intro w' hSw;exact ybuild _ (by simp only [Array.toList_map,List.map_cons,List.map_nil];exact row_built A va vi vp pa pr.length pc HS32.out (L:Int)) rfl)
      simp only [Act.put,yB,yC,yD]
      refine wpAnyT_one 14 rfl (by kernel_rfl) rfl ?_
      intro K hK
      refine wp_store_row 46 (.tmp 13) (.tmp 79) rfl rb (rowCs A va vi vp (.slice pa pr.length pc) S L).toArray rfl rfl 46 zs.toArray HFB.out (by rw [List.size_toArray,HC.out];exact row_info) (HZL.out.trans HC.out.symm) HDO.out ?_
      obtain ⟨wD_5_8_13_9_14,hwD_5_8_13_9_14⟩:∃ y,y=wD_5_8_13_9.setRow rb (rowCs A va vi vp (.slice pa pr.length pc) S L).toArray:=⟨_,rfl⟩
      rw [<- hwD_5_8_13_9_14]
      have HRF:=zh (show wD_5_8_13_9_14.heap[rb]? = some (.cells (rowCs A va vi vp (.slice pa pr.length pc) S L).toArray 46 (0,0)) by rw [hwD_5_8_13_9_14];exact setRow_heap _ _ _ _ _ _ HFB.out)
      have HMwD_5_8_13_9_14:=zh (show Mod No wD wD_5_8_13_9_14 by rw [hwD_5_8_13_9_14];exact hS4.setRow (fun h=>absurd h (by have h1:=HRBL.out;omega)) _)
      clear hwD_5_8_13_9_14
      show K _ _
      have hS5:=HMwD_5_8_13_9_14.out
      refine hK.out _ _ (fun _=>hS5) ?_
      clear hK K
      refine wpAnyT_done (by kernel_rfl) ?_ _
      exact ⟨rb,⟨rfl,rfl,rfl,rfl,rfl,rfl,rfl,rfl,rfl,rfl,rfl,rfl,rfl,rfl,rfl,rfl,trivial⟩,HRF.out,HRBL.out,HMwD_5_8_13_9_14.out⟩
    ·intro K hK
     obtain ⟨rb,hrb⟩:∃ g,g=wD_5.heap.size:=⟨_,rfl⟩
     go_simp
     rw [<- hrb]
     generalize hwwD_5_13:World.alloc wD_5 _=wD_5_13
     have HFB:=zh (show wD_5_13.heap[rb]? = some (.cells zs.toArray 46 (0,0)) by rw [<- hwwD_5_13,hrb,HZS.out];exact heap_alloc_new _ _)
     have hmwD_5_13:Mod No wD_5 wD_5_13:=by rw [<- hwwD_5_13];exact (Mod.refl No _).alloc _
     have HMwD_5_13:=zh (hS1.trans hmwD_5_13)
     have HRBL:=zh (show wD.heap.size<=rb by rw [hrb];exact hS1.size)
     clear hwwD_5_13 hrb hmwD_5_13
     show K _ _
     have hS2:=HMwD_5_13.out
     refine hK.out _ _ (fun _=>hS2) ?_
     clear hK K
     refine wpAnyT_one 8 rfl (by kernel_rfl) rfl ?_
     intro K hK
     obtain ⟨ga,hga⟩:∃ g,g=wD_5_13.heap.size:=⟨_,rfl⟩
     go_simp
     rw [<- hga]
     generalize hwwD_5_13_8:World.alloc wD_5_13 _=wD_5_13_8
     have HGA:=zh (show wD_5_13_8.heap[ga]? = some (.cells #[.slice aa2 L ac2] 29 (0,0)) by rw [<- hwwD_5_13_8,hga];exact heap_alloc_new _ _)
     have hmwD_5_13_8:Mod No wD_5_13 wD_5_13_8:=by rw [<- hwwD_5_13_8];exact (Mod.refl No _).alloc _
     have HMwD_5_13_8:=zh (hS2.trans hmwD_5_13_8)
     have HFB:=zh (hmwD_5_13_8.keep HFB.out (fun f=>f))
     clear hwwD_5_13_8 hga hmwD_5_13_8
     show K _ _
     have hS3:=HMwD_5_13_8.out
     refine hK.out _ _ (fun _=>hS3) ?_
     clear hK K
     refine wpAnyT_one 9 rfl (by kernel_rfl) rfl ?_
     intro K hK
     go_simp
     go_at_call 35
     with_reducible refine (HOF.out wD_5_13_8 ga hS3 HGA.out).mono ?_
     rintro e wD_5_13_8_9 ⟨rfl,hmwD_5_13_8_9⟩
     have HMwD_5_13_8_9:=zh (hS3.trans hmwD_5_13_8_9)
     have HFB:=zh (hmwD_5_13_8_9.keep HFB.out (fun f=>f))
     clear hmwD_5_13_8_9
     show K _ _
     have hS4:=HMwD_5_13_8_9.out
     refine hK.out _ _ (fun _=>hS4) ?_
     clear hK K
     refine wpAnyT_takeV 12 (some 79) (.agg (rowCs A va vi vp (.slice pa pr.length pc) S L).toArray) rfl rfl (by kernel_rfl) (fun _ _ _ h=>h) hS4 (Or.inl ⟨by rfl,?_⟩) ?_
     ·(intro w' hSw;exact ybuild _ (by simp only [Array.toList_map,List.map_cons,List.map_nil];exact row_built A va vi vp pa pr.length pc HS32.out (L:Int)) rfl)
     simp only [Act.put,yB,yC,yD]
     refine wpAnyT_one 14 rfl (by kernel_rfl) rfl ?_
     intro K hK
     refine wp_store_row 46 (.tmp 13) (.tmp 79) rfl rb (rowCs A va vi vp (.slice pa pr.length pc) S L).toArray rfl rfl 46 zs.toArray HFB.out (by rw [List.size_toArray,HC.out];exact row_info) (HZL.out.trans HC.out.symm) HDO.out ?_
     obtain ⟨wD_5_13_8_9_14,hwD_5_13_8_9_14⟩:∃ y,y=wD_5_13_8_9.setRow rb (rowCs A va vi vp (.slice pa pr.length pc) S L).toArray:=⟨_,rfl⟩
     rw [<- hwD_5_13_8_9_14]
     have HRF:=zh (show wD_5_13_8_9_14.heap[rb]? = some (.cells (rowCs A va vi vp (.slice pa pr.length pc) S L).toArray 46 (0,0)) by rw [hwD_5_13_8_9_14];exact setRow_heap _ _ _ _ _ _ HFB.out)
     have HMwD_5_13_8_9_14:=zh (show Mod No wD wD_5_13_8_9_14 by rw [hwD_5_13_8_9_14];exact hS4.setRow (fun h=>absurd h (by have h1:=HRBL.out;omega)) _)
     clear hwD_5_13_8_9_14
     show K _ _
     have hS5:=HMwD_5_13_8_9_14.out
     refine hK.out _ _ (fun _=>hS5) ?_
     clear hK K
     refine wpAnyT_done (by kernel_rfl) ?_ _
     exact ⟨rb,⟨rfl,rfl,rfl,rfl,rfl,rfl,rfl,rfl,rfl,rfl,rfl,rfl,rfl,rfl,rfl,rfl,trivial⟩,HRF.out,HRBL.out,HMwD_5_13_8_9_14.out⟩
   ·intro K hK
    obtain ⟨ga,hga⟩:∃ g,g=wD.heap.size:=⟨_,rfl⟩
    go_simp
    rw [<- hga]
    generalize hwwD_8:World.alloc wD _=wD_8
    have HGA:=zh (show wD_8.heap[ga]? = some (.cells #[.slice aa2 L ac2] 29 (0,0)) by rw [<- hwwD_8,hga];exact heap_alloc_new _ _)
    have hmwD_8:Mod No wD wD_8:=by rw [<- hwwD_8];exact (Mod.refl No _).alloc _
    have HMwD_8:=zh (hS0.trans hmwD_8)
    clear hwwD_8 hga hmwD_8
    show K _ _
    have hS1:=HMwD_8.out
    refine hK.out _ _ (fun _=>hS1) ?_
    clear hK K
    refine wpAnyT_two 5 13 rfl rfl (by kernel_rfl) rfl rfl ?_ ?_
    ·intro K hK
     go_simp
     go_at_call 28
     with_reducible refine (HNA.out wD_8).mono ?_
     rintro e wD_8_5 ⟨rfl,hwD_8_5⟩
     have HMwD_8_5:=zh (show Mod No wD wD_8_5 by rw [hwD_8_5];exact hS1)
     have HGA:=zh (show wD_8_5.heap[ga]? = some (.cells #[.slice aa2 L ac2] 29 (0,0)) by rw [hwD_8_5];exact HGA.out)
     clear hwD_8_5
     show K _ _
     have hS2:=HMwD_8_5.out
     refine hK.out _ _ (fun _=>hS2) ?_
     clear hK K
     refine wpAnyT_two 9 13 rfl rfl (by kernel_rfl) rfl rfl ?_ ?_
     ·intro K hK
      go_simp
      go_at_call 35
      with_reducible refine (HOF.out wD_8_5 ga hS2 HGA.out).mono ?_
      rintro e wD_8_5_9 ⟨rfl,hmwD_8_5_9⟩
      have HMwD_8_5_9:=zh (hS2.trans hmwD_8_5_9)
      clear hmwD_8_5_9
      show K _ _
      have hS3:=HMwD_8_5_9.out
      refine hK.out _ _ (fun _=>hS3) ?_
      clear hK K
      refine wpAnyT_takeV 12 (some 79) (.agg (rowCs A va vi vp (.slice pa pr.length pc) S L).toArray) rfl rfl (by kernel_rfl) (fun _ _ _ h=>h) hS3 (Or.inl ⟨by rfl,?_⟩) ?_
      ·(intro w' hSw;exact ybuild _ (by simp only [Array.toList_map,List.map_cons,List.map_nil];exact row_built A va vi vp pa pr.length pc HS32.out (L:Int)) rfl)
      simp only [Act.put,yB,yC,yD]
      refine wpAnyT_one 13 rfl (by kernel_rfl) rfl ?_
      intro K hK
      obtain ⟨rb,hrb⟩:∃ g,g=wD_8_5_9.heap.size:=⟨_,rfl⟩
      go_simp
      rw [<- hrb]
      generalize hwwD_8_5_9_13:World.alloc wD_8_5_9 _=wD_8_5_9_13
      have HFB:=zh (show wD_8_5_9_13.heap[rb]? = some (.cells zs.toArray 46 (0,0)) by rw [<- hwwD_8_5_9_13,hrb,HZS.out];exact heap_alloc_new _ _)
      have hmwD_8_5_9_13:Mod No wD_8_5_9 wD_8_5_9_13:=by rw [<- hwwD_8_5_9_13];exact (Mod.refl No _).alloc _
      have HMwD_8_5_9_13:=zh (hS3.trans hmwD_8_5_9_13)
      have HRBL:=zh (show wD.heap.size<=rb by rw [hrb];exact hS3.size)
      clear hwwD_8_5_9_13 hrb hmwD_8_5_9_13
      show K _ _
      have hS4:=HMwD_8_5_9_13.out
      refine hK.out _ _ (fun _=>hS4) ?_
      clear hK K
      refine wpAnyT_one 14 rfl (by kernel_rfl) rfl ?_
      intro K hK
      refine wp_store_row 46 (.tmp 13) (.tmp 79) rfl rb (rowCs A va vi vp (.slice pa pr.length pc) S L).toArray rfl rfl 46 zs.toArray HFB.out (by rw [List.size_toArray,HC.out];exact row_info) (HZL.out.trans HC.out.symm) HDO.out ?_
      obtain ⟨wD_8_5_9_13_14,hwD_8_5_9_13_14⟩:∃ y,y=wD_8_5_9_13.setRow rb (rowCs A va vi vp (.slice pa pr.length pc) S L).toArray:=⟨_,rfl⟩
      rw [<- hwD_8_5_9_13_14]
      have HRF:=zh (show wD_8_5_9_13_14.heap[rb]? = some (.cells (rowCs A va vi vp (.slice pa pr.length pc) S L).toArray 46 (0,0)) by rw [hwD_8_5_9_13_14];exact setRow_heap _ _ _ _ _ _ HFB.out)
      have HMwD_8_5_9_13_14:=zh (show Mod No wD wD_8_5_9_13_14 by rw [hwD_8_5_9_13_14];exact hS4.setRow (fun h=>absurd h (by have h1:=HRBL.out;omega)) _)
      clear hwD_8_5_9_13_14
      show K _ _
      have hS5:=HMwD_8_5_9_13_14.out
      refine hK.out _ _ (fun _=>hS5) ?_
      clear hK K
      refine wpAnyT_done (by kernel_rfl) ?_ _
      exact ⟨rb,⟨rfl,rfl,rfl,rfl,rfl,rfl,rfl,rfl,rfl,rfl,rfl,rfl,rfl,rfl,rfl,rfl,trivial⟩,HRF.out,HRBL.out,HMwD_8_5_9_13_14.out⟩
     ·intro K hK
      obtain ⟨rb,hrb⟩:∃ g,g=wD_8_5.heap.size:=⟨_,rfl⟩
      go_simp
      rw [<- hrb]
      generalize hwwD_8_5_13:World.alloc wD_8_5 _=wD_8_5_13
      have HFB:=zh (show wD_8_5_13.heap[rb]? = some (.cells zs.toArray 46 (0,0)) by rw [<- hwwD_8_5_13,hrb,HZS.out];exact heap_alloc_new _ _)
      have hmwD_8_5_13:Mod No wD_8_5 wD_8_5_13:=by rw [<- hwwD_8_5_13];exact (Mod.refl No _).alloc _
      have HMwD_8_5_13:=zh (hS2.trans hmwD_8_5_13)
      have HGA:=zh (hmwD_8_5_13.keep HGA.out (fun f=>f))
      have HRBL:=zh (show wD.heap.size<=rb by rw [hrb];exact hS2.size)
      clear hwwD_8_5_13 hrb hmwD_8_5_13
      show K _ _
      have hS3:=HMwD_8_5_13.out
      refine hK.out _ _ (fun _=>hS3) ?_
      clear hK K
      refine wpAnyT_one 9 rfl (by kernel_rfl) rfl ?_
      intro K hK
      go_simp
      go_at_call 35
      with_reducible refine (HOF.out wD_8_5_13 ga hS3 HGA.out).mono ?_
      rintro e wD_8_5_13_9 ⟨rfl,hmwD_8_5_13_9⟩
      have HMwD_8_5_13_9:=zh (hS3.trans hmwD_8_5_13_9)
      have HFB:=zh (hmwD_8_5_13_9.keep HFB.out (fun f=>f))
      clear hmwD_8_5_13_9
      show K _ _
      have hS4:=HMwD_8_5_13_9.out
      refine hK.out _ _ (fun _=>hS4) ?_
      clear hK K
      refine wpAnyT_takeV 12 (some 79) (.agg (rowCs A va vi vp (.slice pa pr.length pc) S L).toArray) rfl rfl (by kernel_rfl) (fun _ _ _ h=>h) hS4 (Or.inl ⟨by rfl,?_⟩) ?_
      ·(intro w' hSw;exact ybuild _ (by simp only [Array.toList_map,List.map_cons,List.map_nil];exact row_built A va vi vp pa pr.length pc HS32.out (L:Int)) rfl)
      simp only [Act.put,yB,yC,yD]
      refine wpAnyT_one 14 rfl (by kernel_rfl) rfl ?_
      intro K hK
      refine wp_store_row 46 (.tmp 13) (.tmp 79) rfl rb (rowCs A va vi vp (.slice pa pr.length pc) S L).toArray rfl rfl 46 zs.toArray HFB.out (by rw [List.size_toArray,HC.out];exact row_info) (HZL.out.trans HC.out.symm) HDO.out ?_
      obtain ⟨wD_8_5_13_9_14,hwD_8_5_13_9_14⟩:∃ y,y=wD_8_5_13_9.setRow rb (rowCs A va vi vp (.slice pa pr.length pc) S L).toArray:=⟨_,rfl⟩
      rw [<- hwD_8_5_13_9_14]
      have HRF:=zh (show wD_8_5_13_9_14.heap[rb]? = some (.cells (rowCs A va vi vp (.slice pa pr.length pc) S L).toArray 46 (0,0)) by rw [hwD_8_5_13_9_14];exact setRow_heap _ _ _ _ _ _ HFB.out)
      have HMwD_8_5_13_9_14:=zh (show Mod No wD wD_8_5_13_9_14 by rw [hwD_8_5_13_9_14];exact hS4.setRow (fun h=>absurd h (by have h1:=HRBL.out;omega)) _)
      clear hwD_8_5_13_9_14
      show K _ _
      have hS5:=HMwD_8_5_13_9_14.out
      refine hK.out _ _ (fun _=>hS5) ?_
      clear hK K
      refine wpAnyT_done (by kernel_rfl) ?_ _
      exact ⟨rb,⟨rfl,rfl,rfl,rfl,rfl,rfl,rfl,rfl,rfl,rfl,rfl,rfl,rfl,rfl,rfl,rfl,trivial⟩,HRF.out,HRBL.out,HMwD_8_5_13_9_14.out⟩
    ·intro K hK
     obtain ⟨rb,hrb⟩:∃ g,g=wD_8.heap.size:=⟨_,rfl⟩
     go_simp
     rw [<- hrb]
     generalize hwwD_8_13:World.alloc wD_8 _=wD_8_13
     have HFB:=zh (show wD_8_13.heap[rb]? = some (.cells zs.toArray 46 (0,0)) by rw [<- hwwD_8_13,hrb,HZS.out];exact heap_alloc_new _ _)
     have hmwD_8_13:Mod No wD_8 wD_8_13:=by rw [<- hwwD_8_13];exact (Mod.refl No _).alloc _
     have HMwD_8_13:=zh (hS1.trans hmwD_8_13)
     have HGA:=zh (hmwD_8_13.keep HGA.out (fun f=>f))
     have HRBL:=zh (show wD.heap.size<=rb by rw [hrb];exact hS1.size)
     clear hwwD_8_13 hrb hmwD_8_13
     show K _ _
     have hS2:=HMwD_8_13.out
     refine hK.out _ _ (fun _=>hS2) ?_
     clear hK K
     refine wpAnyT_one 5 rfl (by kernel_rfl) rfl ?_
     intro K hK
     go_simp
     go_at_call 28
     with_reducible refine (HNA.out wD_8_13).mono ?_
     rintro e wD_8_13_5 ⟨rfl,hwD_8_13_5⟩
     have HMwD_8_13_5:=zh (show Mod No wD wD_8_13_5 by rw [hwD_8_13_5];exact hS2)
     have HFB:=zh (show wD_8_13_5.heap[rb]? = some (.cells zs.toArray 46 (0,0)) by rw [hwD_8_13_5];exact HFB.out)
     have HGA:=zh (show wD_8_13_5.heap[ga]? = some (.cells #[.slice aa2 L ac2] 29 (0,0)) by rw [hwD_8_13_5];exact HGA.out)
     clear hwD_8_13_5
     show K _ _
     have hS3:=HMwD_8_13_5.out
     refine hK.out _ _ (fun _=>hS3) ?_
     clear hK K
     refine wpAnyT_one 9 rfl (by kernel_rfl) rfl ?_
     intro K hK
     go_simp
     go_at_call 35
     with_reducible refine (HOF.out wD_8_13_5 ga hS3 HGA.out).mono ?_
     rintro e wD_8_13_5_9 ⟨rfl,hmwD_8_13_5_9⟩
     have HMwD_8_13_5_9:=zh (hS3.trans hmwD_8_13_5_9)
     have HFB:=zh (hmwD_8_13_5_9.keep HFB.out (fun f=>f))
     clear hmwD_8_13_5_9
     show K _ _
     have hS4:=HMwD_8_13_5_9.out
     refine hK.out _ _ (fun _=>hS4) ?_
     clear hK K
     refine wpAnyT_takeV 12 (some 79) (.agg (rowCs A va vi vp (.slice pa pr.length pc) S L).toArray) rfl rfl (by kernel_rfl) (fun _ _ _ h=>h) hS4 (Or.inl ⟨by rfl,?_⟩) ?_
     ·(intro w' hSw;exact ybuild _ (by simp only [Array.toList_map,List.map_cons,List.map_nil];exact row_built A va vi vp pa pr.length pc HS32.out (L:Int)) rfl)
     simp only [Act.put,yB,yC,yD]
     refine wpAnyT_one 14 rfl (by kernel_rfl) rfl ?_
     intro K hK
     refine wp_store_row 46 (.tmp 13) (.tmp 79) rfl rb (rowCs A va vi vp (.slice pa pr.length pc) S L).toArray rfl rfl 46 zs.toArray HFB.out (by rw [List.size_toArray,HC.out];exact row_info) (HZL.out.trans HC.out.symm) HDO.out ?_
     obtain ⟨wD_8_13_5_9_14,hwD_8_13_5_9_14⟩:∃ y,y=wD_8_13_5_9.setRow rb (rowCs A va vi vp (.slice pa pr.length pc) S L).toArray:=⟨_,rfl⟩
     rw [<- hwD_8_13_5_9_14]
     have HRF:=zh (show wD_8_13_5_9_14.heap[rb]? = some (.cells (rowCs A va vi vp (.slice pa pr.length pc) S L).toArray 46 (0,0)) by rw [hwD_8_13_5_9_14];exact setRow_heap _ _ _ _ _ _ HFB.out)
     have HMwD_8_13_5_9_14:=zh (show Mod No wD wD_8_13_5_9_14 by rw [hwD_8_13_5_9_14];exact hS4.setRow (fun h=>absurd h (by have h1:=HRBL.out;omega)) _)
     clear hwD_8_13_5_9_14
     show K _ _
     have hS5:=HMwD_8_13_5_9_14.out
     refine hK.out _ _ (fun _=>hS5) ?_
     clear hK K
     refine wpAnyT_done (by kernel_rfl) ?_ _
     exact ⟨rb,⟨rfl,rfl,rfl,rfl,rfl,rfl,rfl,rfl,rfl,rfl,rfl,rfl,rfl,rfl,rfl,rfl,trivial⟩,HRF.out,HRBL.out,HMwD_8_13_5_9_14.out⟩
   ·intro K hK
    obtain ⟨rb,hrb⟩:∃ g,g=wD.heap.size:=⟨_,rfl⟩
    go_simp
    rw [<- hrb]
    generalize hwwD_13:World.alloc wD _=wD_13
    have HFB:=zh (show wD_13.heap[rb]? = some (.cells zs.toArray 46 (0,0)) by rw [<- hwwD_13,hrb,HZS.out];exact heap_alloc_new _ _)
    have hmwD_13:Mod No wD wD_13:=by rw [<- hwwD_13];exact (Mod.refl No _).alloc _
    have HMwD_13:=zh (hS0.trans hmwD_13)
    have HRBL:=zh (show wD.heap.size<=rb by rw [hrb];exact hS0.size)
    clear hwwD_13 hrb hmwD_13
    show K _ _
    have hS1:=HMwD_13.out
    refine hK.out _ _ (fun _=>hS1) ?_
    clear hK K
    refine wpAnyT_two 5 8 rfl rfl (by kernel_rfl) rfl rfl ?_ ?_
    ·intro K hK
     go_simp
     go_at_call 28
     with_reducible refine (HNA.out wD_13).mono ?_
     rintro e wD_13_5 ⟨rfl,hwD_13_5⟩
     have HMwD_13_5:=zh (show Mod No wD wD_13_5 by rw [hwD_13_5];exact hS1)
     have HFB:=zh (show wD_13_5.heap[rb]? = some (.cells zs.toArray 46 (0,0)) by rw [hwD_13_5];exact HFB.out)
     clear hwD_13_5
     show K _ _
     have hS2:=HMwD_13_5.out
     refine hK.out _ _ (fun _=>hS2) ?_
     clear hK K
     refine wpAnyT_one 8 rfl (by kernel_rfl) rfl ?_
     intro K hK
     obtain ⟨ga,hga⟩:∃ g,g=wD_13_5.heap.size:=⟨_,rfl⟩
     go_simp
     rw [<- hga]
     generalize hwwD_13_5_8:World.alloc wD_13_5 _=wD_13_5_8
     have HGA:=zh (show wD_13_5_8.heap[ga]? = some (.cells #[.slice aa2 L ac2] 29 (0,0)) by rw [<- hwwD_13_5_8,hga];exact heap_alloc_new _ _)
     have hmwD_13_5_8:Mod No wD_13_5 wD_13_5_8:=by rw [<- hwwD_13_5_8];exact (Mod.refl No _).alloc _
     have HMwD_13_5_8:=zh (hS2.trans hmwD_13_5_8)
     have HFB:=zh (hmwD_13_5_8.keep HFB.out (fun f=>f))
     clear hwwD_13_5_8 hga hmwD_13_5_8
     show K _ _
     have hS3:=HMwD_13_5_8.out
     refine hK.out _ _ (fun _=>hS3) ?_
     clear hK K
     refine wpAnyT_one 9 rfl (by kernel_rfl) rfl ?_
     intro K hK
     go_simp
     go_at_call 35
     with_reducible refine (HOF.out wD_13_5_8 ga hS3 HGA.out).mono ?_
     rintro e wD_13_5_8_9 ⟨rfl,hmwD_13_5_8_9⟩
     have HMwD_13_5_8_9:=zh (hS3.trans hmwD_13_5_8_9)
     have HFB:=zh (hmwD_13_5_8_9.keep HFB.out (fun f=>f))
     clear hmwD_13_5_8_9
     show K _ _
     have hS4:=HMwD_13_5_8_9.out
     refine hK.out _ _ (fun _=>hS4) ?_
     clear hK K
     refine wpAnyT_takeV 12 (some 79) (.agg (rowCs A va vi vp (.slice pa pr.length pc) S L).toArray) rfl rfl (by kernel_rfl) (fun _ _ _ h=>h) hS4 (Or.inl ⟨by rfl,?_⟩) ?_
     ·(intro w' hSw;exact ybuild _ (by simp only [Array.toList_map,List.map_cons,List.map_nil];exact row_built A va vi vp pa pr.length pc HS32.out (L:Int)) rfl)
     simp only [Act.put,yB,yC,yD]
     refine wpAnyT_one 14 rfl (by kernel_rfl) rfl ?_
     intro K hK
     refine wp_store_row 46 (.tmp 13) (.tmp 79) rfl rb (rowCs A va vi vp (.slice pa pr.length pc) S L).toArray rfl rfl 46 zs.toArray HFB.out (by rw [List.size_toArray,HC.out];exact row_info) (HZL.out.trans HC.out.symm) HDO.out ?_
     obtain ⟨wD_13_5_8_9_14,hwD_13_5_8_9_14⟩:∃ y,y=wD_13_5_8_9.setRow rb (rowCs A va vi vp (.slice pa pr.length pc) S L).toArray:=⟨_,rfl⟩
     rw [<- hwD_13_5_8_9_14]
     have HRF:=zh (show wD_13_5_8_9_14.heap[rb]? = some (.cells (rowCs A va vi vp (.slice pa pr.length pc) S L).toArray 46 (0,0)) by rw [hwD_13_5_8_9_14];exact setRow_heap _ _ _ _ _ _ HFB.out)
     have HMwD_13_5_8_9_14:=zh (show Mod No wD wD_13_5_8_9_14 by rw [hwD_13_5_8_9_14];exact hS4.setRow (fun h=>absurd h (by have h1:=HRBL.out;omega)) _)
     clear hwD_13_5_8_9_14
     show K _ _
     have hS5:=HMwD_13_5_8_9_14.out
     refine hK.out _ _ (fun _=>hS5) ?_
     clear hK K
     refine wpAnyT_done (by kernel_rfl) ?_ _
     exact ⟨rb,⟨rfl,rfl,rfl,rfl,rfl,rfl,rfl,rfl,rfl,rfl,rfl,rfl,rfl,rfl,rfl,rfl,trivial⟩,HRF.out,HRBL.out,HMwD_13_5_8_9_14.out⟩
    ·intro K hK
     obtain ⟨ga,hga⟩:∃ g,g=wD_13.heap.size:=⟨_,rfl⟩
     go_simp
     rw [<- hga]
     generalize hwwD_13_8:World.alloc wD_13 _=wD_13_8
     have HGA:=zh (show wD_13_8.heap[ga]? = some (.cells #[.slice aa2 L ac2] 29 (0,0)) by rw [<- hwwD_13_8,hga];exact heap_alloc_new _ _)
     have hmwD_13_8:Mod No wD_13 wD_13_8:=by rw [<- hwwD_13_8];exact (Mod.refl No _).alloc _
     have HMwD_13_8:=zh (hS1.trans hmwD_13_8)
     have HFB:=zh (hmwD_13_8.keep HFB.out (fun f=>f))
     clear hwwD_13_8 hga hmwD_13_8
     show K _ _
     have hS2:=HMwD_13_8.out
     refine hK.out _ _ (fun _=>hS2) ?_
     clear hK K
     refine wpAnyT_one 5 rfl (by kernel_rfl) rfl ?_
     intro K hK
     go_simp
     go_at_call 28
     with_reducible refine (HNA.out wD_13_8).mono ?_
     rintro e wD_13_8_5 ⟨rfl,hwD_13_8_5⟩
     have HMwD_13_8_5:=zh (show Mod No wD wD_13_8_5 by rw [hwD_13_8_5];exact hS2)
     have HFB:=zh (show wD_13_8_5.heap[rb]? = some (.cells zs.toArray 46 (0,0)) by rw [hwD_13_8_5];exact HFB.out)
     have HGA:=zh (show wD_13_8_5.heap[ga]? = some (.cells #[.slice aa2 L ac2] 29 (0,0)) by rw [hwD_13_8_5];exact HGA.out)
     clear hwD_13_8_5
     show K _ _
     have hS3:=HMwD_13_8_5.out
     refine hK.out _ _ (fun _=>hS3) ?_
     clear hK K
     refine wpAnyT_one 9 rfl (by kernel_rfl) rfl ?_
     intro K hK
     go_simp
     go_at_call 35
     with_reducible refine (HOF.out wD_13_8_5 ga hS3 HGA.out).mono ?_
     rintro e wD_13_8_5_9 ⟨rfl,hmwD_13_8_5_9⟩
     have HMwD_13_8_5_9:=zh (hS3.trans hmwD_13_8_5_9)
     have HFB:=zh (hmwD_13_8_5_9.keep HFB.out (fun f=>f))
     clear hmwD_13_8_5_9
     show K _ _
     have hS4:=HMwD_13_8_5_9.out
     refine hK.out _ _ (fun _=>hS4) ?_
     clear hK K
     refine wpAnyT_takeV 12 (some 79) (.agg (rowCs A va vi vp (.slice pa pr.length pc) S L).toArray) rfl rfl (by kernel_rfl) (fun _ _ _ h=>h) hS4 (Or.inl ⟨by rfl,?_⟩) ?_
     ·(intro w' hSw;exact ybuild _ (by simp only [Array.toList_map,List.map_cons,List.map_nil];exact row_built A va vi vp pa pr.length pc HS32.out (L:Int)) rfl)
     simp only [Act.put,yB,yC,yD]
     refine wpAnyT_one 14 rfl (by kernel_rfl) rfl ?_
     intro K hK
     refine wp_store_row 46 (.tmp 13) (.tmp 79) rfl rb (rowCs A va vi vp (.slice pa pr.length pc) S L).toArray rfl rfl 46 zs.toArray HFB.out (by rw [List.size_toArray,HC.out];exact row_info) (HZL.out.trans HC.out.symm) HDO.out ?_
     obtain ⟨wD_13_8_5_9_14,hwD_13_8_5_9_14⟩:∃ y,y=wD_13_8_5_9.setRow rb (rowCs A va vi vp (.slice pa pr.length pc) S L).toArray:=⟨_,rfl⟩
     rw [<- hwD_13_8_5_9_14]
     have HRF:=zh (show wD_13_8_5_9_14.heap[rb]? = some (.cells (rowCs A va vi vp (.slice pa pr.length pc) S L).toArray 46 (0,0)) by rw [hwD_13_8_5_9_14];exact setRow_heap _ _ _ _ _ _ HFB.out)
     have HMwD_13_8_5_9_14:=zh (show Mod No wD wD_13_8_5_9_14 by rw [hwD_13_8_5_9_14];exact hS4.setRow (fun h=>absurd h (by have h1:=HRBL.out;omega)) _)
     clear hwD_13_8_5_9_14
     show K _ _
     have hS5:=HMwD_13_8_5_9_14.out
     refine hK.out _ _ (fun _=>hS5) ?_
     clear hK K
     refine wpAnyT_done (by kernel_rfl) ?_ _
     exact ⟨rb,⟨rfl,rfl,rfl,rfl,rfl,rfl,rfl,rfl,rfl,rfl,rfl,rfl,rfl,rfl,rfl,rfl,trivial⟩,HRF.out,HRBL.out,HMwD_13_8_5_9_14.out⟩
  rintro a8 w8 ⟨rb,hF8,hrb8,hrbl,hm8⟩
  refine hK9 _ _ ?_
  obtain ⟨x,hx⟩:∃ x:RwX,x=⟨⟨nameK s.r.n,⟨va,vi,vp,pr⟩,S,L,[]⟩,.slice pa pr.length pc,.slice none 0 0⟩:=⟨_,rfl⟩
  have HX:=zh hx
  have HRB8:=zh hrb8
  have HRB:=zh (show w8.heap[rb]? = some (.cells (RwX.cells x).toArray 46 (0,0)) by rw [hx,<- HNC.out];exact hrb8)
  have HW8:=zh (HMD.out.trans hm8)
  have HP8:=zh (HPD.out.kn hm8)
  have HS8:=zh (HSLD.out.kn hm8)
  have HRBL:=zh (show w.heap.size<=rb from Nat.le_trans HMD.out.size hrbl)
  have HSX:=zh (show x.r.sum.length=32 by rw [hx];exact HS32.out)
  have HNX:=zh (show x.r.size=(L:Int) by rw [hx])
  clear hK9 K9 hrb8 hrbl hm8 HSM HOF HSLD HPD HMD HWD hS0 hx HSL7 HW7 HV7 HP7 H37 H36 H35 H3D HM3 HM5 HNA HC HNC HDO HZS HZL HSZ5 HSZ35 HSZ56
  obtain ⟨ts,ds⟩:=a8
  obtain ⟨hsz,hds,hs0,hs5,hs6,hs7,hs1,hs2,hs3,hs4,hs215,hs216,hs217,hs218,hs12,hs13,-⟩:=hF8
  dsimp only at hsz hds hs0 hs5 hs6 hs7 hs1 hs2 hs3 hs4 hs215 hs216 hs217 hs218 hs12 hs13
  subst hds
  obtain ⟨c,rfl,hc⟩:=lit219 ts hsz
  rw [hc] at hs0
  rw [hc] at hs5
  rw [hc] at hs6
  rw [hc] at hs7
  rw [hc] at hs1
  rw [hc] at hs2
  rw [hc] at hs3
  rw [hc] at hs4
  rw [hc] at hs215
  rw [hc] at hs216
  rw [hc] at hs217
  rw [hc] at hs218
  rw [hc] at hs12
  rw [hc] at hs13
  simp only [hs0,hs5,hs6,hs7,hs1,hs2,hs3,hs4,hs215,hs216,hs217,hs218,hs12,hs13]
  clear hc hsz hs0 hs5 hs6 hs7 hs1 hs2 hs3 hs4 hs215 hs216 hs217 hs218 hs12 hs13
  have c4:=HW8.out.cell (HRG.out 4 _ rfl) (fun f=>f)
  have hl:(s.r.lie:Int).tmod 12=((s.r.lie % 12:Nat):Int):=(Int.ofNat_tmod s.r.lie 12).symm
  have hl2:(s.r.lie:Int) % 12=((s.r.lie % 12:Nat):Int):=by omega
  have HLI:=zh (fun a=>lie_part (.slice (some ⟨ib,io,none⟩) inn icc) z1 z2 z3 z4 (.slice ra st.length rc) (.slice aa st.length ac) (.int .i64 (k:Int)) (.slice aa2 L ac2) z215 z216 z217 z218 s.r x L rb a w8 HSX.out HNX.out (by omega) HRB.out)
  generalize hLL:s.r.lie % 12=ll at hl hl2 HLI
  clear hLL
  go_upto_block 2 with fail
  rename_i K10 hK10
  refine wp_only (HLI.out _ ⟨rfl,rfl,rfl,rfl,rfl,rfl,rfl,rfl,rfl,rfl,rfl,rfl,rfl,rfl,rfl,rfl,rfl,trivial⟩) ?_
  rintro a9 w9 ⟨hF9,hrb9,hm9⟩
  refine hK10 _ _ ?_
  obtain ⟨y,hy⟩:∃ y:RwX,y=⟨{ x.r with sum:=lieS x.r.sum s.r.lie,size:=lieN L s.r.lie },x.pv,x.nv⟩:=⟨_,rfl⟩
  have HY:=zh hy
  rw [<- hy] at hrb9
  have HRB9:=zh hrb9
  have HM9:=zh hm9
  have HW9:=zh (HW8.out.then hm9 (fun q hq e=>absurd e (by have h1:=HRBL.out;omega)))
  have HN3:=zh (fun a=>needs3_part z1 z2 z3 z4 (.slice ra st.length rc) (.slice aa st.length ac) (.slice aa2 L ac2) z215 z216 z217 z218 y s.r.needs k ib io inn icc rb s.nv a w9 (by rw [hy];exact lieS_length HSX.out _) HRB9.out (by rw [hy,HX.out]) (by rw [hy,HX.out]) hk
   (HW9.out.cell (HRG.out 2 _ rfl) (fun f=>f)) ((HSB.out.kn HW9.out).shrink (fun q _ e=>by rw [e];exact Nat.le_trans HBB.out HRBL.out)) HS.out.small (by have h1:=HS.out.few;omega) (by have h1:=HRBL.out;have h2:=HBB.out;omega))
  clear hK10 K10 hrb9 hm9 hy c4 hl hl2 HLI HRB
  obtain ⟨ts,ds⟩:=a9
  obtain ⟨hsz,hds,hs13,hs0,hs1,hs2,hs3,hs4,hs5,hs6,hs7,hs12,hs215,hs216,hs217,hs218,-⟩:=hF9
  dsimp only at hsz hds hs0 hs5 hs6 hs7 hs1 hs2 hs3 hs4 hs215 hs216 hs217 hs218 hs12 hs13
  subst hds
  obtain ⟨c,rfl,hc⟩:=lit219 ts hsz
  rw [hc] at hs0
  rw [hc] at hs5
  rw [hc] at hs6
  rw [hc] at hs7
  rw [hc] at hs1
  rw [hc] at hs2
  rw [hc] at hs3
  rw [hc] at hs4
  rw [hc] at hs215
  rw [hc] at hs216
  rw [hc] at hs217
  rw [hc] at hs218
  rw [hc] at hs12
  rw [hc] at hs13
  simp only [hs13,hs0,hs1,hs2,hs3,hs4,hs5,hs6,hs7,hs12,hs215,hs216,hs217,hs218]
  clear hc hsz hs0 hs5 hs6 hs7 hs1 hs2 hs3 hs4 hs215 hs216 hs217 hs218 hs12 hs13
  go_upto_block 3 with fail
  rename_i K11 hK11
  refine wp_only (HN3.out _ ⟨rfl,rfl,rfl,rfl,rfl,rfl,rfl,rfl,rfl,rfl,rfl,rfl,rfl,rfl,rfl,rfl,rfl,trivial⟩) ?_
  rintro a10 w10 ⟨nv',hF10,hrb10,hnd10,hm10⟩
  refine hK11 _ _ ?_
  have HNY:=zh (show y.r.name=nameK s.r.n by rw [HY.out,HX.out])
  rw [HNY.out] at hrb10 hnd10
  obtain ⟨Y,hY⟩:∃ Y:RwX,Y=⟨{ y.r with needs:=ndsK (nameK s.r.n) s.r.needs },y.pv,nv'⟩:=⟨_,rfl⟩
  rw [<- hY] at hrb10
  have HRB10:=zh hrb10
  have HM10:=zh (HM9.out.trans hm10)
  have HW10:=zh (HW8.out.then HM10.out (fun q hq e=>absurd e (by have h1:=HRBL.out;omega)))
  have HRYK:=zh (show Y.r=rowK s.r by
   rw [hY,HY.out,HX.out]
   show (⟨nameK s.r.n,⟨va,vi,vp,pr⟩,lieS S s.r.lie,lieN L s.r.lie,ndsK (nameK s.r.n) s.r.needs⟩:Rw)=⟨nameK s.r.n,verK s.r.v,smK s.r,szK s.r,ndsK (nameK s.r.n) s.r.needs⟩
   rw [HVV.out,smK_lie,szK_lie,HSS.out,HL.out,HP.out])
  have HAT:=zh (show RwAt w10 Y from by
   refine ⟨⟨by rw [HRYK.out];exact (rowK_facts s.r HS.out.few).1,by rw [hY,HY.out,HX.out];exact HSMALL.out,?_,by rw [hY];obtain ⟨_,-,-,h0⟩:=hnd10;obtain ⟨a1,c1,h1⟩:=h0.len;exact ⟨_,_,_,h1⟩⟩,by rw [hY];exact hnd10,?_⟩
   ·rw [hY,HY.out,HX.out]
    exact HP8.out.apart HM10.out (apart_one HRB8.out (by decide))
   ·rw [HRYK.out]
    exact Nat.le_trans (ndsK_le (nameK s.r.n) s.r.needs) (by have h1:=HS.out.few;omega))
  have HSA:=zh (HS8.out.apart HM10.out (apart_one HRB8.out (by decide)))
  have HCL:=zh (show (RwX.cells Y).length=39 from RwX.cells_length Y HAT.out.ok.sum)
  have HR10:=zh (HR.out.no HW10.out)
  have HA10:=zh (HA.out.no HW10.out)
  clear hK11 K11 hrb10 hnd10 hm10 hY HN3 HRB9 HM9 HW9 HRG HSB HS HP8 HS8 HRB8 HW8
  obtain ⟨ts,ds⟩:=a10
  obtain ⟨hsz,hds,hs0,hs7,hs13,hs1,hs2,hs3,hs4,hs5,hs6,hs12,hs215,hs216,hs217,hs218,-⟩:=hF10
  dsimp only at hsz hds hs0 hs7 hs13 hs1 hs2 hs3 hs4 hs5 hs6 hs12 hs215 hs216 hs217 hs218
  subst hds
  obtain ⟨c,rfl,hc⟩:=lit219 ts hsz
  rw [hc] at hs0
  rw [hc] at hs7
  rw [hc] at hs13
  rw [hc] at hs1
  rw [hc] at hs2
  rw [hc] at hs3
  rw [hc] at hs4
  rw [hc] at hs5
  rw [hc] at hs6
  rw [hc] at hs12
  rw [hc] at hs215
  rw [hc] at hs216
  rw [hc] at hs217
  rw [hc] at hs218
  simp only [hs0,hs7,hs13,hs1,hs2,hs3,hs4,hs5,hs6,hs12,hs215,hs216,hs217,hs218]
  clear hc hsz hs0 hs7 hs13 hs1 hs2 hs3 hs4 hs5 hs6 hs12 hs215 hs216 hs217 hs218
  obtain ⟨i0,hi0,hz0,hz1,hz2⟩:=info_parts info_row
  obtain ⟨i1,hj0,hj1,hj2,hj3⟩:=info_parts info_u8s
  have hBw:B<=w10.heap.size:=Nat.le_trans HBB.out HW10.out.size
  have HBw:=zh hBw
  clear hBw
  generalize hYC:RwX.cells Y=YC at HCL
  have HYC:=zh hYC
  have HRBY:=zh (show w10.heap[rb]? = some (.cells YC.toArray 46 (0,0)) by rw [<- hYC];exact HRB10.out)
  clear hYC
  go_wp2_with (first
   |(refine wpList_loadrow rfl _ rfl rb YC rfl HCL.out HRBY.out ?_)
   |(refine wpList_bsrow rfl _ rfl YC rfl HCL.out ?_)
   |(at_builtin;refine app_sl _ rfl _ _ 25 rfl B 46 i0 _ 39 128 underlying25 hi0 hz0 hz1 hz2 rfl (by decide) (.slice ra st.length rc) xs.length (xs.flatMap RwX.cells) rfl (own_keepM HR10.out.own ((Mod.refl No w10).alloc _) (fun _ _ f=>f)) No 46 (.slice (some ⟨w10.heap.size,0,none⟩) 1 1) 1 YC rfl (.inr ⟨w10.heap.size,0,1,_,(0,0),rfl,Nat.le_refl _,by unfold maxLen;omega,fun f=>f,heap_alloc_new w10 _,by simp,fun i hi=>by simp⟩) (by rw [HCL.out]) (by rw [<- HYC.out];intro u hu;have h9:=rows_one HAT.out.ok;rw [List.all_toArray,List.all_eq_true] at h9;exact h9 u hu) (by unfold maxLen;have h1:=HXL.out;omega) (by have h1:=HXL.out;omega) (Nat.le_trans HBw.out ((Mod.refl No w10).alloc _).size) ?_;intro v7 w11 hown11 hg11 _
     have HM11:=zh ((((Mod.refl No w10).alloc (.cells YC.toArray 46)).weaken (fun _ _ f=>f.elim)).trans (Mod.of_grown (S:=fun q=>B<=q) hg11 (fun k e _=>own_base HR10.out.own e)))
     have HR11:=zh (RowsM.push (HR10.out.no ((Mod.refl No w10).alloc _)) hg11 (by rw [HYC.out];exact hown11) (HAT.out.keep ((Mod.refl No w10).alloc _) (Apart.no _ _)))
     have HA11:=zh (ArcsM.beside (HR10.out.no ((Mod.refl No w10).alloc _)) (HA10.out.no ((Mod.refl No w10).alloc _)) (Mod.of_grown hg11 (fun k e _=>e)))
     have HSA11:=zh ((HSA.out.kn ((Mod.refl No w10).alloc _)).apart (Mod.of_grown hg11 (fun k e _=>e)) (own_apart (HR10.out.no ((Mod.refl No w10).alloc _)).own (by decide)))
     clear hown11 hg11)
   |(at_builtin;refine app_sl _ rfl _ _ 26 rfl B 29 i1 _ 1 24 underlying26 hj0 hj1 hj2 hj3 rfl (by decide) (.slice aa st.length ac) as'.length (as'.map ArX.v) rfl (own_keepM HA11.out.own ((Mod.refl No w11).alloc _) (fun _ _ f=>f)) No 29 (.slice (some ⟨w11.heap.size,0,none⟩) 1 1) 1 [.slice aa2 L ac2] rfl (.inr ⟨w11.heap.size,0,1,_,(0,0),rfl,Nat.le_refl _,by unfold maxLen;omega,fun f=>f,heap_alloc_new w11 _,by simp,fun i hi=>by simp⟩) rfl (fun u hu=>by rw [List.mem_singleton.1 hu];rfl) (by unfold maxLen;have h1:=HAL.out;omega) (by have h1:=HAL.out;omega) (Nat.le_trans HBw.out (Nat.le_trans HM11.out.size ((Mod.refl No w11).alloc _).size)) ?_
     intro v8 w12 hown12 hg12 _
     have HM12:=zh ((((Mod.refl No w11).alloc (.cells #[.slice aa2 L ac2] 29)).weaken (fun _ _ f=>f.elim)).trans (Mod.of_grown (S:=fun q=>B<=q) hg12 (fun k e _=>own_base HA11.out.own e)))
     have HR12:=zh (RowsM.beside (HR11.out.no ((Mod.refl No w11).alloc _)) (HA11.out.no ((Mod.refl No w11).alloc _)) (Mod.of_grown hg12 (fun k e _=>e)))
     have HA12:=zh (ArcsM.push (x:=⟨P,.slice aa2 L ac2⟩) (HA11.out.no ((Mod.refl No w11).alloc _)) hg12 hown12 (by show Sl _ _ _ _ P.length _;rw [<- HL.out];exact HSA11.out.kn ((Mod.refl No w11).alloc _)))
     clear hown12 hg12))
  refine Met.intro (HJ.out _ _ ⟨v7,v8,xs++[Y],as'++[⟨P,.slice aa2 L ac2⟩],⟨rfl,rfl,rfl,rfl,rfl,rfl,rfl,rfl,rfl,rfl,rfl,rfl,rfl,rfl,trivial⟩,HR12.out,HA12.out,?_,?_,((HW10.out.weaken (fun _ _ f=>f.elim)).trans HM11.out).trans HM12.out⟩)
  ·rw [HKS.out,List.map_append,List.map_append,HXS.out,List.map_singleton,List.map_singleton,HRYK.out]
  ·rw [HKS.out,List.map_append,List.map_append,HAS.out,List.map_singleton,List.map_singleton,<- HP.out]
end Go.Proofs.YtgiigemfbebcgaaGreatDoor
