/-
  Layers 0 to 14: helps of the laws of indexes. No statement is proved here; no condition.
-/
import Derived.Test.YtgiigemfbebcgaaGreatDoorT46
import Derived.Test.YtgiigemfbebcgaaGreatDoorT30
import Derived.Test.YtgiigemfbebcgaaGreatDoorT34
import Derived.Test.YtgiigemfbebcgaaGreatDoorT42
import Derived.Test.YtgiigemfbebcgaaGreatDoorT45
import Derived.Test.YtgiigemfbebcgaaGreatDoorT43
import Derived.Test.YtgiigemfbebcgaaGreatDoorT33
import Derived.Test.YtgiigemfbebcgaaGreatDoorT44
import Derived.SliceStrings
namespace Go.Proofs.YtgiigemfbebcgaaGreatDoor
open _root_.Go.Proofs.Tryz
open Go.ChangeShapes Go.WideShapes Go.ChangeAt Go.RowKit
set_option maxRecDepth 100000 in
theorem strs_open {H:Type} {enc:TypeId × Value->H} {w:World} {base:Nat} {held:Bool} {fuel:Nat} {cs:List Value} {x:DataW H × List MemPlace} (h:DataW.trod enc prog w base (fun _=>true) held fuel 38 cs=some x) :
  ∃ (v:Value) (l:List (List UInt8)),cs=[v]/\SvX w No v l.length (strs l):=by
 rcases open_strings underlying38 underlying9 (by kernel_rfl) h with ⟨hcs,_⟩ | ⟨a,len,cap,ss,hcs,_,hl,hm,hz,_,hcell,_⟩
 ·exact ⟨_,[],hcs,⟨⟨none,0,rfl⟩,.inl ⟨rfl,rfl⟩⟩⟩
 ·rw [if_pos rfl] at hz
  have hll:((ss.take len).map fun s=>s.data.toList).length=len:=by rw [List.length_map,List.length_take,hz];omega
  refine ⟨_,(ss.take len).map fun s=>s.data.toList,hcs,?_⟩
  rw [hll]
  refine ⟨⟨some a,cap,rfl⟩,?_⟩
  rcases Nat.eq_zero_or_pos len with h0 | h0
  ·left;subst h0;exact ⟨rfl,rfl⟩
  ·right
   obtain ⟨b,o,sp⟩:=a
   have h1:=hcell 0 (by omega)
   have hsp:sp=none:=by simpa [Addr.add] using World.cell?_spot h1
   subst hsp
   refine sv_cells hl hm (by rw [strs_length,hll];exact h0) (fun i hi=>?_)
   have hi2:i < len:=by rw [strs_length,hll] at hi;exact hi
   have h2:=hcell i (by omega)
   rw [add_at9] at h2
   rw [h2]
   have hi3:i < ss.length:=by omega
   simp only [strs,strV,List.getElem_map,List.getElem_take,List.getD_eq_getElem?_getD,List.getElem?_eq_getElem hi3,Option.getD_some]
def VerIn (w:World) (y:Ver) (pv:Value):Prop:=SvX w No pv y.pre.length (strs y.pre)
theorem cells_agg {v a b c d:Value} (h:v.cells.toList=[a,b,c,d]):v=.agg #[a,b,c,d]:=by
 cases v <;> simp [Value.cells] at h
 next xs=>rw [<- h]
set_option maxRecDepth 100000 in
theorem ver_open {H:Type} {enc:TypeId × Value->H} {w:World} {base:Nat} {held:Bool} {n:Nat} {v:Value} {x:DataW H × List MemPlace} (h:DataW.trod enc prog w base (fun _=>true) held n 40 v.cells.toList=some x) :
  ∃ (y:Ver) (pv:Value),v=verV y pv/\VerIn w y pv:=by
 obtain ⟨xs,m,_,rfl,hlen,hxl,hf⟩:=DataW.trod_struct underlying40 h
 have hx:xs.length=4:=hxl
 have hc:v.cells.toList.length=4:=hlen.trans (by kernel_rfl)
 generalize hcs:v.cells.toList=cs at *
 match cs,hc with
 | [c0,c1,c2,c3],_ =>
  have e5:prog.cellsOf 3=1:=by kernel_rfl
  have e7:prog.cellsOf 38=1:=by kernel_rfl
  have g0:DataW.trod enc prog w base (fun _=>true) held m 3 (([c0,c1,c2,c3].drop 0).take (prog.cellsOf 3))=xs[0]?:=hf 0 _ rfl
  rw [e5,List.getElem?_eq_getElem (by omega)] at g0
  have g1:DataW.trod enc prog w base (fun _=>true) held m 3 (([c0,c1,c2,c3].drop 1).take (prog.cellsOf 3))=xs[1]?:=hf 1 _ rfl
  rw [e5,List.getElem?_eq_getElem (by omega)] at g1
  have g2:DataW.trod enc prog w base (fun _=>true) held m 3 (([c0,c1,c2,c3].drop 2).take (prog.cellsOf 3))=xs[2]?:=hf 2 _ rfl
  rw [e5,List.getElem?_eq_getElem (by omega)] at g2
  have g3:DataW.trod enc prog w base (fun _=>true) held m 38 (([c0,c1,c2,c3].drop 3).take (prog.cellsOf 38))=xs[3]?:=hf 3 _ rfl
  rw [e7,List.getElem?_eq_getElem (by omega)] at g3
  obtain ⟨n0,z0,_,w0⟩:=DataW.trod_int underlying3 g0
  obtain ⟨n1,z1,_,w1⟩:=DataW.trod_int underlying3 g1
  obtain ⟨n2,z2,_,w2⟩:=DataW.trod_int underlying3 g2
  simp only [List.drop_zero,List.drop_succ_cons,List.take_succ_cons,List.take_zero,List.cons.injEq,and_true] at z0 z1 z2 g3
  subst z0 z1 z2
  obtain ⟨pv,l,hcs3,hl⟩:=strs_open g3
  simp only [List.cons.injEq,and_true] at hcs3
  subst hcs3
  exact ⟨⟨n0,n1,n2,l⟩,_,cells_agg hcs,hl⟩
def FoundB (l:List Rw) (name:List UInt8) (v:Ver) (r:Rw) (b:Bool):Prop:=match atL l name v with
 | none=>r=zeroRw/\b=false
 | some k=>l[k]? = some r/\b=true
theorem FoundB.one {l:List Rw} {name:List UInt8} {v:Ver} {r r':Rw} {b b':Bool} (h:FoundB l name v r b) (h':FoundB l name v r' b'):r'=r/\b'=b:=by
 unfold FoundB at h h'
 split at h
 ·next e=>rw [e] at h';exact ⟨h'.1.trans h.1.symm,h'.2.trans h.2.symm⟩
 ·next k e=>rw [e] at h';exact ⟨Option.some.inj (h'.1.symm.trans h.1),h'.2.trans h.2.symm⟩
theorem zero_row (w:World):RwAt w ⟨zeroRw,.slice none 0 0,.slice none 0 0⟩ :=
 ⟨⟨rfl,⟨by decide,fun x hx=>by cases hx⟩,.inl ⟨rfl,rfl,rfl⟩,⟨none,0,0,rfl⟩⟩,⟨[],rfl,(fun x hx=>by cases hx),.inl ⟨rfl,rfl,rfl⟩⟩,by decide⟩
theorem found_res {w:World} {l:List Rw} {name:List UInt8} {v:Ver} {e:Ending} (h:FindRes w l name v e):∃ (x:RwX) (b:Bool),e=.returned (.tuple #[.agg (RwX.cells x).toArray,.bool b])/\RwAt w x/\FoundB l name v x.r b:=by
 unfold FindRes at h
 unfold FoundB
 split at h
 ·next e =>
  obtain ⟨⟨r,p,n⟩,h1,h2,h3,h4⟩:=h
  dsimp only at h1 h2 h3
  subst h1 h2 h3
  exact ⟨_,false,h4,zero_row w,by rw [e];exact ⟨rfl,rfl⟩⟩
 ·next k e =>
  obtain ⟨x,h1,h2,h3⟩:=h
  exact ⟨x,true,h3,h2,by rw [e];exact ⟨h1,rfl⟩⟩
theorem found_ref {w:World} {xs:List RwX} {name:List UInt8} {v:Ver} {e:Ending} (h:FindR xs name v e) (hx:∀ x ∈ xs,RwAt w x):∃ (x:RwX) (b:Bool),e=.returned (.tuple #[.agg (RwX.cells x).toArray,.bool b])/\RwAt w x/\FoundB (xs.map RwX.r) name v x.r b:=by
 unfold FindR at h
 unfold FoundB
 split at h
 ·next e=>exact ⟨_,false,h,zero_row w,by rw [e];exact ⟨rfl,rfl⟩⟩
 ·next k e =>
  obtain ⟨x,h1,h3⟩:=h
  exact ⟨x,true,h3,hx x (List.mem_of_getElem? h1),by rw [e];exact ⟨by rw [List.getElem?_map,h1];rfl,rfl⟩⟩
end Go.Proofs.YtgiigemfbebcgaaGreatDoor
namespace Go.Proofs.YtgiigemfbebcgaaGreatDoor
open _root_.Go.Proofs.Tryz
open Go.RowKit Go.Sort
theorem findsv_form (xs:List RwX) (hx:xs.length<=1000000) (name:List UInt8) (v:Ver) (pv:Value) (rv:Value) (w:World) (hok:∀ x ∈ xs,RwAt w x) (hv:Small v) (hpv:SvX w No pv v.pre.length (strs v.pre))
  (hrv:Sl w No 46 rv xs.length (xs.flatMap RwX.cells)) :
  Calls prog 15 #[rv,strV name,verV v pv] w fun e w'=>(∃ (x:RwX) (b:Bool) (ds:List Value),e=.returned (.tuple #[.agg ds.toArray,.bool b])/\ds=RwX.cells x/\ds.length=39/\ds.toArray.all (·.oneCell')=true/\RwAt w' x/\FoundB (xs.map RwX.r) name v x.r b)/\Mod No w w' :=
 (find_sv xs hx name v pv rv w hok hv hpv hrv).mono fun _ _ ⟨h,hm⟩=>⟨by obtain ⟨x,b,h1,h2,h3⟩:=found_res h;exact ⟨x,b,_,h1,rfl,RwX.cells_length x h2.ok.sum,rows_one h2.ok,h2,h3⟩,hm⟩
theorem reffindsv_form (xs:List RwX) (hx:xs.length<=1000000) (name:List UInt8) (v:Ver) (pv:Value) (rv:Value) (w:World) (hok:∀ x ∈ xs,RwAt w x) (hv:Small v) (hpv:SvX w No pv v.pre.length (strs v.pre))
  (hrv:Sl w No 46 rv xs.length (xs.flatMap RwX.cells)) :
  Calls prog 16 #[rv,strV name,verV v pv] w fun e w'=>(∃ (x:RwX) (b:Bool) (ds:List Value),e=.returned (.tuple #[.agg ds.toArray,.bool b])/\ds=RwX.cells x/\ds.length=39/\ds.toArray.all (·.oneCell')=true/\RwAt w' x/\FoundB (xs.map RwX.r) name v x.r b)/\Mod No w w' :=
 (reffind_sv xs hx name v pv rv w (fun x h=>(hok x h).ok) hv hpv hrv).mono fun _ _ ⟨h,hm⟩=>⟨by obtain ⟨x,b,h1,h2,h3⟩:=found_ref h fun x hx=>(hok x hx).keep hm (Apart.no _ _);exact ⟨x,b,_,h1,rfl,RwX.cells_length x h2.ok.sum,rows_one h2.ok,h2,h3⟩,hm⟩
theorem strz (s:ByteArray):(⟨s.data.toList.toArray⟩:ByteArray)=s:=by
 apply ByteArray.ext;simp
theorem wpList_want {P:Program} {ops:Array Oper} {rest:List Oper} {o:Oper} {a:Act} {w:World} {Q:Exit->Act->World->Prop} (hw:Region.wanted o (yielded ops a.tmps)=true) (h:o.wp P a w (wpList P ops Q rest) Q):wpList P ops Q (o :: rest) a w:=by
 unfold wpList
 rw [if_pos hw]
 exact .inl h
theorem row_same (x y:RwX) (h:y.r=x.r) (W:World) (h1:RwAt W x) (h2:RwAt W y) (cs ds:List Value) (e1:cs=RwX.cells x) (e2:ds=RwX.cells y) :
  Calls prog 17 #[.agg cs.toArray,.agg ds.toArray] W fun e w'=>e=.returned (.bool true)/\Mod No W w':=by
 subst e1 e2
 obtain ⟨r,p,n⟩:=x
 obtain ⟨r',p',n'⟩:=y
 dsimp only at h
 subst h
 exact row_eq _ _ _ _ _ W h1 h2
set_option maxRecDepth 100000 in
set_option maxHeartbeats 16000000 in
theorem ask_any (xs:List SrX) (v:Value) (nm:List UInt8) (y:Ver) (pv:Value) (w:World) (hgl:Gl w) (hv:SvX w No v xs.length (xs.flatMap SrX.cells)) (hx:∀ x ∈ xs,SrIn w x) (hpv:VerIn w y pv) :
  Calls prog 4 #[v,strV nm,verV y pv] w fun e w'=>e=.returned (.bool true)/\Mod No w w':=by
 refine calls_hide fun R hR=>?_
 obtain ⟨va,vc,rfl⟩:=hv.len
 have HV:=zh hv
 have HX:=zh hx
 have HG:=zh hgl
 have HPV:=zh (show SvX w No pv y.pre.length (strs y.pre) from hpv)
 have HKN:=zh (fun (W:World) (hm:Mod No w W)=>known_any W (by obtain ⟨m,hm0⟩:=hgl;exact ⟨m,hm.cell hm0 (fun f=>f)⟩))
 obtain ⟨nx,hnx⟩:∃ n,n=xs.length:=⟨_,rfl⟩
 rw [<- hnx]
 have HLT:=zh (fun (W:World) (hm:Mod No w W)=>show Calls prog 8 #[.slice va nx vc,.int .i64 20] W fun e w'=>(∃ b,e=.returned (.bool b)/\(b=true ↔ xs.length<=20/\∀ x ∈ xs,x.r.needs.length<=4))/\Mod No W w' from by
  rw [hnx]
  exact light_any xs (fun x hx=>by obtain ⟨a,c,e⟩:=(HX.out x hx).needs.len;exact ⟨a,c,e⟩) _ 20 W (HV.out.kn hm))
 have HMD0:=zh (fun (W:World) (hm:Mod No w W) (h8:xs.length<=20) (h4:∀ x ∈ xs,x.r.needs.length<=4)=>show Calls prog 9 #[.slice va nx vc] W fun e w'=>(∃ rv av ys as' ZT,e=.returned (.tuple #[rv,av,.string ZT])/\MadeR W.heap.size w' (xs.map SrX.r) rv av ys as')/\Mod No W w' from by
  rw [hnx]
  exact (made_any xs h8 _ W (fun x hx=>⟨((HX.out x hx).no hm).needs,by have:=h4 x hx;omega,(HX.out x hx).small⟩) h4 (HV.out.kn hm)).mono fun e w' ⟨⟨rv,av,ys,as',h1,h2⟩,h3⟩=>⟨⟨rv,av,ys,as',_,h1,h2⟩,h3⟩)
 have HLV:=zh (fun (W:World) (hm:Mod No w W)=>lightv_any y pv W (HPV.out.kn hm))
 have HZX:=zh (str_len3 nm)
 unfold strV
 generalize hZN:(⟨nm.toArray⟩:ByteArray)=ZN at *
 have HZN:=zh hZN
 obtain ⟨pa,pc,hpe⟩:=hpv.len
 obtain ⟨ya,yb,yc,yp⟩:=y
 dsimp only at *
 subst hpe
 obtain ⟨np,hnp⟩:∃ n,n=yp.length:=⟨_,rfl⟩
 have HNP:=zh hnp
 have HPO:=zh (show SvX w No (.slice pa yp.length pc) yp.length (strs yp) from HPV.out)
 rw [<- hnp] at HPV ⊢
 have HLV:=zh (show ∀ (W:World) (hm:Mod No w W),Calls prog 14 #[.agg #[.int .i64 ya,.int .i64 yb,.int .i64 yc,.slice pa np pc]] W fun e w'=>(∃ b,e=.returned (.bool b)/\(b=true ↔ yp.length<=6/\∀ p ∈ yp,p.length<=30))/\Mod No W w' from by rw [hnp];exact HLV.out)
 clear hgl hv hx hnx hpv hZN hnp
 go_enter func4,ntmps4
 go_upto_region 1 with fail
 obtain ⟨gb,hgb⟩:∃ g,g=w.heap.size:=⟨_,rfl⟩
 rw [<- hgb]
 generalize hw1:World.alloc w (.cells #[.int .i64 ya,.int .i64 yb,.int .i64 yc,.slice pa np pc] 40)=w1
 have hv1:w1.heap[gb]? = some (.cells #[.int .i64 ya,.int .i64 yb,.int .i64 yc,.slice pa np pc] 40 (0,0)):=by rw [<- hw1,hgb];exact heap_alloc_new w _
 have HV1:=zh hv1
 have HM1:=zh (show Mod No w w1 by rw [<- hw1];exact (Mod.refl No w).alloc _)
 clear hgb hw1 hv1
 go_wp2_with fail
 with_reducible refine (HKN.out w1 HM1.out).mono ?_
 rintro e w2 ⟨rfl,hm2⟩
 have HM2:=zh (HM1.out.trans hm2)
 have HVB2:=zh (hm2.keep HV1.out (fun f=>f))
 clear hm2 HKN HV1
 go_wp2_with fail
 with_reducible refine (HLT.out w2 HM2.out).mono ?_
 rintro e w3 ⟨⟨b,rfl,hb⟩,hm3⟩
 have HM3:=zh (HM2.out.trans hm3)
 have HVB3:=zh (hm3.keep HVB2.out (fun f=>f))
 have HB:=zh hb
 clear hm3 hb HLT HVB2
 rcases b with _ | _
 ·go_wp2_with fail
  exact fin hR ⟨rfl,HM3.out⟩
 ·by_cases h40:40 < nm.length
  ·have hq:(40:Int) < (ZN.size:Int):=by have:=HZX.out;omega
   go_wp2_with fail
   exact fin hR ⟨rfl,HM3.out⟩
  ·have hq:¬ ((40:Int) < (ZN.size:Int)):=by have:=HZX.out;omega
   have c0:=cell_ofA HVB3.out (i:=0) (v:=.int .i64 ya) rfl
   have c1:=cell_ofA HVB3.out (i:=1) (v:=.int .i64 yb) rfl
   have c2:=cell_ofA HVB3.out (i:=2) (v:=.int .i64 yc) rfl
   have c3:=cell_ofA HVB3.out (i:=3) (v:=.slice pa np pc) rfl
   go_wp2_with fail
   with_reducible refine (HLV.out w3 HM3.out).mono ?_
   rintro e w4 ⟨⟨bv,rfl,hbv⟩,hm4⟩
   have HM4:=zh (HM3.out.trans hm4)
   have HVB4:=zh (hm4.keep HVB3.out (fun f=>f))
   have HBV:=zh hbv
   clear hm4 hbv HLV HVB3 c0 c1 c2 c3
   rcases bv with _ | _
   ·go_wp2_with fail
    exact fin hR ⟨rfl,HM4.out⟩
   ·obtain ⟨h20,h4⟩:=HB.out.1 (by trivial)
    obtain ⟨h6,h30⟩:=HBV.out.1 (by trivial)
    have HSM:=zh (show Small ⟨ya,yb,yc,yp⟩ from ⟨by show yp.length<=_;omega,fun x hx=>by have:=h30 x hx;omega⟩)
    have hl4:∀ r ∈ xs.map SrX.r,r.needs.length<=4:=fun r hr=>by
     obtain ⟨x,hx,rfl⟩:=List.mem_map.1 hr
     exact h4 x hx
    have HMDW:=zh (HMD0.out w4 HM4.out h20 h4)
    obtain ⟨hg1,hg2,hg3⟩:=kept_good (xs.map SrX.r) hl4
    have hrl:((keptK [] (xs.map SrX.r)).map rowK).length<=20:=by
     have e1:(xs.map SrX.r).length=xs.length:=List.length_map ..
     omega
    clear h20 h4 h6 h30 HMD0 HB HBV hg1 hg2 hg3 hl4 HV HX
    go_wp2_with fail
    with_reducible refine HMDW.out.mono ?_
    rintro e w5 ⟨⟨rv,av,ys,as',ZT,rfl,hmade⟩,hm5⟩
    have HM5:=zh (HM4.out.trans hm5)
    have HVB5:=zh (hm5.keep HVB4.out (fun f=>f))
    have htold:=hmade.told
    rw [<- htold,List.length_map] at hrl
    have HYS:=zh (show ∀ y ∈ ys,RwAt w5 y from hmade.rows.each)
    have HYL:=zh (show Sl w5 No 46 rv ys.length (ys.flatMap RwX.cells) from Sl.of_own hmade.rows.own (fun _ _ f=>f))
    obtain ⟨ra,rc,hrv⟩:=HYL.out.len
    subst hrv
    obtain ⟨n,hn⟩:∃ n,n=ys.length:=⟨_,rfl⟩
    have HN:=zh hn
    rw [<- hn] at hrl ⊢
    have HF1:=zh (fun (W:World) (hW:Mod No w5 W)=>show Calls prog 15 #[.slice ra n rc,.string ZN,.agg #[.int .i64 ya,.int .i64 yb,.int .i64 yc,.slice pa np pc]] W fun e w'=>(∃ (x:RwX) (b:Bool) (ds:List Value),e=.returned (.tuple #[.agg ds.toArray,.bool b])/\ds=RwX.cells x/\ds.length=39/\ds.toArray.all (·.oneCell')=true/\RwAt w' x/\FoundB (ys.map RwX.r) nm ⟨ya,yb,yc,yp⟩ x.r b)/\Mod No W w' from by
     have h:=findsv_form ys (by omega) nm ⟨ya,yb,yc,yp⟩ (.slice pa yp.length pc) (.slice ra ys.length rc) W (fun y hy=>(HYS.out y hy).keep hW (Apart.no _ _)) HSM.out (HPO.out.kn (HM5.out.trans hW)) (HYL.out.kn hW)
     unfold strV at h
     rw [HZN.out,<- HNP.out,<- HN.out] at h
     exact h)
    have HF2:=zh (fun (W:World) (hW:Mod No w5 W)=>show Calls prog 16 #[.slice ra n rc,.string ZN,.agg #[.int .i64 ya,.int .i64 yb,.int .i64 yc,.slice pa np pc]] W fun e w'=>(∃ (x:RwX) (b:Bool) (ds:List Value),e=.returned (.tuple #[.agg ds.toArray,.bool b])/\ds=RwX.cells x/\ds.length=39/\ds.toArray.all (·.oneCell')=true/\RwAt w' x/\FoundB (ys.map RwX.r) nm ⟨ya,yb,yc,yp⟩ x.r b)/\Mod No W w' from by
     have h:=reffindsv_form ys (by omega) nm ⟨ya,yb,yc,yp⟩ (.slice pa yp.length pc) (.slice ra ys.length rc) W (fun y hy=>(HYS.out y hy).keep hW (Apart.no _ _)) HSM.out (HPO.out.kn (HM5.out.trans hW)) (HYL.out.kn hW)
     unfold strV at h
     rw [HZN.out,<- HNP.out,<- HN.out] at h
     exact h)
    have HRE:=zh row_same
    clear hm5 HMDW hmade htold hn HVB4
    go_wp2_with (refine wpList_load_row rfl 40 _ rfl gb rfl 40 #[.int .i64 ya,.int .i64 yb,.int .i64 yc,.slice pa np pc] (0,0) _ HVB5.out underlying40 rfl ver_info ?_)
    with_reducible refine (HF1.out w5 (Mod.refl _ _)).mono ?_
    rintro e w6 ⟨⟨x1,b1,ds,rfl,hd0,hd1,hd2,hx1,hfb⟩,hm6⟩
    have HM6:=zh hm6
    have HD0:=zh hd0
    have HD1:=zh hd1
    have HD2:=zh hd2
    have HX1:=zh hx1
    have HFB:=zh hfb
    clear hm6 hd0 hd1 hd2 hx1 hfb HF1
    go_upto_region 7 with (refine wpList_store_row rfl 46 _ _ rfl w6.heap.size ds.toArray rfl rfl 46 _ (heap_alloc_new w6 _) (by rw [List.size_toArray,HD1.out];exact row_info) (by show _=ds.length;rw [HD1.out];rfl) HD2.out ?_)
    obtain ⟨gt,hgt⟩:∃ g,g=w6.heap.size:=⟨_,rfl⟩
    rw [<- hgt]
    generalize hw7:World.setRow _ gt ds.toArray=w7
    have HM7:=zh (show Mod No w5 w7 by rw [<- hw7,hgt];exact HM6.out.trans (((Mod.refl No w6).alloc _).setRow (fun h=>absurd h (by omega)) _))
    have hgb:w7.heap[gt]? = some (.cells ds.toArray 46 (0,0)):=by rw [<- hw7,hgt];exact setRow_heap _ _ _ _ _ _ (heap_alloc_new w6 _)
    have HGB:=zh hgb
    have HX17:=zh (show RwAt w7 x1 by rw [<- hw7,hgt];exact HX1.out.keep (S:=No) (((Mod.refl No w6).alloc _).setRow (fun h=>absurd h (by omega)) _) (Apart.no _ _))
    have HVB7:=zh (HM7.out.keep HVB5.out (fun f=>f))
    clear hw7 hgt hgb HM6 HD2 HX1
    go_wp2_with (refine wpList_load_row rfl 40 _ rfl gb rfl 40 #[.int .i64 ya,.int .i64 yb,.int .i64 yc,.slice pa np pc] (0,0) _ HVB7.out underlying40 rfl ver_info ?_)
    with_reducible refine (HF2.out w7 HM7.out).mono ?_
    rintro e w8 ⟨⟨x2,b2,es,rfl,hd0,hd1,hd2,hx2,hfb⟩,hm8⟩
    obtain ⟨hrr,rfl⟩:=HFB.out.one hfb
    have HRR:=zh hrr
    have HM8:=zh hm8
    have HE0:=zh hd0
    have HE1:=zh hd1
    have HE2:=zh hd2
    have HX2:=zh hx2
    clear hm8 hd0 hd1 hd2 hx2 hfb HF2 HFB hrr
    go_upto_region 8 with (refine wpList_store_row rfl 46 _ _ rfl w8.heap.size es.toArray rfl rfl 46 _ (heap_alloc_new w8 _) (by rw [List.size_toArray,HE1.out];exact row_info) (by show _=es.length;rw [HE1.out];rfl) HE2.out ?_)
    obtain ⟨gu,hgu⟩:∃ g,g=w8.heap.size:=⟨_,rfl⟩
    rw [<- hgu]
    generalize hw9:World.setRow _ gu es.toArray=w9
    have HM79:=zh (show Mod No w7 w9 by rw [<- hw9,hgu];exact HM8.out.trans (((Mod.refl No w8).alloc _).setRow (fun h=>absurd h (by omega)) _))
    have hgb:w9.heap[gu]? = some (.cells es.toArray 46 (0,0)):=by rw [<- hw9,hgu];exact setRow_heap _ _ _ _ _ _ (heap_alloc_new w8 _)
    have HGU:=zh hgb
    have HX29:=zh (show RwAt w9 x2 by rw [<- hw9,hgu];exact HX2.out.keep (S:=No) (((Mod.refl No w8).alloc _).setRow (fun h=>absurd h (by omega)) _) (Apart.no _ _))
    have HGT:=zh (HM79.out.keep HGB.out (fun f=>f))
    have HX19:=zh (HX17.out.keep (S:=No) HM79.out (Apart.no _ _))
    have HM9:=zh (HM7.out.trans HM79.out)
    clear hw9 hgu hgb HM8 HE2 HX2 HX17 HGB HM79 HM7
    go_wp2_with (first | (refine wpList_want (by go_simp) ?_;refine wp_load_row 46 _ rfl gt rfl 46 ds.toArray (0,0) _ HGT.out underlying46 rfl (by rw [List.size_toArray,HD1.out];exact row_info) ?_) | (refine wpList_want (by go_simp) ?_;refine wp_load_row 46 _ rfl gu rfl 46 es.toArray (0,0) _ HGU.out underlying46 rfl (by rw [List.size_toArray,HE1.out];exact row_info) ?_))
    with_reducible refine (HRE.out _ _ HRR.out _ HX19.out HX29.out _ _ HD0.out HE0.out).mono ?_
    rintro e w10 ⟨rfl,hm10⟩
    have HM10:=zh (HM9.out.trans hm10)
    have HNF:=zh (fun (W:World) (hW:Mod No w5 W)=>show Calls prog 19 #[.slice ra n rc] W fun e w'=>(∃ (v':Value) (out:List (List UInt8)),e=.returned v'/\Sl w' No 9 v' out.length (strs out)/\Asc out/\(∀ y,y ∈ out ↔ y ∈ ys.map (fun x=>x.r.name)))/\Mod No W w' from by
     have h:=names_any ys (by have:=HN.out;omega) (.slice ra ys.length rc) W (fun y hy=>(HYS.out y hy).keep hW (Apart.no _ _)) (HYL.out.kn hW)
     rw [<- HN.out] at h
     exact h.mono fun e w' ⟨v,out,h1,h2,h3,h4,h5⟩=>⟨⟨v,out,h1,h2,h3,h4⟩,h5⟩)
    have HNG:=zh (fun (W:World) (hW:Mod No w5 W)=>show Calls prog 20 #[.slice ra n rc] W fun e w'=>(∃ (v':Value) (out:List (List UInt8)),e=.returned v'/\Sl w' No 9 v' out.length (strs out)/\Asc out/\(∀ y,y ∈ out ↔ y ∈ ys.map (fun x=>x.r.name)))/\Mod No W w' from by
     have h:=refnames_any ys (by have:=HN.out;omega) (.slice ra ys.length rc) W (fun y hy=>RwX.cells_length y (HYS.out y hy).ok.sum) (HYL.out.kn hW)
     rw [<- HN.out] at h
     exact h.mono fun e w' ⟨v,out,h1,h2,h3,h4,h5⟩=>⟨⟨v,out,h1,Sl.of_own h2 (fun _ _ f=>f),h3,h4⟩,h5⟩)
    have HSE:=zh strings_eq
    clear hm10 HRE HRR HX19 HX29 HD0 HD1 HE0 HE1 HGT HGU HM9 HVB7
    go_wp2_with fail
    first | with_reducible refine (HNF.out w10 HM10.out).mono ?_ | with_reducible refine (HNG.out w10 HM10.out).mono ?_
    rintro e w11 ⟨⟨va1,out1,rfl,hs1,ha1,hy1⟩,hm11⟩
    have HS1:=zh hs1
    have HA1:=zh (And.intro ha1 hy1)
    have HM11:=zh (HM10.out.trans hm11)
    clear hs1 ha1 hy1 hm11
    go_wp2_with fail
    first | with_reducible refine (HNG.out w11 HM11.out).mono ?_ | with_reducible refine (HNF.out w11 HM11.out).mono ?_
    rintro e w12 ⟨⟨va2,out2,rfl,hs2,ha2,hy2⟩,hm12⟩
    obtain rfl:out1=out2:=asc_unique _ _ HA1.out.1 ha2 (fun y=>(HA1.out.2 y).trans (hy2 y).symm)
    have HSE2:=zh (HSE.out _ _ _ w12 (HS1.out.kn hm12) hs2)
    have HM12:=zh (HM11.out.trans hm12)
    clear hs2 ha2 hy2 hm12 HS1 HA1 HSE HNF HNG
    go_wp2_with fail
    with_reducible refine HSE2.out.mono ?_
    rintro e w13 ⟨rfl,hm13⟩
    have HM13:=zh (HM12.out.trans hm13)
    clear hm13 HSE2
    have HFF:=zh (fun (Z:ByteArray) (k:Nat) (pa:Option Addr) (pc:Nat) (W:World) (hW:Mod No w5 W) (hs:Small (verK k)) (hp:Sl W No 9 (.slice pa (verK k).pre.length pc) (verK k).pre.length (strs (verK k).pre))=>show Calls prog 15 #[.slice ra n rc,.string Z,verV (verK k) (.slice pa (verK k).pre.length pc)] W fun e w'=>(∃ (x:RwX) (b:Bool) (ds:List Value),e=.returned (.tuple #[.agg ds.toArray,.bool b])/\ds=RwX.cells x/\ds.length=39/\ds.toArray.all (·.oneCell')=true/\RwAt w' x/\FoundB (ys.map RwX.r) Z.data.toList (verK k) x.r b)/\Mod No W w' from by
     have h:=findsv_form ys (by have:=HN.out;omega) Z.data.toList (verK k) (.slice pa (verK k).pre.length pc) (.slice ra ys.length rc) W (fun y hy=>(HYS.out y hy).keep hW (Apart.no _ _)) hs (.of hp) (HYL.out.kn hW)
     unfold strV at h
     rw [strz,<- HN.out] at h
     exact h)
    have HFG:=zh (fun (Z:ByteArray) (k:Nat) (pa:Option Addr) (pc:Nat) (W:World) (hW:Mod No w5 W) (hs:Small (verK k)) (hp:Sl W No 9 (.slice pa (verK k).pre.length pc) (verK k).pre.length (strs (verK k).pre))=>show Calls prog 16 #[.slice ra n rc,.string Z,verV (verK k) (.slice pa (verK k).pre.length pc)] W fun e w'=>(∃ (x:RwX) (b:Bool) (ds:List Value),e=.returned (.tuple #[.agg ds.toArray,.bool b])/\ds=RwX.cells x/\ds.length=39/\ds.toArray.all (·.oneCell')=true/\RwAt w' x/\FoundB (ys.map RwX.r) Z.data.toList (verK k) x.r b)/\Mod No W w' from by
     have h:=reffindsv_form ys (by have:=HN.out;omega) Z.data.toList (verK k) (.slice pa (verK k).pre.length pc) (.slice ra ys.length rc) W (fun y hy=>(HYS.out y hy).keep hW (Apart.no _ _)) hs (.of hp) (HYL.out.kn hW)
     unfold strV at h
     rw [strz,<- HN.out] at h
     exact h)
    have HV1:=zh (fun (Z:ByteArray) (W:World) (hW:Mod No w5 W)=>show Calls prog 22 #[.slice ra n rc,.string Z] W fun e w'=>(∃ v',e=.returned v'/\VrsAt w' v' (sortR ltVx (versOf Z.data.toList ys)))/\Mod No W w' from by
     have h:=versions_any ys (by have:=HN.out;omega) Z.data.toList (.slice ra ys.length rc) W (fun y hy=>(HYS.out y hy).keep hW (Apart.no _ _)) (HYL.out.kn hW)
     unfold strV at h
     rw [strz,<- HN.out] at h
     exact h.mono fun e w' ⟨v,h1,h2,h3⟩=>⟨⟨v,h1,h2⟩,h3⟩)
    have HV2:=zh (fun (Z:ByteArray) (W:World) (hW:Mod No w5 W)=>show Calls prog 23 #[.slice ra n rc,.string Z] W fun e w'=>(∃ v',e=.returned v'/\VrsAt w' v' (sortR ltVx (versOf Z.data.toList ys)))/\Mod No W w' from by
     have h:=refversions_any ys (by have:=HN.out;omega) Z.data.toList (.slice ra ys.length rc) W (fun y hy=>((HYS.out y hy).keep hW (Apart.no _ _)).ok) (HYL.out.kn hW)
     unfold strV at h
     rw [strz,<- HN.out] at h
     exact h.mono fun e w' ⟨v,h1,h2,h3⟩=>⟨⟨v,h1,h2⟩,h3⟩)
    have HVE:=zh (fun (l:List VrX)=>versions_eq l l rfl)
    go_wp2_with fail
    go_loopw [14] (fun q wr=>∃ i:Nat,i<=7/\q=.int .i64 (i:Int)/\Mod No w5 wr) (fun q _=>7 - (intOf q).toNat)
    case atStart=>exact ⟨0,by omega,rfl,HM13.out⟩
    case round =>
     obtain ⟨i,hi,rfl,hm⟩:=hrel
     have HM:=zh hm
     have hi0:(0:Int)<=(i:Int):=Int.natCast_nonneg _
     clear hm
     by_cases hlt7:i < 7
     ·have hi1:(i:Int) < 7:=by omega
      go_wp2_with fail
      generalize ByteArray.extract ⟨#[97,98,99,100,101,102,103]⟩ i (i+1)=ZQ
      with_reducible refine (HV1.out ZQ wr HM.out).mono ?_
      rintro e w14 ⟨⟨v1,rfl,hv1⟩,hm14⟩
      have HM14:=zh (HM.out.trans hm14)
      have HVA:=zh hv1
      clear hv1 hm14
      go_wp2_with fail
      with_reducible refine (HV2.out ZQ w14 HM14.out).mono ?_
      rintro e w15 ⟨⟨v2,rfl,hv2⟩,hm15⟩
      have HVE2:=zh (HVE.out _ v1 v2 w15 (HVA.out.no hm15) hv2)
      have HM15:=zh (HM14.out.trans hm15)
      clear hv2 hm15 HVA HM14 HM
      go_wp2_with fail
      with_reducible refine HVE2.out.mono ?_
      rintro e w16 ⟨rfl,hm16⟩
      have HM16:=zh (HM15.out.trans hm16)
      clear hm16 HVE2 HM15
      go_wp2_with fail
      go_loopw [16] (fun q wr=>∃ k:Nat,k<=6/\q=.int .i64 (k:Int)/\Mod No w5 wr) (fun q _=>6 - (intOf q).toNat)
      case atStart=>exact ⟨0,by omega,rfl,HM16.out⟩
      case round =>
       obtain ⟨k,hk,rfl,hm⟩:=hrel
       have HM:=zh hm
       have hk0:(0:Int)<=(k:Int):=Int.natCast_nonneg _
       clear hm
       by_cases hlt6:k < 6
       ·have hk1:(k:Int) < 6:=by omega
        have hk2:(k:Int) % 256=(k:Int):=by omega
        go_wp2_with fail
        with_reducible refine (seatversion_any k wr).mono ?_
        rintro e w17 ⟨rfl,hm17⟩
        have HM17:=zh (HM.out.trans hm17)
        clear hm17 HM
        go_wp2_with fail
        with_reducible refine (verK_any k w17).mono ?_
        rintro e w18 ⟨⟨pk,rfl,hsk,hpk⟩,hm18⟩
        obtain ⟨ka,kc,hke⟩:=hpk.len
        subst hke
        have HM18:=zh (HM17.out.trans hm18)
        have HSK:=zh hsk
        have HPK:=zh hpk
        clear hm18 hsk hpk HM17
        go_upto_region 20 with fail
        obtain ⟨gv,hgv⟩:∃ g,g=w18.heap.size:=⟨_,rfl⟩
        rw [<- hgv]
        generalize hw19:World.alloc w18 (.cells #[.int .i64 (verK k).ma,.int .i64 (verK k).mi,.int .i64 (verK k).pa,.slice ka (verK k).pre.length kc] 40)=w19
        have HMz:=zh (show Mod No w18 w19 by rw [<- hw19];exact (Mod.refl No w18).alloc _)
        have HGV:=zh (show w19.heap[gv]? = some (.cells #[.int .i64 (verK k).ma,.int .i64 (verK k).mi,.int .i64 (verK k).pa,.slice ka (verK k).pre.length kc] 40 (0,0)) by rw [<- hw19,hgv];exact heap_alloc_new w18 _)
        have HPZ:=zh (HPK.out.keep (S:=No) HMz.out (fun _ _ _ f=>f.elim))
        have HM19:=zh (HM18.out.trans HMz.out)
        clear hw19 hgv HM18 HPK HMz
        go_wp2_with (refine wpList_load_row rfl 40 _ rfl gv rfl 40 #[.int .i64 (verK k).ma,.int .i64 (verK k).mi,.int .i64 (verK k).pa,.slice ka (verK k).pre.length kc] (0,0) _ HGV.out underlying40 rfl ver_info ?_)
        with_reducible refine (HFF.out ZQ k ka kc w19 HM19.out HSK.out HPZ.out).mono ?_
        rintro e w20 ⟨⟨x3,b3,fs,rfl,hd0,hd1,hd2,hx3,hfb⟩,hm20⟩
        have HM20:=zh hm20
        have HD0:=zh hd0
        have HD1:=zh hd1
        have HD2:=zh hd2
        have HX3:=zh hx3
        have HFB:=zh hfb
        clear hm20 hd0 hd1 hd2 hx3 hfb
        go_upto_region 21 with (refine wpList_store_row rfl 46 _ _ rfl w20.heap.size fs.toArray rfl rfl 46 _ (heap_alloc_new w20 _) (by rw [List.size_toArray,HD1.out];exact row_info) (by show _=fs.length;rw [HD1.out];rfl) HD2.out ?_)
        obtain ⟨gt,hgt⟩:∃ g,g=w20.heap.size:=⟨_,rfl⟩
        rw [<- hgt]
        generalize hw21:World.setRow _ gt fs.toArray=w21
        have HM1921:=zh (show Mod No w19 w21 by rw [<- hw21,hgt];exact HM20.out.trans (((Mod.refl No w20).alloc _).setRow (fun h=>absurd h (by omega)) _))
        have hgb:w21.heap[gt]? = some (.cells fs.toArray 46 (0,0)):=by rw [<- hw21,hgt];exact setRow_heap _ _ _ _ _ _ (heap_alloc_new w20 _)
        have HGB:=zh hgb
        have HX31:=zh (show RwAt w21 x3 by rw [<- hw21,hgt];exact HX3.out.keep (S:=No) (((Mod.refl No w20).alloc _).setRow (fun h=>absurd h (by omega)) _) (Apart.no _ _))
        have HGV21:=zh (HM1921.out.keep HGV.out (fun f=>f))
        have HPY:=zh (HPZ.out.keep (S:=No) HM1921.out (fun _ _ _ f=>f.elim))
        have HM21:=zh (HM19.out.trans HM1921.out)
        clear hw21 hgt hgb HM20 HD2 HX3 HGV HPZ HM19 HM1921
        go_wp2_with (refine wpList_load_row rfl 40 _ rfl gv rfl 40 #[.int .i64 (verK k).ma,.int .i64 (verK k).mi,.int .i64 (verK k).pa,.slice ka (verK k).pre.length kc] (0,0) _ HGV21.out underlying40 rfl ver_info ?_)
        with_reducible refine (HFG.out ZQ k ka kc w21 HM21.out HSK.out HPY.out).mono ?_
        rintro e w22 ⟨⟨x4,b4,gs,rfl,hd0,hd1,hd2,hx4,hfb⟩,hm22⟩
        obtain ⟨hrr,rfl⟩:=HFB.out.one hfb
        have HRR:=zh hrr
        have HM22:=zh hm22
        have HE0:=zh hd0
        have HE1:=zh hd1
        have HE2:=zh hd2
        have HX4:=zh hx4
        clear hm22 hd0 hd1 hd2 hx4 hfb HFB hrr HPY HGV21
        go_upto_region 22 with (refine wpList_store_row rfl 46 _ _ rfl w22.heap.size gs.toArray rfl rfl 46 _ (heap_alloc_new w22 _) (by rw [List.size_toArray,HE1.out];exact row_info) (by show _=gs.length;rw [HE1.out];rfl) HE2.out ?_)
        obtain ⟨gu,hgu⟩:∃ g,g=w22.heap.size:=⟨_,rfl⟩
        rw [<- hgu]
        generalize hw23:World.setRow _ gu gs.toArray=w23
        have HM2123:=zh (show Mod No w21 w23 by rw [<- hw23,hgu];exact HM22.out.trans (((Mod.refl No w22).alloc _).setRow (fun h=>absurd h (by omega)) _))
        have hgb:w23.heap[gu]? = some (.cells gs.toArray 46 (0,0)):=by rw [<- hw23,hgu];exact setRow_heap _ _ _ _ _ _ (heap_alloc_new w22 _)
        have HGU:=zh hgb
        have HX43:=zh (show RwAt w23 x4 by rw [<- hw23,hgu];exact HX4.out.keep (S:=No) (((Mod.refl No w22).alloc _).setRow (fun h=>absurd h (by omega)) _) (Apart.no _ _))
        have HGT:=zh (HM2123.out.keep HGB.out (fun f=>f))
        have HX33:=zh (HX31.out.keep (S:=No) HM2123.out (Apart.no _ _))
        have HM23:=zh (HM21.out.trans HM2123.out)
        clear hw23 hgu hgb HM22 HE2 HX4 HX31 HGB HM2123 HM21
        have HRE:=zh row_same
        go_wp2_with (first | (refine wpList_want (by go_simp) ?_;refine wp_load_row 46 _ rfl gt rfl 46 fs.toArray (0,0) _ HGT.out underlying46 rfl (by rw [List.size_toArray,HD1.out];exact row_info) ?_) | (refine wpList_want (by go_simp) ?_;refine wp_load_row 46 _ rfl gu rfl 46 gs.toArray (0,0) _ HGU.out underlying46 rfl (by rw [List.size_toArray,HE1.out];exact row_info) ?_))
        with_reducible refine (HRE.out _ _ HRR.out _ HX33.out HX43.out _ _ HD0.out HE0.out).mono ?_
        rintro e w24 ⟨rfl,hm24⟩
        have HM24:=zh (HM23.out.trans hm24)
        clear hm24 HRE HRR HX33 HX43 HD0 HD1 HE0 HE1 HGT HGU HM23
        go_wp2_with fail
        exact ⟨⟨k+1,by omega,by simp,HM24.out⟩,by show 6 - ((k:Int)+1).toNat < 6 - (k:Int).toNat;omega⟩
       ·obtain rfl:k=6:=by omega
        go_wp2_with fail
        exact ⟨⟨i+1,by omega,by simp,HM.out⟩,by show 7 - ((i:Int)+1).toNat < 7 - (i:Int).toNat;omega⟩
     ·obtain rfl:i=7:=by omega
      have HMF:=zh (HM5.out.trans HM.out)
      go_wp2_with fail
      exact fin hR ⟨rfl,HMF.out⟩
theorem ask_walk {w:World} (a:Option Addr) (len cap:Nat) (xs:List SrX) (h:SrsIn w a len xs) (hc:len<=cap/\cap<=maxLen\/len=0) (nm:ByteArray) (_:nm.size<=maxLen) (y:Ver) (pv:Value) (hy:VerIn w y pv) (hgl:Gl w) :
  Calls prog 4 #[.slice a len cap,.string nm,verV y pv] w fun e w'=>e=.returned (.bool true)/\Mod No w w':=by
 obtain ⟨hl,hxx,hs⟩:=h
 have h1:=hs cap hc
 rw [<- hl] at h1
 rw [<- hl]
 have h2:=ask_any xs _ nm.data.toList y pv w hgl h1 hxx hy
 unfold strV at h2
 rw [strz] at h2
 exact h2
end Go.Proofs.YtgiigemfbebcgaaGreatDoor
