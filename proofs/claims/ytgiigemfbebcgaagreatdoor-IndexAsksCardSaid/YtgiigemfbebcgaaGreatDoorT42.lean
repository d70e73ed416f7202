/-
  Layers 0 to 14: helps of the laws of indexes. No statement is proved here; no condition.
-/
import Derived.Test.YtgiigemfbebcgaaGreatDoorT15
import Derived.Test.YtgiigemfbebcgaaGreatDoorT31
import Derived.Test.YtgiigemfbebcgaaGreatDoorT33
import Derived.Test.YtgiigemfbebcgaaGreatDoorT34
import Derived.Test.YtgiigemfbebcgaaGreatDoorT36
import Derived.Test.YtgiigemfbebcgaaGreatDoorT25
import Derived.Test.YtgiigemfbebcgaaGreatDoorT41
import Derived.Test.YtgiigemfbebcgaaGreatDoorT13
import Derived.Great.Walk
import Derived.Great.CaseRows
namespace Go.Proofs.YtgiigemfbebcgaaGreatDoor
open _root_.Go.Proofs.Tryz
open Go.RowKit Go.Sort
theorem kr_tiny:Tiny (rowK kr0)/\Tiny (rowK kr1):=by
 obtain ⟨h1,h2,h3,h4⟩:=kr_size
 obtain ⟨n1,n2⟩:=kr_needs
 obtain ⟨v1,v2⟩:=kr_ver
 exact ⟨⟨⟨1,0,0,v1,by omega,by omega,by omega⟩,⟨(rowK kr0).size.toNat,by omega,by omega⟩,by omega⟩,⟨⟨2,0,0,v2,by omega,by omega,by omega⟩,⟨(rowK kr1).size.toNat,by omega,by omega⟩,by omega⟩⟩
set_option maxRecDepth 100000 in
set_option maxHeartbeats 16000000 in
theorem known_any (w:World) (hgl:Gl w):Calls prog 7 #[] w fun e w'=>e=.returned (.bool true)/\Mod No w w':=by
 refine calls_hide fun R hR=>?_
 have HG:=zh hgl
 clear hgl
 obtain ⟨TX,hTX⟩:∃ TX,TX=indexT [rowK kr0,rowK kr1]:=⟨_,rfl⟩
 have HTX:=zh hTX
 have HMADE:=zh (fun (W:World) (g:Nat) (hs:Sl W No 69 (.slice (some ⟨g,0,none⟩) 1 1) 1 [.int .u16 7]) (v:Value) (hv:Sl W No 72 v 2 [.int .u8 0,.int .u8 0,.slice (some ⟨g,0,none⟩) 1 1,.int .u8 0,.int .u8 0,.int .u8 0,.int .u8 2,.slice none 0 0,.int .u8 0,.int .u8 0]) =>
  show Calls prog 9 #[v] W fun e w'=>(∃ rv av,e=.returned (.tuple #[rv,av,.string ⟨TX.toArray⟩]))/\Mod No W w' from by
   have h:=made_any [⟨kr0,.slice (some ⟨g,0,none⟩) 1 1⟩,⟨kr1,.slice none 0 0⟩] (by simp) v W (fun x hx=>by
    simp only [List.mem_cons,List.not_mem_nil,or_false] at hx
    rcases hx with rfl | rfl
    ·exact ⟨.of hs,by simp [kr0],fun t ht=>by simp [kr0] at ht;omega⟩
    ·exact ⟨⟨⟨none,0,rfl⟩,.inl ⟨rfl,rfl⟩⟩,by simp [kr1],fun t ht=>by simp [kr1] at ht⟩) (fun x hx=>by
    simp only [List.mem_cons,List.not_mem_nil,or_false] at hx
    rcases hx with rfl | rfl
    ·simp [kr0]
    ·simp [kr1]) (.of (e:=72) hv)
   refine h.mono fun e w' ⟨⟨rv,av,_,_,he,_⟩,hm⟩=>⟨⟨rv,av,?_⟩,hm⟩
   rw [he,hTX]
   simp only [List.map_cons,List.map_nil]
   rw [kr_kept]
   rfl)
 have hlen:TX.length<=8000:=by
  have h:=kept_text [kr0,kr1] (by simp) (fun r hr=>by
   simp only [List.mem_cons,List.not_mem_nil,or_false] at hr
   rcases hr with rfl | rfl
   ·simp [kr0]
   ·simp [kr1])
  rw [kr_kept] at h
  rw [hTX]
  exact h
 have htold:indexL TX=.inl [rowK kr0,rowK kr1]:=by
  have h:=kept_told [kr0,kr1] (by simp) (fun r hr=>by
   simp only [List.mem_cons,List.not_mem_nil,or_false] at hr
   rcases hr with rfl | rfl
   ·simp [kr0]
   ·simp [kr1])
  rw [kr_kept] at h
  rw [hTX]
  exact h
 have HP1:=zh (fun (W:World) (hW:Gl W)=>show Calls prog 11 #[.string ⟨TX.toArray⟩] W fun e w'=>(∃ B v xs,e=.returned (.tuple #[v,.int .i64 0,.int .i64 0])/\RowsW B w' v xs/\xs.map RwX.r=[rowK kr0,rowK kr1])/\Mod No W w' from
  (ixparse_any TX (by omega) W hW).mono fun e w' ⟨h,hm⟩=>by
   unfold IxRes at h
   rw [htold] at h
   obtain ⟨B,v,xs,he,h1,h2,-⟩:=h
   exact ⟨⟨B,v,xs,he,h1,h2⟩,hm⟩)
 have HP2:=zh (fun (W:World) (hW:Gl W)=>show Calls prog 11 #[.string ⟨#[110,101,101,100,32,97,32,42,10]⟩] W fun e w'=>e=.returned (.tuple #[.slice none 0 0,.int .i64 1,.int .i64 65])/\Mod No W w' from
  (ixparse_any [110,101,101,100,32,97,32,42,10] (by simp) W hW).mono fun e w' ⟨h,hm⟩=>by
   unfold IxRes at h
   rw [kr_needline] at h
   exact ⟨h,hm⟩)
 have HLT:=zh (show (indexT [rowK kr0,rowK kr1]).length<=100000 by rw [<- hTX];omega)
 clear hTX hlen htold
 obtain ⟨ZX,hZX⟩:∃ Z:ByteArray,Z=⟨TX.toArray⟩:=⟨_,rfl⟩
 have HZX:=zh hZX
 rw [<- hZX] at HMADE HP1
 clear hZX
 go_enter func7,ntmps7
 go_wp2_with fail
 obtain ⟨g0,hg0⟩:∃ g,g=w.heap.size:=⟨_,rfl⟩
 rw [<- hg0]
 generalize hW1:World.alloc (World.alloc w _) _=W1
 have hs1:Sl W1 No 69 (.slice (some ⟨g0,0,none⟩) 1 1) 1 [.int .u16 7]:=by
  rw [<- hW1,hg0]
  exact (sl_new w 69 [.int .u16 7] (Nat.le_refl 1) (by unfold maxLen;omega)).keep (S:=No) ((Mod.refl No _).alloc _) (fun _ _ _ f=>f.elim)
 have hv1:Sl W1 No 72 (.slice (some ⟨g0+1,0,none⟩) 2 2) 2 [.int .u8 0,.int .u8 0,.slice (some ⟨g0,0,none⟩) 1 1,.int .u8 0,.int .u8 0,.int .u8 0,.int .u8 2,.slice none 0 0,.int .u8 0,.int .u8 0]:=by
  have e1:g0+1=(World.alloc w (.cells #[.int .u16 7] 69)).heap.size:=by rw [hg0];simp
  rw [<- hW1,e1]
  exact sl_new _ 72 [.int .u8 0,.int .u8 0,.slice (some ⟨g0,0,none⟩) 1 1,.int .u8 0,.int .u8 0,.int .u8 0,.int .u8 2,.slice none 0 0,.int .u8 0,.int .u8 0] (Nat.le_refl 2) (by unfold maxLen;omega)
 have HM1:=zh (show Mod No w W1 by rw [<- hW1];exact ((Mod.refl No w).alloc _).alloc _)
 have HC1:=zh (HMADE.out W1 g0 hs1 _ hv1)
 clear hW1 hs1 hv1 hg0 HMADE
 with_reducible refine HC1.out.mono ?_
 rintro e w2 ⟨⟨rv,av,rfl⟩,hm2⟩
 have HM2:=zh (HM1.out.trans hm2)
 clear hm2 HC1 HM1
 go_wp2_with fail
 with_reducible refine (HP1.out _ (HG.out.stay HM2.out (fun f=>f))).mono ?_
 rintro e w3 ⟨⟨B,lv,xs,rfl,hrows,hxs⟩,hm3⟩
 have HM3:=zh (HM2.out.trans hm3)
 obtain ⟨x0,x1,rfl⟩:∃ x y,xs=[x,y]:=by
  match xs,hxs with
  | [],h=>simp at h
  | [x],h=>simp at h
  | [x,y],_=>exact ⟨x,y,rfl⟩
  | x :: y :: z :: r,h=>simp at h
 have HXS:=zh hxs
 simp only [List.map_cons,List.map_nil,List.cons.injEq,and_true] at hxs
 have HR:=zh hrows
 obtain ⟨gl,lc,hlv,hlb⟩:=own_shape hrows.own (by simp)
 subst hlv
 simp only [List.length_cons,List.length_nil,Nat.zero_add,Nat.reduceAdd] at *
 clear hm3 HM2 hlb hrows
 go_wp2_with fail
 with_reducible refine (HP2.out _ (HG.out.stay HM3.out (fun f=>f))).mono ?_
 rintro e w4 ⟨rfl,hm4⟩
 have HM4:=zh (HM3.out.trans hm4)
 have HR4:=zh (HR.out.no hm4)
 clear hm4 HM3 HR HP1 HP2
 obtain ⟨hx0,hx1⟩:=hxs
 have HSL:=zh (show Sl w4 No 46 (.slice (some ⟨gl,0,none⟩) 2 lc) [x0,x1].length ([x0,x1].flatMap RwX.cells) from HR4.out.sl)
 have HAT:=zh (show ∀ x ∈ [x0,x1],RwAt w4 x/\Tiny x.r from fun x hx=>⟨(HR4.out.each x hx).at,by
  simp only [List.mem_cons,List.not_mem_nil,or_false] at hx
  rcases hx with rfl | rfl
  ·rw [hx0];exact kr_tiny.1
  ·rw [hx1];exact kr_tiny.2⟩)
 have hv2:x1.r.v=⟨2,0,0,[]⟩:=by rw [hx1];exact kr_ver.2
 have hok1:=(HAT.out x1 (by simp)).1.ok
 obtain ⟨pa,pc,hpv⟩:=hok1.pre.len
 rw [hv2] at hpv
 have hrg1:w4.rangeAt gl 40 [.int .i64 2,.int .i64 0,.int .i64 0,.slice pa 0 pc]:=by
  have h:=Sl.atM (fun x hx=>RwX.cells_length x (HAT.out x hx).1.ok.sum) HSL.out (i:=1) (by simp)
  have h2:=rangeAt_part (p:=[strV x1.r.name]) (q:=verCs x1.r.v x1.pv) (r:=bv x1.r.sum++[.int .i64 x1.r.size,x1.nv]) (by rw [<- row_parts];exact h)
  rw [hv2,hpv] at h2
  exact h2
 have HRG1:=zh hrg1
 have HPV:=zh (show ∀ W,Mod No w4 W->Sl W No 9 (.slice pa 0 pc) 0 [] from fun W hm=>by
  have h:=(hok1.pre.kn hm)
  rw [hv2,hpv] at h
  exact h)
 have HN0:=zh (show ∃ na nc,w4.cell? ⟨gl,38,none⟩=some (.slice na 1 nc) from by
  have h:=Sl.atM (fun x hx=>RwX.cells_length x (HAT.out x hx).1.ok.sum) HSL.out (i:=0) (by simp)
  have hok0:=(HAT.out x0 (by simp)).1
  obtain ⟨ys,h1,h2,h3⟩:=hok0.nds
  obtain ⟨na,nc,e⟩:=h3.len
  have hl1:x0.r.needs.length=1:=by rw [hx0];exact kr_needs.1
  rw [hl1] at e
  refine ⟨na,nc,?_⟩
  have hbl:(bv x0.r.sum).length=32:=by rw [bv_length,hok0.ok.sum]
  have h9:=rangeAt_part (p:=[strV x0.r.name]++verCs x0.r.v x0.pv++(bv x0.r.sum++[.int .i64 x0.r.size])) (q:=[x0.nv]) (r:=[]) (w:=w4) (b:=gl) (o:=0) (by
   rw [List.append_nil]
   have e9:[strV x0.r.name]++verCs x0.r.v x0.pv++(bv x0.r.sum++[.int .i64 x0.r.size])++[x0.nv]=RwX.cells x0:=by rw [row_parts];simp
   rw [e9]
   exact h) 0 _ rfl
  simp only [List.length_cons,List.length_append,hbl,verCs,List.length_nil] at h9
  rw [<- e]
  exact h9)
 have hmap:[x0,x1].map RwX.r=[rowK kr0,rowK kr1]:=HXS.out
 have HFD:=zh (fun (W:World) (hm:Mod No w4 W)=>show Calls prog 15 #[.slice (some ⟨gl,0,none⟩) 2 lc,.string ⟨#[97]⟩,.agg #[.int .i64 2,.int .i64 0,.int .i64 0,.slice pa 0 pc]] W fun e w'=>(∃ cs:List Value,e=.returned (.tuple #[.agg cs.toArray,.bool true])/\cs.length=39/\cs.toArray.all (·.oneCell')=true/\cs[1]? = some (.int .i64 2))/\Mod No W w' from
  (find_any [x0,x1] (by simp) nameA ⟨2,0,0,[]⟩ (.slice pa 0 pc) (.slice (some ⟨gl,0,none⟩) 2 lc) W (fun x hx=>(HAT.out x hx).1.keep hm (Apart.no _ _)) ⟨by simp,by simp⟩ (HPV.out W hm) (HSL.out.kn hm)).mono fun e w' ⟨h,hm2⟩=>by
   unfold FindRes at h
   rw [hmap,kr_at] at h
   obtain ⟨x,h1,h2,he⟩:=h
   have hxr:x.r=rowK kr1:=(Option.some.inj h1).symm
   refine ⟨⟨RwX.cells x,he,RwX.cells_length x h2.ok.sum,rows_one h2.ok,?_⟩,hm2⟩
   show some (Value.int .i64 x.r.v.ma)=_
   rw [hxr,kr_ver.2])
 have HVS:=zh (fun (W:World) (hm:Mod No w4 W)=>show Calls prog 22 #[.slice (some ⟨gl,0,none⟩) 2 lc,.string ⟨#[97]⟩] W fun e w'=>(∃ g o c,e=.returned (.slice (some ⟨g,o,none⟩) 2 c)/\w'.cell? ⟨g,o,none⟩=some (.int .i64 2))/\Mod No W w' from
  (versions_any [x0,x1] (by simp) nameA (.slice (some ⟨gl,0,none⟩) 2 lc) W (fun x hx=>(HAT.out x hx).1.keep hm (Apart.no _ _)) (HSL.out.kn hm)).mono fun e w' ⟨v,he,hv,hm2⟩=>by
   have hvv:=kr_vers hmap
   obtain ⟨z0,z1,hz⟩:∃ z0 z1,sortR ltVx (versOf nameA [x0,x1])=[z0,z1]:=by
    revert hvv
    generalize sortR ltVx (versOf nameA [x0,x1])=zs
    intro hvv
    match zs,hvv with
    | [],h=>simp at h
    | [x],h=>simp at h
    | [x,y],_=>exact ⟨x,y,rfl⟩
    | x :: y :: z :: r,h=>simp at h
   rw [hz] at hv hvv
   simp only [List.map_cons,List.map_nil,List.cons.injEq,and_true] at hvv
   obtain ⟨b,o,c,e1,-,-,-⟩:=hv.sl.shape (by simp)
   subst e1
   refine ⟨⟨b,o,c,he,?_⟩,hm2⟩
   have h9:=Sl.at VrX.cells_length hv.sl (i:=0) (by simp) 0 (.int .i64 z0.v.ma) rfl
   rw [hvv.1] at h9
   simpa using h9)
 have HTT:=zh (fun (W:World) (hm:Mod No w4 W)=>show Calls prog 32 #[.slice (some ⟨gl,0,none⟩) 2 lc] W fun e w'=>e=.returned (.string ZX)/\Mod No W w' from by
  have h:=text_any [x0,x1] (by simp) (.slice (some ⟨gl,0,none⟩) 2 lc) W (fun x hx=>⟨(HAT.out x hx).1.keep hm (Apart.no _ _),(HAT.out x hx).2⟩) (HSL.out.kn hm) (by rw [hmap];exact HLT.out)
  rw [hmap,<- HTX.out] at h
  unfold strV at h
  rw [<- HZX.out] at h
  exact h)
 have HNN:=zh (fun (W:World) (hm:Mod No w4 W)=>show Calls prog 19 #[.slice (some ⟨gl,0,none⟩) 2 lc] W fun e w'=>(∃ v,e=.returned v/\Sl w' No 9 v 1 (strs [nameA]))/\Mod No W w' from
  (names_any [x0,x1] (by simp) (.slice (some ⟨gl,0,none⟩) 2 lc) W (fun x hx=>(HAT.out x hx).1.keep hm (Apart.no _ _)) (HSL.out.kn hm)).mono fun e w' ⟨v,out,he,h1,h2,h3,h4⟩=>by
   have ho:out=[nameA]:=kr_names h2 (fun y=>by
    rw [h3 y,<- hmap]
    simp)
   subst ho
   exact ⟨⟨v,he,h1⟩,h4⟩)
 have HSE:=zh (fun (v u:Value) (W:World) (h1:Sl W No 9 v 1 (strs [nameA])) (h2:Sl W No 9 u 1 (strs [nameA]))=>strings_eq [nameA] v u W h1 h2)
 clear hrg1 hok1 hv2 hpv
 go_wp2_with (refine wpList_load_mid rfl 40 _ rfl gl 40 rfl [.int .i64 2,.int .i64 0,.int .i64 0,.slice pa 0 pc] _ HRG1.out underlying40 rfl ver_info ?_)
 with_reducible refine (HFD.out w4 (Mod.refl _ _)).mono ?_
 rintro e w5 ⟨⟨ds,rfl,hd1,hd2,hd3⟩,hm5⟩
 have HM5:=zh hm5
 have HD1:=zh hd1
 have HD2:=zh hd2
 have HD3:=zh hd3
 clear hm5 hd1 hd2 hd3 HFD HRG1
 go_upto_region 7 with (refine wpList_store_row rfl 46 _ _ rfl w5.heap.size ds.toArray rfl rfl 46 _ (heap_alloc_new w5 _) (by rw [List.size_toArray,HD1.out];exact row_info) (by show _=ds.length;rw [HD1.out];rfl) HD2.out ?_)
 obtain ⟨gt,hgt⟩:∃ g,g=w5.heap.size:=⟨_,rfl⟩
 rw [<- hgt]
 generalize hw6:World.setRow _ gt ds.toArray=w6
 have HM6:=zh (show Mod No w4 w6 by rw [<- hw6,hgt];exact HM5.out.trans (((Mod.refl No w5).alloc _).setRow (fun h=>absurd h (by omega)) _))
 have hgb:w6.heap[gt]? = some (.cells ds.toArray 46 (0,0)):=by rw [<- hw6,hgt];exact setRow_heap _ _ _ _ _ _ (heap_alloc_new w5 _)
 have HGB:=zh hgb
 clear hw6 hgt hgb HM5 HD2
 go_wp2_with fail
 with_reducible refine (HVS.out w6 HM6.out).mono ?_
 rintro e w7 ⟨⟨gv,ov,cv,rfl,hcv⟩,hm7⟩
 have HM7:=zh (HM6.out.trans hm7)
 have HCV:=zh hcv
 have c1:=cell_ofA (hm7.keep HGB.out (fun f=>f)) (i:=1) (v:=.int .i64 2) (by rw [List.getElem?_toArray];exact HD3.out)
 obtain ⟨nn,nnc,hn0⟩:=HN0.out
 have c38:=HM7.out.cell hn0 (fun f=>f)
 have hzz:(ZX.toList == ZX.toList)=true:=by simp
 clear hcv hm7 HVS hn0 HN0
 go_wp2_with fail
 with_reducible refine (HTT.out w7 HM7.out).mono ?_
 rintro e w8 ⟨rfl,hm8⟩
 have HM8:=zh hm8
 clear hm8 HTT c1 c38
 go_wp2_with fail
 with_reducible refine (HNN.out w8 (HM7.out.trans HM8.out)).mono ?_
 rintro e w9 ⟨⟨nv,rfl,hnv⟩,hm9⟩
 obtain ⟨va,vc,hvv⟩:=hnv.len
 subst hvv
 have HNV:=zh hnv
 have HM9:=zh (HM8.out.trans hm9)
 clear hm9 HNN hnv HM8
 go_wp2_with fail
 have hA:Sl (w9.alloc (.cells #[.string ⟨#[97]⟩] 9)) No 9 (.slice va 1 vc) 1 (strs [nameA]):=HNV.out.keep (S:=No) ((Mod.refl No w9).alloc _) (fun _ _ _ f=>f.elim)
 have hB:Sl (w9.alloc (.cells #[.string ⟨#[97]⟩] 9)) No 9 (.slice (some ⟨w9.heap.size,0,none⟩) 1 1) 1 (strs [nameA]):=sl_new w9 9 (strs [nameA]) (Nat.le_refl 1) (by unfold maxLen;omega)
 have HSE2:=zh (HSE.out _ _ _ hA hB)
 clear hA hB HSE
 with_reducible refine HSE2.out.mono ?_
 rintro e w10 ⟨rfl,hm10⟩
 have HM10:=zh (show Mod No w7 w10 from (HM9.out.alloc _).trans hm10)
 have ccv:=HM10.out.cell HCV.out (fun f=>f)
 have HMF:=zh (HM4.out.trans (HM7.out.trans HM10.out))
 clear hm10 HSE2 HNV HM9 HCV HM10
 go_wp2_with fail
 exact fin hR ⟨rfl,HMF.out⟩
end Go.Proofs.YtgiigemfbebcgaaGreatDoor
namespace Go.Proofs.YtgiigemfbebcgaaGreatDoor
open _root_.Go.Proofs.Tryz
open Go.RowKit
set_option maxRecDepth 100000 in
set_option maxHeartbeats 8000000 in
theorem light_any (xs:List SrX) (hx:∀ x ∈ xs,∃ a c,x.nv=.slice a x.r.needs.length c) (v:Value) (lim:Nat) (w:World) (hv:SvX w No v xs.length (xs.flatMap SrX.cells)) :
  Calls prog 8 #[v,.int .i64 (lim:Int)] w fun e w'=>(∃ b,e=.returned (.bool b)/\(b=true ↔ xs.length<=lim/\∀ x ∈ xs,x.r.needs.length<=4))/\Mod No w w':=by
 refine calls_hide fun R hR=>?_
 have hl:=hv.lenle
 obtain ⟨va,vc,rfl⟩:=hv.len
 have HX:=zh hx
 have HV:=zh hv
 obtain ⟨n,hn⟩:∃ n,n=xs.length:=⟨_,rfl⟩
 rw [<- hn] at hl hR ⊢
 have HN:=zh hn
 clear hx hv
 go_enter func8,ntmps8
 by_cases hlim:lim < n
 ·have hg:(lim:Int) < (n:Int):=by omega
  clear hn
  go_wp2_with fail
  exact fin hR ⟨⟨false,rfl,⟨fun h=>by (cases h),fun h=>by omega⟩⟩,Mod.refl _ _⟩
 ·have hg:¬ ((lim:Int) < (n:Int)):=by omega
  clear hn
  go_wp2_with fail
  go_loopw [5] (fun q wr=>∃ k:Nat,k<=n/\q=.int .i64 (k:Int)/\(∀ i (hi:i < xs.length),i < k->xs[i].r.needs.length<=4)/\wr=w) (fun q _=>n - (intOf q).toNat)
  case atStart=>exact ⟨0,by omega,rfl,fun i _ h=>absurd h (by omega),rfl⟩
  case round =>
   obtain ⟨k,hk,rfl,hall,rfl⟩:=hrel
   have HALL:=zh hall
   have hk0:(0:Int)<=(k:Int):=Int.natCast_nonneg _
   clear hall
   by_cases hlt:k < n
   ·have hk1:(k:Int) < (n:Int):=by omega
    have hkl:k < xs.length:=by rw [<- HN.out];exact hlt
    obtain ⟨ib,io,c,hvs,_⟩:=HV.out.shape (by omega)
    have hva:va=some ⟨ib,io,none⟩:=by cases hvs;rfl
    subst hva
    have hc:=(SvX.at SrX.cells_length HV.out hkl rfl) 2 _ rfl
    obtain ⟨a,c2,hnv⟩:=HX.out _ (List.getElem_mem hkl)
    rw [hnv] at hc
    by_cases h4:xs[k].r.needs.length<=4
    ·have h4i:¬ ((4:Int) < (xs[k].r.needs.length:Int)):=by omega
     have HA2:=zh (show ∀ i (hi:i < xs.length),i < k+1->xs[i].r.needs.length<=4 from fun i hi hik=>by
      by_cases he:i=k
      ·subst he;exact h4
      ·exact HALL.out i hi (by omega))
     clear hnv hvs h4
     generalize xs[k].r.needs.length=z at *
     go_wp2_with fail
     exact ⟨⟨k+1,by omega,rfl,HA2.out,trivial⟩,by show n - ((k:Int)+1).toNat < n - (k:Int).toNat;omega⟩
    ·have h4i:(4:Int) < (xs[k].r.needs.length:Int):=by omega
     have HNO:=zh (show ¬ (n<=lim/\∀ x ∈ xs,x.r.needs.length<=4) from fun h=>h4 (h.2 _ (List.getElem_mem hkl)))
     clear hnv hvs h4
     generalize xs[k].r.needs.length=z at *
     go_wp2_with fail
     exact fin hR ⟨⟨false,rfl,⟨fun h=>by (cases h),fun h=>absurd h HNO.out⟩⟩,Mod.refl _ _⟩
   ·obtain rfl:k=n:=by omega
    have hk1:¬ ((k:Int) < (k:Int)):=by omega
    go_wp2_with fail
    exact fin hR ⟨⟨true,rfl,⟨fun _=>⟨by omega,fun x hx=>by
     obtain ⟨i,hi,rfl⟩:=List.getElem_of_mem hx
     exact HALL.out i hi (by rw [HN.out];exact hi)⟩,fun _=>rfl⟩⟩,Mod.refl _ _⟩
set_option maxRecDepth 100000 in
set_option maxHeartbeats 8000000 in
theorem lightv_any (y:Ver) (pv:Value) (w:World) (hv:SvX w No pv y.pre.length (strs y.pre)) :
  Calls prog 14 #[verV y pv] w fun e w'=>(∃ b,e=.returned (.bool b)/\(b=true ↔ y.pre.length<=6/\∀ p ∈ y.pre,p.length<=30))/\Mod No w w':=by
 refine calls_hide fun R hR=>?_
 have hl:=hv.lenle
 obtain ⟨va,vc,rfl⟩:=hv.len
 obtain ⟨ya,yb,yc,yp⟩:=y
 dsimp only at *
 have HV:=zh hv
 obtain ⟨n,hn⟩:∃ n,n=yp.length:=⟨_,rfl⟩
 rw [<- hn] at hl hR ⊢
 have HN:=zh hn
 unfold verV
 dsimp only
 clear hv hn
 go_enter func14,ntmps14
 go_upto_region 1 with fail
 obtain ⟨g,hg⟩:∃ g,g=w.heap.size:=⟨_,rfl⟩
 rw [<- hg]
 generalize hw2:World.alloc w _=w2
 have HM2:=zh (show Mod No w w2 by rw [<- hw2];exact (Mod.refl No w).alloc _)
 have hgb:w2.heap[g]? = some (.cells #[.int .i64 ya,.int .i64 yb,.int .i64 yc,.slice va n vc] 40 (0,0)):=by rw [<- hw2,hg];exact heap_alloc_new _ _
 have HGB:=zh hgb
 have q1:=cell_ofA hgb (i:=3) rfl
 clear hgb hg hw2
 by_cases h6:6 < n
 ·have h6i:(6:Int) < (n:Int):=by omega
  go_wp2_with fail
  exact fin hR ⟨⟨false,rfl,⟨fun h=>by (cases h),fun h=>by omega⟩⟩,HM2.out⟩
 ·have h6i:¬ ((6:Int) < (n:Int)):=by omega
  go_wp2_with fail
  clear q1
  go_loopw [3] (fun q wr=>∃ k:Nat,k<=n/\q=.int .i64 (k:Int)/\(∀ i (hi:i < yp.length),i < k->yp[i].length<=30)/\wr=w2) (fun q _=>n - (intOf q).toNat)
  case atStart=>exact ⟨0,by omega,rfl,fun i _ h=>absurd h (by omega),rfl⟩
  case round =>
   obtain ⟨k,hk,rfl,hall,rfl⟩:=hrel
   have HALL:=zh hall
   have hk0:(0:Int)<=(k:Int):=Int.natCast_nonneg _
   have q1:=cell_ofA HGB.out (i:=3) rfl
   clear hall
   by_cases hlt:k < n
   ·have hk1:(k:Int) < (n:Int):=by omega
    have hkl:k < yp.length:=by rw [<- HN.out];exact hlt
    obtain ⟨ib,io,c,hvs,_⟩:=HV.out.shape (by omega)
    have hva:va=some ⟨ib,io,none⟩:=by cases hvs;rfl
    subst hva
    have hc:=HM2.out.cell (HV.out.cellN (i:=k) (by rw [strs_length];exact hkl)) (fun f=>f)
    rw [show (strs yp)[k]'(by rw [strs_length];exact hkl)=.string ⟨yp[k].toArray⟩ from by simp [strs,strV]] at hc
    have hZ:=str_len3 yp[k]
    by_cases h4:yp[k].length<=30
    ·have h4i:¬ ((30:Int) < ((⟨yp[k].toArray⟩:ByteArray).size:Int)):=by rw [hZ];omega
     have HA2:=zh (show ∀ i (hi:i < yp.length),i < k+1->yp[i].length<=30 from fun i hi hik=>by
      by_cases he:i=k
      ·subst he;exact h4
      ·exact HALL.out i hi (by omega))
     clear hvs h4 hZ
     generalize (⟨yp[k].toArray⟩:ByteArray)=Z at *
     go_wp2_with fail
     exact ⟨⟨k+1,by omega,rfl,HA2.out,trivial⟩,by show n - ((k:Int)+1).toNat < n - (k:Int).toNat;omega⟩
    ·have h4i:(30:Int) < ((⟨yp[k].toArray⟩:ByteArray).size:Int):=by rw [hZ];omega
     have HNO:=zh (show ¬ (n<=6/\∀ p ∈ yp,p.length<=30) from fun h=>h4 (h.2 _ (List.getElem_mem hkl)))
     clear hvs h4 hZ
     generalize (⟨yp[k].toArray⟩:ByteArray)=Z at *
     go_wp2_with fail
     exact fin hR ⟨⟨false,rfl,⟨fun h=>by (cases h),fun h=>absurd h HNO.out⟩⟩,HM2.out⟩
   ·obtain rfl:k=n:=by omega
    have hk1:¬ ((k:Int) < (k:Int)):=by omega
    go_wp2_with fail
    exact fin hR ⟨⟨true,rfl,⟨fun _=>⟨by omega,fun x hx=>by
     obtain ⟨i,hi,rfl⟩:=List.getElem_of_mem hx
     exact HALL.out i hi (by rw [HN.out];exact hi)⟩,fun _=>rfl⟩⟩,HM2.out⟩
set_option maxRecDepth 100000 in
set_option maxHeartbeats 8000000 in
theorem versions_eq (xa xb:List VrX) (hab:xa.map VrX.v=xb.map VrX.v) (va vb:Value) (w:World) (ha:VrsAt w va xa) (hb:VrsAt w vb xb) :
  Calls prog 21 #[va,vb] w fun e w'=>e=.returned (.bool true)/\Mod No w w':=by
 refine calls_hide fun R hR=>?_
 have hl:=ha.sl.lenle
 obtain ⟨aa,ac,rfl⟩:=ha.sl.len
 obtain ⟨ba,bc,rfl⟩:=hb.sl.len
 have hlen:xb.length=xa.length:=by have h:=congrArg List.length hab;rw [List.length_map,List.length_map] at h;exact h.symm
 have HA:=zh ha
 have HB:=zh hb
 have HAB:=zh hab
 have HL2:=zh hlen
 rw [hlen]
 obtain ⟨n,hn⟩:∃ n,n=xa.length:=⟨_,rfl⟩
 rw [<- hn] at hl ⊢
 have HN:=zh hn
 clear ha hb hab hlen hn
 go_enter func21,ntmps21
 go_wp2_with fail
 go_loopw [5] (fun q wr=>∃ k:Nat,k<=n/\q=.int .i64 (k:Int)/\Mod No w wr) (fun q _=>n - (intOf q).toNat)
 case atStart=>exact ⟨0,by omega,rfl,Mod.refl _ _⟩
 case round =>
  obtain ⟨k,hk,rfl,hm⟩:=hrel
  have HM:=zh hm
  have hk0:(0:Int)<=(k:Int):=Int.natCast_nonneg _
  clear hm
  by_cases hlt:k < n
  ·have hk1:(k:Int) < (n:Int):=by omega
   have hka:k < xa.length:=by rw [<- HN.out];exact hlt
   have hkb:k < xb.length:=by rw [HL2.out];exact hka
   obtain ⟨ab,ao,c1,hvs,_⟩:=HA.out.sl.shape (by omega)
   have haa:aa=some ⟨ab,ao,none⟩:=by cases hvs;rfl
   subst haa
   obtain ⟨bb,bo,c2,hvs2,_⟩:=HB.out.sl.shape (by omega)
   have hba:ba=some ⟨bb,bo,none⟩:=by cases hvs2;rfl
   subst hba
   have h1:w.rangeAt ab (ao+k*4) (VrX.cells xa[k]):=Sl.at VrX.cells_length HA.out.sl hka
   have h2:w.rangeAt bb (bo+k*4) (VrX.cells xb[k]):=Sl.at VrX.cells_length HB.out.sl hkb
   have he:xa[k].v=xb[k].v:=by
    have h:(xa.map VrX.v)[k]'(by rw [List.length_map];exact hka)=(xb.map VrX.v)[k]'(by rw [List.length_map];exact hkb):=by simp only [HAB.out]
    rw [List.getElem_map,List.getElem_map] at h
    exact h
   have e1:=HA.out.each _ (List.getElem_mem hka)
   have e2:=HB.out.each _ (List.getElem_mem hkb)
   generalize xa[k]=x1 at h1 he e1
   generalize xb[k]=x2 at h2 he e2
   obtain ⟨y,pa⟩:=x1
   obtain ⟨y2,pb⟩:=x2
   obtain rfl:y=y2:=he
   have H1:=zh h1
   have H2:=zh h2
   have HV0:=zh (fun W (hm:Mod No w W)=>version_eq y pa pb W (e1.2.kn hm) (e2.2.kn hm))
   clear h1 h2 e1 e2 hvs hvs2
   go_upto_region 6 with fail
   obtain ⟨wD,hwD⟩:∃ x,x=wr.drew:=⟨_,rfl⟩
   have HMD:=zh (show Mod No w wD by rw [hwD];exact HM.out.drew)
   have HSM:=zh (show ∀ w',Mod No wD w'->w'.rangeAt ab (ao+k*4) (VrX.cells ⟨y,pa⟩)/\w'.rangeAt bb (bo+k*4) (VrX.cells ⟨y,pb⟩) from fun w' h =>
    ⟨(HMD.out.trans h).rangeAt H1.out (fun f=>f),(HMD.out.trans h).rangeAt H2.out (fun f=>f)⟩)
   have HVE:=zh (show ∀ W,Mod No wD W->Calls prog 53 #[.agg #[.int .i64 y.ma,.int .i64 y.mi,.int .i64 y.pa,pa],.agg #[.int .i64 y.ma,.int .i64 y.mi,.int .i64 y.pa,pb]] W fun e w'=>e=.returned (.bool true)/\Mod No W w' from fun W hm=>HV0.out W (HMD.out.trans hm))
   have HWD:=zh hwD
   have hS0:=Mod.refl No wD
   clear hwD
   refine wp_region_T (fun w'=>Mod No wD w') 99 (by kernel_rfl) ?_
   rw [<- HWD.out]
   refine yT 0 (some 17) ?_ hS0 ?_ ?_
   rotate_left
   ·(intro w' hSw;go_simp;try with_reducible rfl)
   simp only [Act.put,yB,yC,yD]
   refine yT 1 (some 18) ?_ hS0 ?_ ?_
   rotate_left
   ·(intro w' hSw;go_simp;try with_reducible rfl)
   simp only [Act.put,yB,yC,yD]
   refine yT 2 (some 19) ?_ hS0 ?_ ?_
   rotate_left
   ·(intro w' hSw;go_simp;try with_reducible rfl)
   simp only [Act.put,yB,yC,yD]
   refine yT 3 (some 20) (verV y pa) hS0 ?_ ?_
   ·(intro w' hSw;apply yloadv (run_loadVar_mid w' ab (ao+k*4) 40 (VrX.cells ⟨y,pa⟩) _ (HSM.out w' hSw).1 underlying40 rfl ver_info) (.tmp 19) <;> rfl)
   simp only [Act.put,yB,yC,yD]
   refine yT 4 (some 21) ?_ hS0 ?_ ?_
   rotate_left
   ·(intro w' hSw;go_simp;try with_reducible rfl)
   simp only [Act.put,yB,yC,yD]
   refine yT 5 (some 22) ?_ hS0 ?_ ?_
   rotate_left
   ·(intro w' hSw;go_simp;try with_reducible rfl)
   simp only [Act.put,yB,yC,yD]
   refine yT 6 (some 23) ?_ hS0 ?_ ?_
   rotate_left
   ·(intro w' hSw;go_simp;try with_reducible rfl)
   simp only [Act.put,yB,yC,yD]
   refine yT 7 (some 24) (verV y pb) hS0 ?_ ?_
   ·(intro w' hSw;apply yloadv (run_loadVar_mid w' bb (bo+k*4) 40 (VrX.cells ⟨y,pb⟩) _ (HSM.out w' hSw).2 underlying40 rfl ver_info) (.tmp 23) <;> rfl)
   simp only [Act.put,yB,yC,yD]
   refine wpAnyT_one 8 rfl (by kernel_rfl) rfl ?_
   intro K hK
   unfold verV
   go_simp
   go_at_call 53
   with_reducible refine (HVE.out _ hS0).mono ?_
   rintro e wE ⟨rfl,hmE⟩
   have HME:=zh hmE
   clear hmE
   show K _ _
   have hS1:=HME.out
   refine hK.out _ _ (fun _=>hS1) ?_
   clear hK K
   refine yT 9 (some 26) ?_ hS1 ?_ ?_
   rotate_left
   ·(intro w' hSw;go_simp;try with_reducible rfl)
   simp only [Act.put]
   refine wpAnyT_done (by kernel_rfl) ?_ _
   clear hS0 hS1
   go_wp2_with fail
   exact ⟨⟨k+1,by omega,rfl,HMD.out.trans HME.out⟩,by show n - ((k:Int)+1).toNat < n - (k:Int).toNat;omega⟩
  ·obtain rfl:k=n:=by omega
   have hk1:¬ ((k:Int) < (k:Int)):=by omega
   go_wp2_with fail
   exact fin hR ⟨rfl,HM.out⟩
theorem map_get {α β:Type} {f:α->β} {xs:List α} {l:List β} (h:xs.map f=l) {k:Nat} (hk:k < l.length):∃ hx:k < xs.length,f (xs[k]'hx)=l[k]:=by
 subst h
 rw [List.length_map] at hk
 exact ⟨hk,(List.getElem_map ..).symm⟩
set_option maxRecDepth 100000 in
set_option maxHeartbeats 16000000 in
theorem span_eq (any:Bool) (l:List (List Bnd)) (va vb:Value) (w:World) (ha:OrsAt w va l) (hb:OrsAt w vb l) :
  Calls prog 88 #[.agg #[.bool any,va],.agg #[.bool any,vb]] w fun e w'=>e=.returned (.bool true)/\Mod No w w':=by
 refine calls_hide fun R hR=>?_
 obtain ⟨xa,hxa,hea,hsa⟩:=ha
 obtain ⟨xb,hxb,heb,hsb⟩:=hb
 have hl:=hsa.lenle
 obtain ⟨aa,oc,rfl⟩:=hsa.len
 obtain ⟨ba,qc,rfl⟩:=hsb.len
 have HXA:=zh hxa
 have HXB:=zh hxb
 have HEA:=zh hea
 have HEB:=zh heb
 obtain ⟨n,hn⟩:∃ n,n=l.length:=⟨_,rfl⟩
 rw [<- hn] at hsa hsb hl ⊢
 have HSA:=zh hsa
 have HSB:=zh hsb
 have HN:=zh hn
 clear hxa hxb hea heb hsa hsb hn
 go_enter func88,ntmps88
 go_upto_region 1 with fail
 have hg2:(w.alloc (.cells #[.bool any,.slice aa n oc] 79)).heap.size=w.heap.size+1:=by show (w.heap.push _).size=_;simp
 obtain ⟨g1,hg1⟩:∃ g,g=w.heap.size:=⟨_,rfl⟩
 have hk1:=heap_alloc_old (.cells #[.bool any,.slice ba n qc] 79) (heap_alloc_new w (.cells #[.bool any,.slice aa n oc] 79))
 have hk2:=heap_alloc_new (w.alloc (.cells #[.bool any,.slice aa n oc] 79)) (.cells #[.bool any,.slice ba n qc] 79)
 have hm2:=((Mod.refl No w).alloc (.cells #[.bool any,.slice aa n oc] 79)).alloc (.cells #[.bool any,.slice ba n qc] 79)
 rw [hg2] at hk2
 rw [<- hg1] at hk1 hk2 ⊢
 generalize World.alloc (w.alloc _) _=w2 at *
 have HB1:=zh hk1
 have HB2:=zh hk2
 have HM2:=zh hm2
 clear hg2 hk1 hk2 hm2 hg1
 have q1:=cell_ofA HB1.out (i:=1) rfl
 have q2:=cell_ofA HB2.out (i:=1) rfl
 have q3:=cell_ofA HB1.out (i:=0) rfl
 have q4:=cell_ofA HB2.out (i:=0) rfl
 go_wp2_with fail
 clear q1 q2 q3 q4
 go_loopw [5,6] (fun q5 q6 wr=>∃ k:Nat,k<=n/\q5=.int .i64 (k:Int)/\Mod No w2 wr) (fun q5 q6 _=>n - (intOf q5).toNat)
 case atStart=>exact ⟨0,by omega,rfl,Mod.refl _ _⟩
 case round =>
  obtain ⟨k,hk,rfl,hm⟩:=hrel
  have HM:=zh hm
  have hk0:(0:Int)<=(k:Int):=Int.natCast_nonneg _
  have q1:=cell_ofA (hm.keep HB1.out (fun f=>f)) (i:=1) rfl
  have q2:=cell_ofA (hm.keep HB2.out (fun f=>f)) (i:=1) rfl
  clear hm
  by_cases hlt:k < n
  ·have hkn:(k:Int) < (n:Int):=by omega
   have hkl:k < l.length:=by rw [<- HN.out];exact hlt
   obtain ⟨oa,oo,c1,hvs,_⟩:=HSA.out.shape (by omega)
   have haa:aa=some ⟨oa,oo,none⟩:=by cases hvs;rfl
   subst haa
   obtain ⟨qa,qo,c2,hvs2,_⟩:=HSB.out.shape (by omega)
   have hba:ba=some ⟨qa,qo,none⟩:=by cases hvs2;rfl
   subst hba
   obtain ⟨hka,e1⟩:=map_get HXA.out hkl
   obtain ⟨hkb,e2⟩:=map_get HXB.out hkl
   have h1:=HSA.out.cellN (i:=k) (by rw [List.length_map];exact hka)
   have h2:=HSB.out.cellN (i:=k) (by rw [List.length_map];exact hkb)
   rw [List.getElem_map] at h1 h2
   obtain ⟨ya,hya,hpa,hba⟩:=HEA.out _ (List.getElem_mem hka)
   obtain ⟨yb,hyb,hpb,hbb⟩:=HEB.out _ (List.getElem_mem hkb)
   rw [e1] at hya hba
   rw [e2] at hyb hbb
   generalize l[k]=L at hya hba hyb hbb e1 e2
   generalize (xa[k]'hka).v=ua at h1 hba
   generalize (xb[k]'hkb).v=ub at h2 hbb
   have hml:=hba.lenle
   obtain ⟨ab0,ac,rfl⟩:=hba.len
   obtain ⟨bb0,bc,rfl⟩:=hbb.len
   obtain ⟨m,hm⟩:∃ m,m=L.length:=⟨_,rfl⟩
   rw [<- hm] at h1 h2 hml hba hbb
   have HML:=zh hm
   have HYA:=zh hya
   have HYB:=zh hyb
   have HPA:=zh hpa
   have HPB:=zh hpb
   have HBA:=zh hba
   have HBB:=zh hbb
   have H1:=zh h1
   have H2:=zh h2
   have q5:=(HM2.out.trans HM.out).cell h1 (fun f=>f)
   have q6:=(HM2.out.trans HM.out).cell h2 (fun f=>f)
   clear h1 h2 hvs hvs2 e1 e2 hm hya hyb hpa hpb hba hbb
   go_upto_region 6 with fail
   go_quiet (fail)
   generalize hw3:World.drewN wr _=w3
   have HM3:=zh (show Mod No w2 w3 by rw [<- hw3];exact HM.out.drewN _)
   clear hw3 q1 q2 q5 q6
   go_wp2_with fail
   go_loopw [6] (fun q6 wr2=>∃ j:Nat,j<=m/\q6=.int .i64 (j:Int)/\Mod No w2 wr2) (fun q6 _=>m - (intOf q6).toNat)
   case atStart=>exact ⟨0,by omega,rfl,HM3.out⟩
   case round =>
    obtain ⟨j,hj,rfl,hm⟩:=hrel
    have HMJ:=zh hm
    have hj0:(0:Int)<=(j:Int):=Int.natCast_nonneg _
    have q1:=cell_ofA (hm.keep HB1.out (fun f=>f)) (i:=1) rfl
    have q5:=(HM2.out.trans hm).cell H1.out (fun f=>f)
    clear hm
    by_cases hjt:j < m
    ·have hjm:(j:Int) < (m:Int):=by omega
     have hjl:j < L.length:=by rw [<- HML.out];exact hjt
     obtain ⟨ab,ao,c3,hvs,_⟩:=HBA.out.shape (by omega)
     have haa:ab0=some ⟨ab,ao,none⟩:=by cases hvs;rfl
     subst haa
     obtain ⟨bb,bo,c4,hvs2,_⟩:=HBB.out.shape (by omega)
     have hbb:bb0=some ⟨bb,bo,none⟩:=by cases hvs2;rfl
     subst hbb
     obtain ⟨hja,e1⟩:=map_get HYA.out hjl
     obtain ⟨hjb,e2⟩:=map_get HYB.out hjl
     have hma:ya.length=m:=by have h:=congrArg List.length HYA.out;rw [List.length_map] at h;rw [h,HML.out]
     have hmb:yb.length=m:=by have h:=congrArg List.length HYB.out;rw [List.length_map] at h;rw [h,HML.out]
     have r1:w.rangeAt ab (ao+j*5) (BndX.cells ya[j]):=Sl.at BndX.cells_length (by rw [<- hma] at HBA;exact HBA.out) hja
     have r2:w.rangeAt bb (bo+j*5) (BndX.cells yb[j]):=Sl.at BndX.cells_length (by rw [<- hmb] at HBB;exact HBB.out) hjb
     have p1:=HPA.out _ (List.getElem_mem hja)
     have p2:=HPB.out _ (List.getElem_mem hjb)
     have he:(ya[j]'hja).b=(yb[j]'hjb).b:=e1.trans e2.symm
     generalize ya[j]=x1 at r1 p1 he
     generalize yb[j]=x2 at r2 p2 he
     obtain ⟨⟨sg,y⟩,pa⟩:=x1
     obtain ⟨b2,pb⟩:=x2
     obtain rfl:(⟨sg,y⟩:Bnd)=b2:=he
     dsimp only at p1 p2
     have R1:=zh r1
     have R2:=zh r2
     have HV0:=zh (fun W (hm:Mod No w W)=>version_eq y pa pb W (p1.kn hm) (p2.kn hm))
     obtain ⟨ZS,hZS⟩:∃ Z:ByteArray,Z=⟨sg.toArray⟩:=⟨_,rfl⟩
     have HZS:=zh hZS
     clear e1 e2 hma hmb r1 r2 p1 p2 hvs hvs2 hZS
     go_upto_region 11 with fail
     obtain ⟨wD,hwD⟩:∃ x,x=wr.drew:=⟨_,rfl⟩
     have HMD:=zh (show Mod No w2 wD by rw [hwD];exact HMJ.out.drew)
     have HSM:=zh (show ∀ w',Mod No wD w'->w'.cell? ⟨g1,1,none⟩=some (.slice (some ⟨oa,oo,none⟩) n oc)/\w'.cell? ⟨g1+1,1,none⟩=some (.slice (some ⟨qa,qo,none⟩) n qc)/\w'.cell? ⟨oa,oo+k,none⟩=some (.slice (some ⟨ab,ao,none⟩) m ac)/\w'.cell? ⟨qa,qo+k,none⟩=some (.slice (some ⟨bb,bo,none⟩) m bc) ∧
       w'.cell? ⟨ab,ao+j*5,none⟩=some (.string ZS)/\w'.cell? ⟨bb,bo+j*5,none⟩=some (.string ZS)/\w'.rangeAt ab (ao+j*5+1) (VrX.cells ⟨y,pa⟩)/\w'.rangeAt bb (bo+j*5+1) (VrX.cells ⟨y,pb⟩) from fun w' h=>by
      have h2:=HMD.out.trans h
      have h3:=HM2.out.trans h2
      refine ⟨cell_ofA (h2.keep HB1.out (fun f=>f)) rfl,cell_ofA (h2.keep HB2.out (fun f=>f)) rfl,h3.cell H1.out (fun f=>f),h3.cell H2.out (fun f=>f),?_,?_,?_,?_⟩
      ·rw [HZS.out];exact h3.cell (R1.out 0 _ rfl) (fun f=>f)
      ·rw [HZS.out];exact h3.cell (R2.out 0 _ rfl) (fun f=>f)
      ·exact h3.rangeAt (rangeAt_part (p:=[strV sg]) (q:=VrX.cells ⟨y,pa⟩) (r:=[]) (by rw [List.append_nil];exact R1.out)) (fun f=>f)
      ·exact h3.rangeAt (rangeAt_part (p:=[strV sg]) (q:=VrX.cells ⟨y,pb⟩) (r:=[]) (by rw [List.append_nil];exact R2.out)) (fun f=>f))
     have HVE:=zh (show ∀ W,Mod No wD W->Calls prog 53 #[.agg #[.int .i64 y.ma,.int .i64 y.mi,.int .i64 y.pa,pa],.agg #[.int .i64 y.ma,.int .i64 y.mi,.int .i64 y.pa,pb]] W fun e w'=>e=.returned (.bool true)/\Mod No W w' from fun W hm=>HV0.out W (HM2.out.trans (HMD.out.trans hm)))
     have HWD:=zh hwD
     have hS0:=Mod.refl No wD
     clear hwD q1 q5
     refine wp_region_T (fun w'=>Mod No wD w') 99 (by kernel_rfl) ?_
     rw [<- HWD.out]
     refine yT 0 (some 51) ?_ hS0 ?_ ?_
     rotate_left
     ·(intro w' hSw;go_simp;try with_reducible rfl)
     simp only [Act.put,yB,yC,yD]
     refine yT 1 (some 52) (.slice (some ⟨oa,oo,none⟩) n oc) hS0 ?_ ?_
     ·(intro w' hSw;have q0:=(HSM.out w' hSw).1;go_simp;try with_reducible rfl)
     simp only [Act.put,yB,yC,yD]
     refine yT 2 (some 53) ?_ hS0 ?_ ?_
     rotate_left
     ·(intro w' hSw;go_simp;try with_reducible rfl)
     simp only [Act.put,yB,yC,yD]
     refine yT 3 (some 54) ?_ hS0 ?_ ?_
     rotate_left
     ·(intro w' hSw;go_simp;try with_reducible rfl)
     simp only [Act.put,yB,yC,yD]
     refine yT 4 (some 55) (.slice (some ⟨ab,ao,none⟩) m ac) hS0 ?_ ?_
     ·(intro w' hSw;have q0:=(HSM.out w' hSw).2.2.1;go_simp;try with_reducible rfl)
     simp only [Act.put,yB,yC,yD]
     refine yT 5 (some 56) ?_ hS0 ?_ ?_
     rotate_left
     ·(intro w' hSw;go_simp;try with_reducible rfl)
     simp only [Act.put,yB,yC,yD]
     refine yT 6 (some 57) ?_ hS0 ?_ ?_
     rotate_left
     ·(intro w' hSw;go_simp;try with_reducible rfl)
     simp only [Act.put,yB,yC,yD]
     refine yT 7 (some 58) ?_ hS0 ?_ ?_
     rotate_left
     ·(intro w' hSw;go_simp;try with_reducible rfl)
     simp only [Act.put,yB,yC,yD]
     refine yT 8 (some 59) (.string ZS) hS0 ?_ ?_
     ·(intro w' hSw;have q0:=(HSM.out w' hSw).2.2.2.2.1;go_simp;try with_reducible rfl)
     simp only [Act.put,yB,yC,yD]
     refine yT 9 (some 60) ?_ hS0 ?_ ?_
     rotate_left
     ·(intro w' hSw;go_simp;try with_reducible rfl)
     simp only [Act.put,yB,yC,yD]
     refine yT 10 (some 61) (.slice (some ⟨qa,qo,none⟩) n qc) hS0 ?_ ?_
     ·(intro w' hSw;have q0:=(HSM.out w' hSw).2.1;go_simp;try with_reducible rfl)
     simp only [Act.put,yB,yC,yD]
     refine yT 11 (some 62) ?_ hS0 ?_ ?_
     rotate_left
     ·(intro w' hSw;go_simp;try with_reducible rfl)
     simp only [Act.put,yB,yC,yD]
     refine yT 12 (some 63) ?_ hS0 ?_ ?_
     rotate_left
     ·(intro w' hSw;go_simp;try with_reducible rfl)
     simp only [Act.put,yB,yC,yD]
     refine yT 13 (some 64) (.slice (some ⟨bb,bo,none⟩) m bc) hS0 ?_ ?_
     ·(intro w' hSw;have q0:=(HSM.out w' hSw).2.2.2.1;go_simp;try with_reducible rfl)
     simp only [Act.put,yB,yC,yD]
     refine yT 14 (some 65) ?_ hS0 ?_ ?_
     rotate_left
     ·(intro w' hSw;go_simp;try with_reducible rfl)
     simp only [Act.put,yB,yC,yD]
     refine yT 15 (some 66) ?_ hS0 ?_ ?_
     rotate_left
     ·(intro w' hSw;go_simp;try with_reducible rfl)
     simp only [Act.put,yB,yC,yD]
     refine yT 16 (some 67) ?_ hS0 ?_ ?_
     rotate_left
     ·(intro w' hSw;go_simp;try with_reducible rfl)
     simp only [Act.put,yB,yC,yD]
     refine yT 17 (some 68) (.string ZS) hS0 ?_ ?_
     ·(intro w' hSw;have q0:=(HSM.out w' hSw).2.2.2.2.2.1;go_simp;try with_reducible rfl)
     simp only [Act.put,yB,yC,yD]
     refine yT 18 (some 69) ?_ hS0 ?_ ?_
     rotate_left
     ·(intro w' hSw;go_simp;try with_reducible rfl)
     simp only [Act.put,yB,yC,yD]
     refine yT 19 (some 70) ?_ hS0 ?_ ?_
     rotate_left
     ·(intro w' hSw;go_simp;try with_reducible rfl)
     simp only [Act.put,yB,yC,yD]
     refine yT 20 (some 71) ?_ hS0 ?_ ?_
     rotate_left
     ·(intro w' hSw;go_simp;try with_reducible rfl)
     simp only [Act.put,yB,yC,yD]
     refine yT 21 (some 72) (.slice (some ⟨oa,oo,none⟩) n oc) hS0 ?_ ?_
     ·(intro w' hSw;have q0:=(HSM.out w' hSw).1;go_simp;try with_reducible rfl)
     simp only [Act.put,yB,yC,yD]
     refine yT 22 (some 73) ?_ hS0 ?_ ?_
     rotate_left
     ·(intro w' hSw;go_simp;try with_reducible rfl)
     simp only [Act.put,yB,yC,yD]
     refine yT 23 (some 74) ?_ hS0 ?_ ?_
     rotate_left
     ·(intro w' hSw;go_simp;try with_reducible rfl)
     simp only [Act.put,yB,yC,yD]
     refine yT 24 (some 75) (.slice (some ⟨ab,ao,none⟩) m ac) hS0 ?_ ?_
     ·(intro w' hSw;have q0:=(HSM.out w' hSw).2.2.1;go_simp;try with_reducible rfl)
     simp only [Act.put,yB,yC,yD]
     refine yT 25 (some 76) ?_ hS0 ?_ ?_
     rotate_left
     ·(intro w' hSw;go_simp;try with_reducible rfl)
     simp only [Act.put,yB,yC,yD]
     refine yT 26 (some 77) ?_ hS0 ?_ ?_
     rotate_left
     ·(intro w' hSw;go_simp;try with_reducible rfl)
     simp only [Act.put,yB,yC,yD]
     refine yT 27 (some 78) ?_ hS0 ?_ ?_
     rotate_left
     ·(intro w' hSw;go_simp;try with_reducible rfl)
     simp only [Act.put,yB,yC,yD]
     refine yT 28 (some 79) (verV y pa) hS0 ?_ ?_
     ·(intro w' hSw;apply yloadv (run_loadVar_mid w' ab (ao+j*5+1) 40 (VrX.cells ⟨y,pa⟩) _ (HSM.out w' hSw).2.2.2.2.2.2.1 underlying40 rfl ver_info) (.tmp 78) <;> rfl)
     simp only [Act.put,yB,yC,yD]
     refine yT 29 (some 80) ?_ hS0 ?_ ?_
     rotate_left
     ·(intro w' hSw;go_simp;try with_reducible rfl)
     simp only [Act.put,yB,yC,yD]
     refine yT 30 (some 81) (.slice (some ⟨qa,qo,none⟩) n qc) hS0 ?_ ?_
     ·(intro w' hSw;have q0:=(HSM.out w' hSw).2.1;go_simp;try with_reducible rfl)
     simp only [Act.put,yB,yC,yD]
     refine yT 31 (some 82) ?_ hS0 ?_ ?_
     rotate_left
     ·(intro w' hSw;go_simp;try with_reducible rfl)
     simp only [Act.put,yB,yC,yD]
     refine yT 32 (some 83) ?_ hS0 ?_ ?_
     rotate_left
     ·(intro w' hSw;go_simp;try with_reducible rfl)
     simp only [Act.put,yB,yC,yD]
     refine yT 33 (some 84) (.slice (some ⟨bb,bo,none⟩) m bc) hS0 ?_ ?_
     ·(intro w' hSw;have q0:=(HSM.out w' hSw).2.2.2.1;go_simp;try with_reducible rfl)
     simp only [Act.put,yB,yC,yD]
     refine yT 34 (some 85) ?_ hS0 ?_ ?_
     rotate_left
     ·(intro w' hSw;go_simp;try with_reducible rfl)
     simp only [Act.put,yB,yC,yD]
     refine yT 35 (some 86) ?_ hS0 ?_ ?_
     rotate_left
     ·(intro w' hSw;go_simp;try with_reducible rfl)
     simp only [Act.put,yB,yC,yD]
     refine yT 36 (some 87) ?_ hS0 ?_ ?_
     rotate_left
     ·(intro w' hSw;go_simp;try with_reducible rfl)
     simp only [Act.put,yB,yC,yD]
     refine yT 37 (some 88) (verV y pb) hS0 ?_ ?_
     ·(intro w' hSw;apply yloadv (run_loadVar_mid w' bb (bo+j*5+1) 40 (VrX.cells ⟨y,pb⟩) _ (HSM.out w' hSw).2.2.2.2.2.2.2 underlying40 rfl ver_info) (.tmp 87) <;> rfl)
     simp only [Act.put,yB,yC,yD]
     refine wpAnyT_oneW 38 rfl (by kernel_rfl) (by rfl) ?_
     intro K hK
     unfold verV
     go_simp
     go_at_call 53
     with_reducible refine (HVE.out _ hS0).mono ?_
     rintro e wE ⟨rfl,hmE⟩
     have HME:=zh hmE
     clear hmE
     show K _ _
     have hS1:=HME.out
     refine hK.out _ _ (fun _=>hS1) ?_
     clear hK K
     refine yT 39 (some 90) ?_ hS1 ?_ ?_
     rotate_left
     ·(intro w' hSw;go_simp;try with_reducible rfl)
     simp only [Act.put,yB,yC,yD]
     refine yT 40 (some 91) ?_ hS1 ?_ ?_
     rotate_left
     ·(intro w' hSw;go_simp;try with_reducible rfl)
     simp only [Act.put]
     refine wpAnyT_done (by kernel_rfl) ?_ _
     clear hS0 hS1
     go_wp2_with fail
     exact ⟨⟨j+1,by omega,rfl,HMD.out.trans HME.out⟩,by show m - ((j:Int)+1).toNat < m - (j:Int).toNat;omega⟩
    ·obtain rfl:j=m:=by omega
     have hjm:¬ ((j:Int) < (j:Int)):=by omega
     go_wp2_with fail
     exact ⟨⟨k+1,by omega,rfl,HMJ.out⟩,by show n - ((k:Int)+1).toNat < n - (k:Int).toNat;omega⟩
  ·obtain rfl:k=n:=by omega
   have hkn:¬ ((k:Int) < (k:Int)):=by omega
   go_wp2_with fail
   exact fin hR ⟨rfl,HM2.out.trans HM.out⟩
end Go.Proofs.YtgiigemfbebcgaaGreatDoor
