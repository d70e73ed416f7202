/-
  Layers 0 to 14: helps of the laws of indexes. No statement is proved here; no condition.
-/
import Derived.Test.YtgiigemfbebcgaaGreatDoorQ13
import Derived.Test.YtgiigemfbebcgaaGreatDoorQ29
import Derived.Test.YtgiigemfbebcgaaGreatDoorQ31
import Derived.Test.YtgiigemfbebcgaaGreatDoorQ32
import Derived.Test.YtgiigemfbebcgaaGreatDoorQ34
import Derived.Test.YtgiigemfbebcgaaGreatDoorQ35
import Derived.Test.YtgiigemfbebcgaaGreatDoorQ41
import Derived.Test.YtgiigemfbebcgaaGreatDoorQ39
import Derived.Test.YtgiigemfbebcgaaGreatDoorQ23
import Derived.Great.Walk
import Derived.Great.CaseRows
namespace Go.Proofs.YtgiigemfbebcgaaGreatDoor
open _root_.Go.Proofs.Tryz
open Go.RowKit Go.Sort
theorem kr_tiny:Tiny (rowK kr0)/\Tiny (rowK kr1):=by
 obtain ⟨h1,h2,h3,h4⟩:=kr_size
 obtain ⟨n1,n2⟩:=kr_needs
 obtain ⟨v1,v2⟩:=kr_ver
 exact ⟨⟨⟨1,0,0,v1,by omega,by omega,by omega⟩,⟨(rowK kr0).size.toNat,by omega,by omega⟩,by omega⟩,⟨⟨2,0,0,v2,by omega,by omega,by omega⟩,⟨(rowK kr1).size.toNat,by omega,by omega⟩,by omega⟩⟩
set_option maxRecDepth 100000 in
set_option maxHeartbeats 16000000 in
theorem known_any (w:World) (hgl:Gl w):Calls prog 7 #[] w fun e w'=>e=.returned (.bool true)/\Mod No w w':=by
 refine calls_hide fun R hR=>?_
 have HG:=zh hgl
 clear hgl
 obtain ⟨TX,hTX⟩:∃ TX,TX=indexT [rowK kr0,rowK kr1]:=⟨_,rfl⟩
 have HTX:=zh hTX
 have HMADE:=zh (fun (W:World) (g:Nat) (hs:Sl W No 69 (.slice (some ⟨g,0,none⟩) 1 1) 1 [.int .u16 7]) (v:Value) (hv:Sl W No 72 v 2 [.int .u8 0,.int .u8 0,.slice (some ⟨g,0,none⟩) 1 1,.int .u8 0,.int .u8 0,.int .u8 0,.int .u8 2,.slice none 0 0,.int .u8 0,.int .u8 0]) =>
  show Calls prog 9 #[v] W fun e w'=>(∃ rv av,e=.returned (.tuple #[rv,av,.string ⟨TX.toArray⟩]))/\Mod No W w' from by
   have h:=made_any [⟨kr0,.slice (some ⟨g,0,none⟩) 1 1⟩,⟨kr1,.slice none 0 0⟩] (by simp) v W (fun x hx=>by
    simp only [List.mem_cons,List.not_mem_nil,or_false] at hx
    rcases hx with rfl | rfl
    ·exact ⟨.of hs,by simp [kr0],fun t ht=>by simp [kr0] at ht;omega⟩
    ·exact ⟨⟨⟨none,0,rfl⟩,.inl ⟨rfl,rfl⟩⟩,by simp [kr1],fun t ht=>by simp [kr1] at ht⟩) (fun x hx=>by
    simp only [List.mem_cons,List.not_mem_nil,or_false] at hx
    rcases hx with rfl | rfl
    ·simp [kr0]
    ·simp [kr1]) (.of (e:=72) hv)
   refine h.mono fun e w' ⟨⟨rv,av,_,_,he,_⟩,hm⟩=>⟨⟨rv,av,?_⟩,hm⟩
   rw [he,hTX]
   simp only [List.map_cons,List.map_nil]
   rw [kr_kept]
   rfl)
 have hlen:TX.length<=8000:=by
  have h:=kept_text [kr0,kr1] (by simp) (fun r hr=>by
   simp only [List.mem_cons,List.not_mem_nil,or_false] at hr
   rcases hr with rfl | rfl
   ·simp [kr0]
   ·simp [kr1])
  rw [kr_kept] at h
  rw [hTX]
  exact h
 have htold:indexL TX=.inl [rowK kr0,rowK kr1]:=by
  have h:=kept_told [kr0,kr1] (by simp) (fun r hr=>by
   simp only [List.mem_cons,List.not_mem_nil,or_false] at hr
   rcases hr with rfl | rfl
   ·simp [kr0]
   ·simp [kr1])
  rw [kr_kept] at h
  rw [hTX]
  exact h
 have HP1:=zh (fun (W:World) (hW:Gl W)=>show Calls prog 11 #[.string ⟨TX.toArray⟩] W fun e w'=>(∃ B v xs,e=.returned (.tuple #[v,.int .i64 0,.int .i64 0])/\RowsW B w' v xs/\xs.map RwX.r=[rowK kr0,rowK kr1])/\Mod No W w' from
  (ixparse_any TX (by omega) W hW).mono fun e w' ⟨h,hm⟩=>by
   unfold IxRes at h
   rw [htold] at h
   obtain ⟨B,v,xs,he,h1,h2,-⟩:=h
   exact ⟨⟨B,v,xs,he,h1,h2⟩,hm⟩)
 have HP2:=zh (fun (W:World) (hW:Gl W)=>show Calls prog 11 #[.string ⟨#[110,101,101,100,32,97,32,42,10]⟩] W fun e w'=>e=.returned (.tuple #[.slice none 0 0,.int .i64 1,.int .i64 65])/\Mod No W w' from
  (ixparse_any [110,101,101,100,32,97,32,42,10] (by simp) W hW).mono fun e w' ⟨h,hm⟩=>by
   unfold IxRes at h
   rw [kr_needline] at h
   exact ⟨h,hm⟩)
 have HLT:=zh (show (indexT [rowK kr0,rowK kr1]).length<=100000 by rw [<- hTX];omega)
 clear hTX hlen htold
 obtain ⟨ZX,hZX⟩:∃ Z:ByteArray,Z=⟨TX.toArray⟩:=⟨_,rfl⟩
 have HZX:=zh hZX
 rw [<- hZX] at HMADE HP1
 clear hZX
 go_enter func7,ntmps7
 go_wp2_with fail
 obtain ⟨g0,hg0⟩:∃ g,g=w.heap.size:=⟨_,rfl⟩
 rw [<- hg0]
 generalize hW1:World.alloc (World.alloc w _) _=W1
 have hs1:Sl W1 No 69 (.slice (some ⟨g0,0,none⟩) 1 1) 1 [.int .u16 7]:=by
  rw [<- hW1,hg0]
  exact (sl_new w 69 [.int .u16 7] (Nat.le_refl 1) (by unfold maxLen;omega)).keep (S:=No) ((Mod.refl No _).alloc _) (fun _ _ _ f=>f.elim)
 have hv1:Sl W1 No 72 (.slice (some ⟨g0+1,0,none⟩) 2 2) 2 [.int .u8 0,.int .u8 0,.slice (some ⟨g0,0,none⟩) 1 1,.int .u8 0,.int .u8 0,.int .u8 0,.int .u8 2,.slice none 0 0,.int .u8 0,.int .u8 0]:=by
  have e1:g0+1=(World.alloc w (.cells #[.int .u16 7] 69)).heap.size:=by rw [hg0];simp
  rw [<- hW1,e1]
  exact sl_new _ 72 [.int .u8 0,.int .u8 0,.slice (some ⟨g0,0,none⟩) 1 1,.int .u8 0,.int .u8 0,.int .u8 0,.int .u8 2,.slice none 0 0,.int .u8 0,.int .u8 0] (Nat.le_refl 2) (by unfold maxLen;omega)
 have HM1:=zh (show Mod No w W1 by rw [<- hW1];exact ((Mod.refl No w).alloc _).alloc _)
 have HC1:=zh (HMADE.out W1 g0 hs1 _ hv1)
 clear hW1 hs1 hv1 hg0 HMADE
 with_reducible refine HC1.out.mono ?_
 rintro e w2 ⟨⟨rv,av,rfl⟩,hm2⟩
 have HM2:=zh (HM1.out.trans hm2)
 clear hm2 HC1 HM1
 go_wp2_with fail
 with_reducible refine (HP1.out _ (HG.out.stay HM2.out (fun f=>f))).mono ?_
 rintro e w3 ⟨⟨B,lv,xs,rfl,hrows,hxs⟩,hm3⟩
 have HM3:=zh (HM2.out.trans hm3)
 obtain ⟨x0,x1,rfl⟩:∃ x y,xs=[x,y]:=by
  match xs,hxs with
  | [],h=>simp at h
  | [x],h=>simp at h
  | [x,y],_=>exact ⟨x,y,rfl⟩
  | x :: y :: z :: r,h=>simp at h
 have HXS:=zh hxs
 simp only [List.map_cons,List.map_nil,List.cons.injEq,and_true] at hxs
 have HR:=zh hrows
 obtain ⟨gl,lc,hlv,hlb⟩:=own_shape hrows.own (by simp)
 subst hlv
 simp only [List.length_cons,List.length_nil,Nat.zero_add,Nat.reduceAdd] at *
 clear hm3 HM2 hlb hrows
 go_wp2_with fail
 with_reducible refine (HP2.out _ (HG.out.stay HM3.out (fun f=>f))).mono ?_
 rintro e w4 ⟨rfl,hm4⟩
 have HM4:=zh (HM3.out.trans hm4)
 have HR4:=zh (HR.out.no hm4)
 clear hm4 HM3 HR HP1 HP2
 obtain ⟨hx0,hx1⟩:=hxs
 have HSL:=zh (show Sl w4 No 46 (.slice (some ⟨gl,0,none⟩) 2 lc) [x0,x1].length ([x0,x1].flatMap RwX.cells) from HR4.out.sl)
 have HAT:=zh (show ∀ x ∈ [x0,x1],RwAt w4 x/\Tiny x.r from fun x hx=>⟨(HR4.out.each x hx).at,by
  simp only [List.mem_cons,List.not_mem_nil,or_false] at hx
  rcases hx with rfl | rfl
  ·rw [hx0];exact kr_tiny.1
  ·rw [hx1];exact kr_tiny.2⟩)
 have hv2:x1.r.v=⟨2,0,0,[]⟩:=by rw [hx1];exact kr_ver.2
 have hok1:=(HAT.out x1 (by simp)).1.ok
 obtain ⟨pa,pc,hpv⟩:=hok1.pre.len
 rw [hv2] at hpv
 have hrg1:w4.rangeAt gl 40 [.int .i64 2,.int .i64 0,.int .i64 0,.slice pa 0 pc]:=by
  have h:=Sl.atM (fun x hx=>RwX.cells_length x (HAT.out x hx).1.ok.sum) HSL.out (i:=1) (by simp)
  have h2:=rangeAt_part (p:=[strV x1.r.name]) (q:=verCs x1.r.v x1.pv) (r:=bv x1.r.sum++[.int .i64 x1.r.size,x1.nv]) (by rw [<- row_parts];exact h)
  rw [hv2,hpv] at h2
  exact h2
 have HRG1:=zh hrg1
 have HPV:=zh (show ∀ W,Mod No w4 W->Sl W No 9 (.slice pa 0 pc) 0 [] from fun W hm=>by
  have h:=(hok1.pre.kn hm)
  rw [hv2,hpv] at h
  exact h)
 have HN0:=zh (show ∃ na nc,w4.cell? ⟨gl,38,none⟩=some (.slice na 1 nc) from by
  have h:=Sl.atM (fun x hx=>RwX.cells_length x (HAT.out x hx).1.ok.sum) HSL.out (i:=0) (by simp)
  have hok0:=(HAT.out x0 (by simp)).1
  obtain ⟨ys,h1,h2,h3⟩:=hok0.nds
  obtain ⟨na,nc,e⟩:=h3.len
  have hl1:x0.r.needs.length=1:=by rw [hx0];exact kr_needs.1
  rw [hl1] at e
  refine ⟨na,nc,?_⟩
  have hbl:(bv x0.r.sum).length=32:=by rw [bv_length,hok0.ok.sum]
  have h9:=rangeAt_part (p:=[strV x0.r.name]++verCs x0.r.v x0.pv++(bv x0.r.sum++[.int .i64 x0.r.size])) (q:=[x0.nv]) (r:=[]) (w:=w4) (b:=gl) (o:=0) (by
   rw [List.append_nil]
   have e9:[strV x0.r.name]++verCs x0.r.v x0.pv++(bv x0.r.sum++[.int .i64 x0.r.size])++[x0.nv]=RwX.cells x0:=by rw [row_parts];simp
   rw [e9]
   exact h) 0 _ rfl
  simp only [List.length_cons,List.length_append,hbl,verCs,List.length_nil] at h9
  rw [<- e]
  exact h9)
 have hmap:[x0,x1].map RwX.r=[rowK kr0,rowK kr1]:=HXS.out
 have HFD:=zh (fun (W:World) (hm:Mod No w4 W)=>show Calls prog 15 #[.slice (some ⟨gl,0,none⟩) 2 lc,.string ⟨#[97]⟩,.agg #[.int .i64 2,.int .i64 0,.int .i64 0,.slice pa 0 pc]] W fun e w'=>(∃ cs:List Value,e=.returned (.tuple #[.agg cs.toArray,.bool true])/\cs.length=39/\cs.toArray.all (·.oneCell')=true/\cs[1]? = some (.int .i64 2))/\Mod No W w' from
  (find_any [x0,x1] (by simp) nameA ⟨2,0,0,[]⟩ (.slice pa 0 pc) (.slice (some ⟨gl,0,none⟩) 2 lc) W (fun x hx=>(HAT.out x hx).1.keep hm (Apart.no _ _)) ⟨by simp,by simp⟩ (HPV.out W hm) (HSL.out.kn hm)).mono fun e w' ⟨h,hm2⟩=>by
   unfold FindRes at h
   rw [hmap,kr_at] at h
   obtain ⟨x,h1,h2,he⟩:=h
   have hxr:x.r=rowK kr1:=(Option.some.inj h1).symm
   refine ⟨⟨RwX.cells x,he,RwX.cells_length x h2.ok.sum,rows_one h2.ok,?_⟩,hm2⟩
   show some (Value.int .i64 x.r.v.ma)=_
   rw [hxr,kr_ver.2])
 have HVS:=zh (fun (W:World) (hm:Mod No w4 W)=>show Calls prog 22 #[.slice (some ⟨gl,0,none⟩) 2 lc,.string ⟨#[97]⟩] W fun e w'=>(∃ g o c,e=.returned (.slice (some ⟨g,o,none⟩) 2 c)/\w'.cell? ⟨g,o,none⟩=some (.int .i64 2))/\Mod No W w' from
  (versions_any [x0,x1] (by simp) nameA (.slice (some ⟨gl,0,none⟩) 2 lc) W (fun x hx=>(HAT.out x hx).1.keep hm (Apart.no _ _)) (HSL.out.kn hm)).mono fun e w' ⟨v,he,hv,hm2⟩=>by
   have hvv:=kr_vers hmap
   obtain ⟨z0,z1,hz⟩:∃ z0 z1,sortR ltVx (versOf nameA [x0,x1])=[z0,z1]:=by
    revert hvv
    generalize sortR ltVx (versOf nameA [x0,x1])=zs
    intro hvv
    match zs,hvv with
    | [],h=>simp at h
    | [x],h=>simp at h
    | [x,y],_=>exact ⟨x,y,rfl⟩
    | x :: y :: z :: r,h=>simp at h
   rw [hz] at hv hvv
   simp only [List.map_cons,List.map_nil,List.cons.injEq,and_true] at hvv
   obtain ⟨b,o,c,e1,-,-,-⟩:=hv.sl.shape (by simp)
   subst e1
   refine ⟨⟨b,o,c,he,?_⟩,hm2⟩
   have h9:=Sl.at VrX.cells_length hv.sl (i:=0) (by simp) 0 (.int .i64 z0.v.ma) rfl
   rw [hvv.1] at h9
   simpa using h9)
 have HTT:=zh (fun (W:World) (hm:Mod No w4 W)=>show Calls prog 32 #[.slice (some ⟨gl,0,none⟩) 2 lc] W fun e w'=>e=.returned (.string ZX)/\Mod No W w' from by
  have h:=text_any [x0,x1] (by simp) (.slice (some ⟨gl,0,none⟩) 2 lc) W (fun x hx=>⟨(HAT.out x hx).1.keep hm (Apart.no _ _),(HAT.out x hx).2⟩) (HSL.out.kn hm) (by rw [hmap];exact HLT.out)
  rw [hmap,<- HTX.out] at h
  unfold strV at h
  rw [<- HZX.out] at h
  exact h)
 have HNN:=zh (fun (W:World) (hm:Mod No w4 W)=>show Calls prog 19 #[.slice (some ⟨gl,0,none⟩) 2 lc] W fun e w'=>(∃ v,e=.returned v/\Sl w' No 9 v 1 (strs [nameA]))/\Mod No W w' from
  (names_any [x0,x1] (by simp) (.slice (some ⟨gl,0,none⟩) 2 lc) W (fun x hx=>(HAT.out x hx).1.keep hm (Apart.no _ _)) (HSL.out.kn hm)).mono fun e w' ⟨v,out,he,h1,h2,h3,h4⟩=>by
   have ho:out=[nameA]:=kr_names h2 (fun y=>by
    rw [h3 y,<- hmap]
    simp)
   subst ho
   exact ⟨⟨v,he,h1⟩,h4⟩)
 have HSE:=zh (fun (v u:Value) (W:World) (h1:Sl W No 9 v 1 (strs [nameA])) (h2:Sl W No 9 u 1 (strs [nameA]))=>strings_eq [nameA] v u W h1 h2)
 clear hrg1 hok1 hv2 hpv
 go_wp2_with (refine wpList_load_mid rfl 40 _ rfl gl 40 rfl [.int .i64 2,.int .i64 0,.int .i64 0,.slice pa 0 pc] _ HRG1.out underlying40 rfl ver_info ?_)
 with_reducible refine (HFD.out w4 (Mod.refl _ _)).mono ?_
 rintro e w5 ⟨⟨ds,rfl,hd1,hd2,hd3⟩,hm5⟩
 have HM5:=zh hm5
 have HD1:=zh hd1
 have HD2:=zh hd2
 have HD3:=zh hd3
 clear hm5 hd1 hd2 hd3 HFD HRG1
 go_upto_region 7 with (refine wpList_store_row rfl 46 _ _ rfl w5.heap.size ds.toArray rfl rfl 46 _ (heap_alloc_new w5 _) (by rw [List.size_toArray,HD1.out];exact row_info) (by show _=ds.length;rw [HD1.out];rfl) HD2.out ?_)
 obtain ⟨gt,hgt⟩:∃ g,g=w5.heap.size:=⟨_,rfl⟩
 rw [<- hgt]
 generalize hw6:World.setRow _ gt ds.toArray=w6
 have HM6:=zh (show Mod No w4 w6 by rw [<- hw6,hgt];exact HM5.out.trans (((Mod.refl No w5).alloc _).setRow (fun h=>absurd h (by omega)) _))
 have hgb:w6.heap[gt]? = some (.cells ds.toArray 46 (0,0)):=by rw [<- hw6,hgt];exact setRow_heap _ _ _ _ _ _ (heap_alloc_new w5 _)
 have HGB:=zh hgb
 clear hw6 hgt hgb HM5 HD2
 go_wp2_with fail
 with_reducible refine (HVS.out w6 HM6.out).mono ?_
 rintro e w7 ⟨⟨gv,ov,cv,rfl,hcv⟩,hm7⟩
 have HM7:=zh (HM6.out.trans hm7)
 have HCV:=zh hcv
 have c1:=cell_ofA (hm7.keep HGB.out (fun f=>f)) (i:=1) (v:=.int .i64 2) (by rw [List.getElem?_toArray];exact HD3.out)
 obtain ⟨nn,nnc,hn0⟩:=HN0.out
 have c38:=HM7.out.cell hn0 (fun f=>f)
 have hzz:(ZX.toList == ZX.toList)=true:=by simp
 clear hcv hm7 HVS hn0 HN0
 go_wp2_with fail
 with_reducible refine (HTT.out w7 HM7.out).mono ?_
 rintro e w8 ⟨rfl,hm8⟩
 have HM8:=zh hm8
 clear hm8 HTT c1 c38
 go_wp2_with fail
 with_reducible refine (HNN.out w8 (HM7.out.trans HM8.out)).mono ?_
 rintro e w9 ⟨⟨nv,rfl,hnv⟩,hm9⟩
 obtain ⟨va,vc,hvv⟩:=hnv.len
 subst hvv
 have HNV:=zh hnv
 have HM9:=zh (HM8.out.trans hm9)
 clear hm9 HNN hnv HM8
 go_wp2_with fail
 have hA:Sl (w9.alloc (.cells #[.string ⟨#[97]⟩] 9)) No 9 (.slice va 1 vc) 1 (strs [nameA]):=HNV.out.keep (S:=No) ((Mod.refl No w9).alloc _) (fun _ _ _ f=>f.elim)
 have hB:Sl (w9.alloc (.cells #[.string ⟨#[97]⟩] 9)) No 9 (.slice (some ⟨w9.heap.size,0,none⟩) 1 1) 1 (strs [nameA]):=sl_new w9 9 (strs [nameA]) (Nat.le_refl 1) (by unfold maxLen;omega)
 have HSE2:=zh (HSE.out _ _ _ hA hB)
 clear hA hB HSE
 with_reducible refine HSE2.out.mono ?_
 rintro e w10 ⟨rfl,hm10⟩
 have HM10:=zh (show Mod No w7 w10 from (HM9.out.alloc _).trans hm10)
 have ccv:=HM10.out.cell HCV.out (fun f=>f)
 have HMF:=zh (HM4.out.trans (HM7.out.trans HM10.out))
 clear hm10 HSE2 HNV HM9 HCV HM10
 go_wp2_with fail
 exact fin hR ⟨rfl,HMF.out⟩
end Go.Proofs.YtgiigemfbebcgaaGreatDoor
namespace Go.Proofs.YtgiigemfbebcgaaGreatDoor
open _root_.Go.Proofs.Tryz
open Go.RowKit
noncomputable def wayI21:Code:=(wayAt 21 bodyI).getD .skip
def WantR (B:Nat) (st:List Rw) (s:List UInt8) (w':World) (v':Value) (ok:Bool):Prop:=if ok then ∃ xs',wantL st s=some (xs'.map RwX.r)/\RowsR B w' v' xs'/\xs'.length<=200 else wantL st s=none
theorem wantL_snoc {zs:List Rw} {r:Rw} {s:List UInt8} {n:Nd} (h:needL s=some n):wantL (zs++[r]) s=if n.name=r.name\/n.name ∈ r.needs.map Nd.name\/20<=r.needs.length then none else some (zs++[{ r with needs:=insR (ltNd n) n r.needs }]):=by
 unfold wantL
 rw [List.getLast?_concat]
 dsimp only
 rw [h,List.dropLast_concat]
 rfl
theorem wantL_no {st:List Rw} {s:List UInt8} (h:needL s=none):wantL st s=none:=by
 unfold wantL
 rw [h]
 cases st.getLast? <;> rfl
theorem put_u {w w':World} {ys:List NdX} {n:Nd} {oa:Option Addr} {om oc:Nat} {v:Value} {e:Ending} {nds:List Nd} (hm:Mod No w w') (hn:OrsAt w (.slice oa om oc) n.span.ors) (hys:∀ y ∈ ys,OrsAt w y.ov y.n.span.ors) (hy:ys.map NdX.n=nds) (hr:Rises Nd.name nds)
  (hv:∃ a m c,v=.slice a m c) (h:PutRes w w' ys ⟨n,oa,om,oc⟩ v e):∃ (v':Value) (ok:Bool),e=.returned (.tuple #[v',.bool ok])/\(∃ a m c,v'=.slice a m c) ∧
   (if ok then n.name ∉ nds.map Nd.name/\NdsAt w' v' (insR (ltNd n) n nds)/\Rises Nd.name (insR (ltNd n) n nds) else n.name ∈ nds.map Nd.name):=by
 have hnm:ys.map (·.n.name)=nds.map Nd.name:=by rw [<- hy,List.map_map];rfl
 unfold PutRes at h
 by_cases hin:n.name ∈ nds.map Nd.name
 ·rw [if_pos (by rw [hnm];exact hin)] at h
  exact ⟨v,false,h,hv,hin⟩
 ·rw [if_neg (by rw [hnm];exact hin)] at h
  obtain ⟨v',h1,h2⟩:=h
  have hmap:(insR (fun y=>decide (n.name < y.n.name)) (⟨n,.slice oa om oc⟩:NdX) ys).map NdX.n=insR (ltNd n) n nds:=by
   rw [<- hy]
   exact insR_map NdX.n (ltNd n) ⟨n,.slice oa om oc⟩ ys
  refine ⟨v',true,h1,by obtain ⟨a,c,e⟩:=own_len h2;exact ⟨_,_,_,e⟩,hin,⟨_,hmap,fun y hyy=>?_,?_⟩,insR_rises hr hin⟩
  ·rcases (insR_mem _ _ _ _).1 hyy with rfl | hyy
   ·exact hn.keep hm (Apart.no _ _)
   ·exact (hys y hyy).keep hm (Apart.no _ _)
  ·rw [insR_length,<- hy,List.length_map]
   exact Sl.of_own h2 (fun _ _ f=>f)
set_option maxRecDepth 100000 in
set_option maxHeartbeats 16000000 in
theorem want_part (z0 z1 z21 z22 z23 z24 z25 z182:Value) (B:Nat) (zs:List RwX) (x:RwX) (g m rc:Nat) (k lb lo ln lc:Nat) (L:List UInt8) (a:Act) (w:World) (hxs:zs.length+1<=200) (hm:m=zs.length) (hB:B<=g) (hr:RowsR B w (.slice (some ⟨g,0,none⟩) (m+1) rc) (zs++[x]))
  (hL:L.length<=100000) (h5:5<=L.length) (hk:k < ln) (hcell:w.cell? ⟨lb,lo+k,none⟩=some (strV L))
  (hF:Fr 183 [(5,.slice (some ⟨g,0,none⟩) (m+1) rc),(6,.slice (some ⟨lb,lo,none⟩) ln lc),(7,.int .i64 (k:Int)),(8,.bool false),(0,z0),(1,z1),(21,z21),(22,z22),(23,z23),(24,z24),(25,z25),(182,z182)] a) :
  Code.wp prog wayI21 (Exit.then (fun a' w'=>∃ ok:Bool,Fr 183 [(5,.slice (some ⟨g,0,none⟩) (m+1) rc),(6,.slice (some ⟨lb,lo,none⟩) ln lc),(7,.int .i64 (k:Int)),(8,.bool ok),(0,z0),(1,z1),(21,z21),(22,z22),(23,z23),(24,z24),(25,z25),(182,z182)] a'/\WantR B (zs.map RwX.r++[x.r]) (L.drop 5) w' (.slice (some ⟨g,0,none⟩) (m+1) rc) ok/\Mod (fun q=>B<=q) w w') Nope) a w:=by
 refine wp_part fun J K' hJ hK=>?_
 have HJ:=zh hJ
 clear hJ
 obtain ⟨ts,ds⟩:=a
 obtain ⟨hsz,hds,hs5,hs6,hs7,hs8,hs0,hs1,hs21,hs22,hs23,hs24,hs25,hs182,-⟩:=hF
 dsimp only at hsz hds hs5 hs6 hs7 hs8 hs0 hs1 hs21 hs22 hs23 hs24 hs25 hs182
 subst hds
 obtain ⟨c,rfl,hc⟩:=lit183 ts hsz
 rw [hc] at hs5
 rw [hc] at hs6
 rw [hc] at hs7
 rw [hc] at hs8
 rw [hc] at hs0
 rw [hc] at hs1
 rw [hc] at hs21
 rw [hc] at hs22
 rw [hc] at hs23
 rw [hc] at hs24
 rw [hc] at hs25
 rw [hc] at hs182
 simp only [hs5,hs6,hs7,hs8,hs0,hs1,hs21,hs22,hs23,hs24,hs25,hs182]
 clear hc hsz hs5 hs6 hs7 hs8 hs0 hs1 hs21 hs22 hs23 hs24 hs25 hs182
 have HR:=zh hr
 have HGB:=zh hB
 have HML:=zh (show zs.length=m from hm.symm)
 have HND:=zh (refneed_any (L.drop 5) (by rw [List.length_drop];omega))
 have hext:=str_from L 5
 have hZs:((⟨L.toArray⟩:ByteArray).size:Int)=(L.length:Int):=by rw [str_len3]
 have h5i:(5:Int)<=(L.length:Int):=by omega
 have hk1:(k:Int) < (ln:Int):=by omega
 have hk0:(0:Int)<=(k:Int):=Int.natCast_nonneg _
 have hm200:m+1<=200:=by omega
 have HX:=zh (hr.each x (by simp))
 have HRG:=zh (show w.rangeAt g (m*39) (RwX.cells x) from by
  have h9:=hr.sl
  rw [show (zs++[x]).length=m+1 by simp [hm]] at h9
  have h8:=Sl.atM (fun y hy=>RwX.cells_length y (hr.each y hy).at_.ok.sum) h9 (i:=m) (by simp [hm])
  rw [Nat.zero_add,show (zs++[x])[m]'(by simp [hm])=x by rw [List.getElem_append_right (by omega)];simp] at h8
  exact h8)
 obtain ⟨cur,hcur⟩:=own_heapM hr.own (k:=g) rfl
 have HCUR:=zh hcur
 have HG8:=zh (lt_of_heap hcur)
 unfold strV at *
 generalize (⟨L.toArray⟩:ByteArray)=ZL at *
 generalize (⟨(L.drop 5).toArray⟩:ByteArray)=ZD at *
 clear hr hB hcur hm
 conv=>arg 2;whnf
 go_wp2_with fail
 with_reducible refine (HND.out _).mono ?_
 rintro e w2 ⟨hnr,hm2⟩
 have HM2:=zh hm2
 unfold NeedRes at hnr
 cases hn:needL (L.drop 5) with
 | none =>
  rw [hn] at hnr
  obtain ⟨s1,b1,oa,om,oc,s2,rfl⟩:=hnr
  have HW:=zh (show wantL (zs.map RwX.r++[x.r]) (L.drop 5)=none from wantL_no hn)
  clear hn hm2 hcell hext
  go_upto_region 23 with fail
  go_quiet (fail)
  generalize hw3:World.drewN _ _=w3
  have HM3:=zh (show Mod No w w3 by rw [<- hw3];exact (HM2.out.alloc _).drewN _)
  clear hw3
  go_wp2_with fail
  exact Met.intro (HJ.out _ _ ⟨false,⟨rfl,rfl,rfl,rfl,rfl,rfl,rfl,rfl,rfl,rfl,rfl,rfl,rfl,rfl,trivial⟩,HW.out,HM3.out.weaken (fun _ _ f=>f.elim)⟩)
 | some n =>
  rw [hn] at hnr
  obtain ⟨oa,om,oc,rfl,hor⟩:=hnr
  have HWL:=zh (wantL_snoc (zs:=zs.map RwX.r) (r:=x.r) hn)
  obtain ⟨ys,hy1,hy2,hy3⟩:=HX.out.at_.nds
  obtain ⟨na,nc,hnv⟩:=hy3.len
  have hl20:=HX.out.few
  have hyl:ys.length=x.r.needs.length:=by rw [<- hy1,List.length_map]
  have HRI:=zh HX.out.rises
  have HRIX:=zh (show Rises (fun y:NdX=>y.n.name) ys from by
   have h9:=HX.out.rises
   rw [<- hy1] at h9
   unfold Rises at h9 ⊢
   rw [List.pairwise_map] at h9
   exact h9)
  have HYM:=zh hy1
  have HY2:=zh hy2
  have HOV:=zh (show ∀ y ∈ ys,∃ oa om oc,y.ov=.slice oa om oc from fun y hy=>by
   obtain ⟨us,-,-,h3⟩:=hy2 y hy
   obtain ⟨a1,a2,h4⟩:=h3.len
   exact ⟨_,_,_,h4⟩)
  have HY3:=zh (show Sl w No 81 (.slice na x.r.needs.length nc) ys.length (ys.flatMap NdX.cells) by rw [hyl,<- hnv];exact hy3)
  have HSL:=zh HX.out.at_.ok.sum
  have h0:=HRG.out 0 (strV x.r.name) rfl
  have h38:=HRG.out 38 x.nv (rows_get38' HSL.out)
  rw [Nat.add_zero] at h0
  rw [hnv] at h38
  have HC0:=zh h0
  have HC38:=zh h38
  have HOR:=zh hor
  have HPUX:=zh (show ∀ W,Mod No w W->Calls prog 49 #[.slice na x.r.needs.length nc,.agg #[strV n.name,.bool n.span.any,.slice oa om oc,strV n.text]] W fun e w'=>PutRes W w' ys ⟨n,oa,om,oc⟩ (.slice na x.r.needs.length nc) e/\Mod No W w' from fun W hW =>
   put_any ys (by omega) ⟨n,oa,om,oc⟩ (.slice na x.r.needs.length nc) W (HY3.out.kn hW) HOV.out HRIX.out)
  clear hn hm2 hcell hext hy1 hy2 hy3 hnv hor h0 h38 HRG HX
  have hTx:=str_list x.r.name
  have hTn:=str_list n.name
  unfold strV at *
  generalize (⟨x.r.name.toArray⟩:ByteArray)=X at *
  generalize (⟨n.name.toArray⟩:ByteArray)=A at *
  generalize (⟨n.text.toArray⟩:ByteArray)=T at *
  go_upto_region 23 with fail
  obtain ⟨nb,hnb⟩:∃ g,g=w2.heap.size:=⟨_,rfl⟩
  rw [<- hnb]
  generalize hw2a:World.alloc w2 _=w2a
  have hm2a:Mod No w w2a:=by rw [<- hw2a];exact HM2.out.alloc _
  have HM2a:=zh hm2a
  have HN2:=zh (show w2a.heap[nb]? = some (.cells #[.string A,.bool n.span.any,.slice oa om oc,.string T] 81 (0,0)) by rw [<- hw2a,hnb];exact heap_alloc_new w2 _)
  have HNG:=zh (show nb ≠ g by have h1:=HG8.out;have h2:=HM2.out.size;omega)
  have HORA:=zh (show OrsAt w2a (.slice oa om oc) n.span.ors by rw [<- hw2a];exact OrsAt.keep HOR.out ((Mod.refl No w2).alloc _) (Apart.no _ _))
  have cA:=cell_ofA HN2.out (i:=0) rfl
  have cX:=hm2a.cell HC0.out (fun f=>f)
  have cN:=hm2a.cell HC38.out (fun f=>f)
  obtain ⟨nl,hnl⟩:∃ nl,nl=x.r.needs.length:=⟨_,rfl⟩
  have HNL:=zh hnl
  rw [<- hnl] at cN hl20
  clear hw2a hm2a hnb
  by_cases hnm:n.name=x.r.name
  ·have hne:(A.toList == X.toList)=true:=by rw [hTn,hTx,hnm];simp
   have HW:=zh (show wantL (zs.map RwX.r++[x.r]) (L.drop 5)=none by rw [HWL.out];exact if_pos (.inl hnm))
   clear hTn hTx hnl
   go_quiet (fail)
   generalize hw3:World.drewN _ _=w3
   have HM3:=zh (show Mod No w w3 by rw [<- hw3];exact HM2a.out.drewN _)
   clear hw3
   go_wp2_with fail
   exact Met.intro (HJ.out _ _ ⟨false,⟨rfl,rfl,rfl,rfl,rfl,rfl,rfl,rfl,rfl,rfl,rfl,rfl,rfl,rfl,trivial⟩,HW.out,HM3.out.weaken (fun _ _ f=>f.elim)⟩)
  ·have hne:(A.toList == X.toList)=false:=by rw [hTn,hTx];simpa using hnm
   by_cases hlt:nl < 20
   ·have hd1:decide (nl < 20)=true:=decide_eq_true hlt
    have hd2:decide ((nl:Int) < 20)=true:=decide_eq_true (by omega)
    have HNM:=zh hnm
    have HPU0:=HPUX
    clear hTn hTx hnl hnm HPUX
    go_quiet (fail)
    generalize hw3:World.drewN _ _=w3
    have HM3:=zh (show Mod No w2a w3 by rw [<- hw3];exact (Mod.refl No _).drewN _)
    clear hw3 cA cX cN hne hd1 hd2
    go_upto_region 24 with fail
    obtain ⟨wD,hwD⟩:∃ y,y=w3.drew:=⟨_,rfl⟩
    have hmD:Mod No w2a wD:=by rw [hwD];exact HM3.out.drew
    have hmD2:=HM2a.out.trans hmD
    have HMD:=zh hmD2
    have HQ38:=zh (show wD.cell? ⟨g,m*39+38,none⟩=some (.slice na nl nc) by rw [HNL.out];exact hmD2.cell HC38.out (fun f=>f))
    have HC38W:=zh (show ∀ W,Mod No wD W->∃ cz,W.cell? ⟨g,m*39+38,none⟩=some cz/\W.frozen? ⟨g,m*39+38,none⟩=false from fun W hW=>⟨_,hW.cell HQ38.out (fun f=>f),frozen_of _ ((hmD2.trans hW).keep HCUR.out (fun f=>f))⟩)
    have HORD:=zh (OrsAt.keep HORA.out hmD (Apart.no _ _))
    have HYD:=zh (show ∀ y ∈ ys,OrsAt wD y.ov y.n.span.ors from fun y hy=>(HY2.out y hy).keep hmD2 (Apart.no _ _))
    have HRD:=zh (HR.out.no hmD2)
    have HPU:=zh (HPU0.out wD hmD2)
    rw [<- HNL.out] at HPU
    have hS0:=hmD.keep HN2.out (fun f=>f)
    have HWD:=zh hwD
    clear hwD hmD hmD2
    refine wp_region_T (fun w'=>w'.heap[nb]? = some (.cells #[.string A,.bool n.span.any,.slice oa om oc,.string T] 81 (0,0))) 99 (by kernel_rfl) ?_
    rw [<- HWD.out]
    refine yT 0 (some 167) ?_ hS0 ?_ ?_
    rotate_left
    ·(intro w' hSw;go_simp;try with_reducible rfl)
    simp only [Act.put,yB,yC,yD]
    refine yT 1 (some 168) ?_ hS0 ?_ ?_
    rotate_left
    ·(intro w' hSw;go_simp;try with_reducible rfl)
    simp only [Act.put,yB,yC,yD]
    refine yT 2 (some 169) ?_ hS0 ?_ ?_
    rotate_left
    ·(intro w' hSw;go_simp;try with_reducible rfl)
    simp only [Act.put,yB,yC,yD]
    refine yT 3 (some 170) ?_ hS0 ?_ ?_
    rotate_left
    ·(intro w' hSw;go_simp;try with_reducible rfl)
    simp only [Act.put,yB,yC,yD]
    refine yT 5 (some 172) (.agg #[.string A,.bool n.span.any,.slice oa om oc,.string T]) hS0 ?_ ?_
    ·(intro w' hSw;apply yloadv (load_nd hSw) (.tmp 19) <;> rfl)
    simp only [Act.put,yB,yC,yD]
    refine wpAnyT_one 4 rfl (by kernel_rfl) rfl ?_
    intro K hK
    have q0:=HQ38.out
    go_simp
    show K _ _
    have hS1:=hS0
    refine hK.out _ _ (fun _=>hS1) ?_
    clear hK K
    refine wpAnyT_one 6 rfl (by kernel_rfl) rfl ?_
    intro K hK
    go_simp
    go_at_call 49
    with_reducible refine HPU.out.mono ?_
    rintro e wE ⟨hpr,hmE⟩
    obtain ⟨v6,ok6,rfl,⟨s6a,s6n,s6c,hv6⟩,hp6⟩:=put_u hmE HORD.out HYD.out HYM.out HRI.out ⟨_,_,_,rfl⟩ hpr
    subst hv6
    have HP6:=zh hp6
    have HME:=zh hmE
    have HNE:=zh (hmE.keep hS1 (fun f=>f))
    have HRE:=zh (HRD.out.no hmE)
    clear hpr hp6 hmE
    show K _ _
    have hS2:=HNE.out
    refine hK.out _ _ (fun _=>hS2) ?_
    clear hK K
    refine yT 7 (some 166) ?_ hS2 ?_ ?_
    rotate_left
    ·(intro w' hSw;go_simp;try with_reducible rfl)
    simp only [Act.put,yB,yC,yD]
    refine yT 8 (some 174) ?_ hS2 ?_ ?_
    rotate_left
    ·(intro w' hSw;go_simp;try with_reducible rfl)
    simp only [Act.put,yB,yC,yD]
    refine yT 9 (some 175) ?_ hS2 ?_ ?_
    rotate_left
    ·(intro w' hSw;go_simp;try with_reducible rfl)
    simp only [Act.put,yB,yC,yD]
    refine yT 10 (some 176) ?_ hS2 ?_ ?_
    rotate_left
    ·(intro w' hSw;go_simp;try with_reducible rfl)
    simp only [Act.put,yB,yC,yD]
    refine yT 11 (some 177) ?_ hS2 ?_ ?_
    rotate_left
    ·(intro w' hSw;go_simp;try with_reducible rfl)
    simp only [Act.put,yB,yC,yD]
    refine wpAnyT_one 12 rfl (by kernel_rfl) rfl ?_
    intro K hK
    obtain ⟨cz,hcz,hfz⟩:=HC38W.out wE HME.out
    go_simp
    show K _ _
    have hS3:=(show (wE.setCell ⟨g,m*39+38,none⟩ (.slice s6a s6n s6c)).heap[nb]? = some (.cells #[.string A,.bool n.span.any,.slice oa om oc,.string T] 81 (0,0)) by rw [heap_setCell_ne _ (by dsimp only;exact HNG.out)];exact HNE.out)
    refine hK.out _ _ (fun _=>hS3) ?_
    clear hK K
    refine yT 13 (some 8) ?_ hS3 ?_ ?_
    rotate_left
    ·(intro w' hSw;go_simp;try with_reducible rfl)
    simp only [Act.put]
    refine wpAnyT_done (by kernel_rfl) ?_ _
    clear hS0 hS1 hS2
    cases ok6 with
    | false =>
     have HW:=zh (show wantL (zs.map RwX.r++[x.r]) (L.drop 5)=none by rw [HWL.out];exact if_pos (.inr (.inl (HP6.out)))) 
     have HM:=zh (show Mod (fun q=>B<=q) w (wE.setCell ⟨g,m*39+38,none⟩ (.slice s6a s6n s6c)) from ((HMD.out.trans HME.out).weaken (fun _ _ f=>f.elim)).setCell (fun _=>HGB.out) _)
     go_wp2_with fail
     exact Met.intro (HJ.out _ _ ⟨false,⟨rfl,rfl,rfl,rfl,rfl,rfl,rfl,rfl,rfl,rfl,rfl,rfl,rfl,rfl,trivial⟩,HW.out,HM.out⟩)
    | true =>
     obtain ⟨hp1,hp2,hp3⟩:=HP6.out
     have HWX:=zh (RowsR.want (ns:=insR (ltNd n) n x.r.needs) (show RowsR B wE (.slice (some ⟨g,0,none⟩) (zs.length+1) rc) (zs++[x]) by rw [HML.out];exact HRE.out) hp2 (by rw [insR_length];have h1:=HNL.out;omega) hp3)
     have HW:=zh (show wantL (zs.map RwX.r++[x.r]) (L.drop 5)=some (zs.map RwX.r++[{ x.r with needs:=insR (ltNd n) n x.r.needs }]) by rw [HWL.out];exact if_neg (fun h=>h.elim HNM.out (fun h=>h.elim hp1 (fun h=>by have h1:=HNL.out;omega))))
     clear hp1 hp2 hp3
     go_wp2_with fail
     refine Met.intro (HJ.out _ _ ⟨true,⟨rfl,rfl,rfl,rfl,rfl,rfl,rfl,rfl,rfl,rfl,rfl,rfl,rfl,rfl,trivial⟩,⟨zs++[⟨{ x.r with needs:=insR (ltNd n) n x.r.needs },x.pv,.slice s6a s6n s6c⟩],by rw [HW.out];simp,?_,by simp;omega⟩,?_⟩)
     ·have h9:=HWX.out.2.1
      rw [HML.out] at h9
      exact h9
     ·have h9:=HWX.out.2.2
      rw [HML.out] at h9
      exact ((HMD.out.trans HME.out).weaken (fun _ _ f=>f.elim)).trans h9
   ·have hd1:decide (nl < 20)=false:=decide_eq_false hlt
    have hd2:decide ((nl:Int) < 20)=false:=decide_eq_false (by omega)
    have HW:=zh (show wantL (zs.map RwX.r++[x.r]) (L.drop 5)=none by rw [HWL.out];exact if_pos (.inr (.inr (by omega))))
    clear hTn hTx hnl
    go_quiet (fail)
    generalize hw3:World.drewN _ _=w3
    have HM3:=zh (show Mod No w w3 by rw [<- hw3];exact HM2a.out.drewN _)
    clear hw3
    go_wp2_with fail
    exact Met.intro (HJ.out _ _ ⟨false,⟨rfl,rfl,rfl,rfl,rfl,rfl,rfl,rfl,rfl,rfl,rfl,rfl,rfl,rfl,trivial⟩,HW.out,HM3.out.weaken (fun _ _ f=>f.elim)⟩)
def IxRef (w':World) (s:List UInt8) (e:Ending):Prop:=match indexL s with
 | .inr i=>e=.returned (.tuple #[.slice none 0 0,.int .i64 i,.int .i64 65])
 | .inl st=>∃ B v xs,e=.returned (.tuple #[v,.int .i64 0,.int .i64 0])/\RowsR B w' v xs/\xs.map RwX.r=st/\xs.length<=200
theorem take_le {p L:List UInt8} (h:L.take p.length=p):p.length<=L.length:=by
 have:=congrArg List.length h
 rw [List.length_take] at this
 omega
set_option maxRecDepth 100000 in
set_option maxHeartbeats 16000000 in
theorem ixof_any (s:List UInt8) (hl:s.length<=100000) (w:World) :
  Calls prog 12 #[strV s] w fun e w'=>IxRef w' s e/\Mod No w w':=by
 refine calls_hide fun R hR=>?_
 have HZ:=zh (str_len3 s)
 have HLN:=zh (fun w=>reflines_any s (by omega) w)
 have HIX:=zh (show indexL s=if 65536 < s.length then .inr 0 else goL [] 0 (linesL s) from rfl)
 unfold strV at HZ HLN ⊢
 generalize (⟨s.toArray⟩:ByteArray)=Z at *
 have hZs:(Z.size:Int)=(s.length:Int):=by rw [HZ.out]
 go_enter func12,ntmps12
 by_cases hbig:65536 < s.length
 ·have hgt:(65536:Int) < (s.length:Int):=by omega
  have HE:=zh (show ∀ w',IxRef w' s (.returned (.tuple #[.slice none 0 0,.int .i64 0,.int .i64 65])) from fun w'=>by unfold IxRef;rw [HIX.out,if_pos hbig];rfl)
  go_wp2_with fail
  exact bodyPost_ret (v:=.tuple #[.slice none 0 0,.int .i64 0,.int .i64 65]) (by simp [results,results12]) rfl (fin hR ⟨HE.out _,Mod.refl _ _⟩)
 ·rw [if_neg hbig] at HIX
  have hgt:¬ ((65536:Int) < (s.length:Int)):=by omega
  go_wp2_with fail
  with_reducible refine (HLN.out _).mono ?_
  rintro e w2 ⟨lv,rfl,hsl,hm2⟩
  have HM2:=zh hm2
  have HSL:=zh hsl
  have hll:=lines_len s
  have HLE:=zh (fun l (h:l ∈ linesL s)=>lines_le h)
  clear hm2 hsl HLN hbig
  generalize linesL s=ls at *
  obtain ⟨n,hn⟩:∃ n,n=ls.length:=⟨_,rfl⟩
  obtain ⟨la,lc,hlv⟩:=HSL.out.len
  rw [<- hn] at hlv hll
  subst hlv
  have HN:=zh hn
  have HSL2:=zh (show Sl w2 No 9 (.slice la n lc) n (strs ls) by have h:=HSL.out;rw [<- hn] at h;exact h)
  clear hn HSL
  obtain ⟨B,hB⟩:∃ B,B=w2.heap.size:=⟨_,rfl⟩
  have HB:=zh hB
  have HBW:=zh (show w.heap.size<=B by rw [hB];exact HM2.out.size)
  clear hB
  go_wp2_with fail
  go_loopw [5,7] (fun q5 q7 wr=>∃ (k:Nat) (xs:List RwX) (v:Value),k<=n/\q7=.int .i64 (k:Int)/\q5=v/\RowsR B wr v xs/\xs.length<=200/\Mod (fun b=>B<=b) w2 wr/\goL [] 0 ls=goL (xs.map RwX.r) k (ls.drop k)) (fun _ q _=>n - (intOf q).toNat)
  case atStart=>exact ⟨0,[],.slice none 0 0,by omega,rfl,rfl,RowsR.nil _ _,by simp,Mod.refl _ _,rfl⟩
  case round =>
   obtain ⟨k,xs,v,hk,rfl,rfl,hrows,hx200,hmod,hgo⟩:=hrel
   have hk0:(0:Int)<=(k:Int):=Int.natCast_nonneg _
   have HM:=zh hmod
   have HR:=zh hrows
   have HGO:=zh hgo
   have HBR:=zh (show B<=wr.heap.size by rw [HB.out];exact hmod.size)
   clear hmod hrows hgo
   by_cases hlt:k < n
   ·have hlt2:k < ls.length:=by rw [<- HN.out];exact hlt
    have hk1:(k:Int) < (n:Int):=by omega
    have hsl:=(HSL2.out.avoid.shrink (Y:=fun b=>B<=b) (fun b _ h=>.inr (by rw [<- HB.out];exact h)))
    obtain ⟨pb,po,pc,hvs,_,_,hnb⟩:=hsl.shape (by omega)
    cases hvs
    have hcell:=HM.out.cell (hsl.cellN (i:=k) (by rw [strs_length];exact hlt2)) hnb
    rw [show (strs ls)[k]'(by rw [strs_length];exact hlt2)=.string ⟨ls[k].toArray⟩ from List.getElem_map ..] at hcell
    have hle:=HLE.out ls[k] (List.getElem_mem hlt2)
    have HSY:=zh (fun h=>goL_silent (st:=xs.map RwX.r) (i:=k) hlt2 h)
    have HNS:=zh (fun h=>goL_line (st:=xs.map RwX.r) (i:=k) hlt2 h)
    clear hsl hnb
    generalize ls[k]=L at *
    have HLX:=zh (run_at L)
    have HB1:=zh (begins_any L [112,97,99,107,32])
    have HB2:=zh (begins_any L [110,101,101,100,32])
    have HLD:=zh (show lineL (xs.map RwX.r) L=if L.take 5=packT++[32] then packL (xs.map RwX.r) (L.drop 5) else if L.take 5=needT++[32] then wantL (xs.map RwX.r) (L.drop 5) else none from rfl)
    have hT:=str_list L
    have HCELL:=zh hcell
    obtain ⟨ra,rc0,hv5⟩:=HR.out.sl.len
    subst hv5
    unfold strV at *
    obtain ⟨ZL,hZL⟩:∃ ZL:ByteArray,ZL=⟨L.toArray⟩:=⟨_,rfl⟩
    rw [<- hZL] at hT hcell HB1 HB2 HLX
    have HZL:=zh hZL
    clear hZL
    rcases Bool.eq_false_or_eq_true (silentB L) with hsil | hsil
    ·have HG5:=zh (HGO.out.trans (HSY.out hsil))
     clear HSY HNS HGO HB1 HB2 HLD
     match L,hsil with
     | [],_ =>
      have he:ZL.toList.isEmpty=true:=by rw [hT];rfl
      clear hT HLX
      go_wp2_with fail
      exact ⟨⟨k+1,xs,_,by omega,rfl,rfl,HR.out,hx200,HM.out,HG5.out⟩,by show n - ((k:Int)+1).toNat < n - (k:Int).toNat;omega⟩
     | c :: l,hsil =>
      have hc:c=35:=by unfold silentB at hsil;simpa using hsil
      subst hc
      have hx0:∀ W:World,(Instr.index 9 (.string ZL) (.int .i64 0)).run prog W=.ok (.int .u8 35) W:=fun W=>HLX.out 0 (by simp) W
      have he:ZL.toList.isEmpty=false:=by rw [hT];rfl
      clear hT HLX
      go_wp2_with fail
      exact ⟨⟨k+1,xs,_,by omega,rfl,rfl,HR.out,hx200,HM.out,HG5.out⟩,by show n - ((k:Int)+1).toNat < n - (k:Int).toNat;omega⟩
    ·have HG5:=zh (HGO.out.trans (HNS.out hsil))
     obtain ⟨c,hc⟩:∃ c,(L.head? = some c/\c ≠ 35):=by
      cases L with
      | nil=>cases hsil
      | cons c l=>exact ⟨c,rfl,by unfold silentB at hsil;simpa using hsil⟩
     have hLp:0 < L.length:=by
      cases L with
      | nil=>cases hsil
      | cons c l=>simp
     have hx0:∀ W:World,(Instr.index 9 (.string ZL) (.int .i64 0)).run prog W=.ok (.int .u8 (c.toNat:Int)) W:=fun W=>by
      have h9:=HLX.out 0 hLp W
      rw [show L[0]=c by
       have:=hc.1
       rw [List.head?_eq_getElem?,List.getElem?_eq_getElem hLp] at this
       exact Option.some.inj this] at h9
      exact h9
     have he:ZL.toList.isEmpty=false:=by
      rw [hT]
      cases L with
      | nil=>cases hsil
      | cons c l=>rfl
     have hn35:((c.toNat:Int) == 35)=false:=by
      have:c.toNat ≠ 35:=fun e=>hc.2 (by rw [<- UInt8.toNat_inj];exact e)
      simp;omega
     clear hT HLX HSY HNS HGO hsil hLp hc
     generalize (c.toNat:Int)=zc at *
     obtain ⟨b1,hb1⟩:∃ b1,b1=decide (L.take ([112,97,99,107,32]:List UInt8).length=[112,97,99,107,32]):=⟨_,rfl⟩
     obtain ⟨b2,hb2⟩:∃ b2,b2=decide (L.take ([110,101,101,100,32]:List UInt8).length=[110,101,101,100,32]):=⟨_,rfl⟩
     rw [<- hb1] at HB1
     rw [<- hb2] at HB2
     go_wp2_with fail
     with_reducible refine (HB1.out _).mono ?_
     rintro e w9 ⟨rfl,h9⟩
     rw [h9]
     clear h9 w9 HB1
     cases b1 with
     | true =>
      have hp:=of_decide_eq_true hb1.symm
      have h5:=take_le hp
      have HLN:=zh (show lineL (xs.map RwX.r) L=packL (xs.map RwX.r) (L.drop 5) from HLD.out.trans (if_pos hp))
      clear hb1 hb2 HB2 HLD hp
      go_upto_if 45 with fail
      refine wp_cond_true rfl ?_
      refine wp_way (pack1_part _ undef _ _ _ _ _ undef B xs (.slice ra xs.length rc0) k pb po n lc L _ wr hx200 HBR.out HR.out (by omega) h5 hlt HCELL.out ⟨rfl,rfl,rfl,rfl,rfl,rfl,rfl,rfl,rfl,rfl,rfl,rfl,rfl,rfl,trivial⟩) ?_
      rintro a9 w9 ⟨v9,ok,hF9,hp9,hm9⟩
      clear hcell hx0 he hn35
      obtain ⟨ts,ds⟩:=a9
      obtain ⟨hsz,hds,hs5,hs6,hs7,hs8,hs0,hs1,hs21,hs22,hs23,hs24,hs25,hs182,-⟩:=hF9
      dsimp only at hsz hds hs5 hs6 hs7 hs8 hs0 hs1 hs21 hs22 hs23 hs24 hs25 hs182
      subst hds
      obtain ⟨c,rfl,hc⟩:=lit183 ts hsz
      rw [hc] at hs5
      rw [hc] at hs6
      rw [hc] at hs7
      rw [hc] at hs8
      rw [hc] at hs0
      rw [hc] at hs1
      rw [hc] at hs21
      rw [hc] at hs22
      rw [hc] at hs23
      rw [hc] at hs24
      rw [hc] at hs25
      rw [hc] at hs182
      simp only [hs5,hs6,hs7,hs8,hs0,hs1,hs21,hs22,hs23,hs24,hs25,hs182]
      clear hc hsz hs5 hs6 hs7 hs8 hs0 hs1 hs21 hs22 hs23 hs24 hs25 hs182
      have HM9:=zh (HM.out.trans hm9)
      have HW:=zh (show Mod No w w9 from HM2.out.then HM9.out (fun i hi h=>Nat.lt_irrefl _ (Nat.lt_of_lt_of_le hi (Nat.le_trans HBW.out h))))
      cases ok with
      | false =>
       have HRES:=zh (show indexL s=.inr (k+1) by rw [HIX.out,HG5.out,HLN.out,show packL (xs.map RwX.r) (L.drop 5)=none from hp9])
       clear hp9 hm9 HLN HG5
       have hwk:IntKind.i64.wrap ((k:Int)+1)=(k:Int)+1:=by rw [IntKind.wrap_i64];omega
       go_wp2_with fail
       exact bodyPost_ret (v:=.tuple #[.slice none 0 0,.int .i64 ((k:Int)+1),.int .i64 65]) (by simp [results,results12]) rfl (fin hR ⟨by unfold IxRef;rw [HRES.out];rfl,HW.out⟩)
      | true =>
       obtain ⟨xs9,h91,h92,h93⟩:=(show ∃ xs',packL (xs.map RwX.r) (L.drop 5)=some (xs'.map RwX.r)/\RowsR B w9 v9 xs'/\xs'.length<=200 from hp9)
       have HR9:=zh h92
       have HG9:=zh (show goL [] 0 ls=goL (xs9.map RwX.r) (k+1) (ls.drop (k+1)) by rw [HG5.out,HLN.out,h91])
       clear hp9 hm9 HLN HG5 h91 h92
       go_wp2_with fail
       exact ⟨⟨k+1,xs9,_,by omega,rfl,rfl,HR9.out,h93,HM9.out,HG9.out⟩,by show n - ((k:Int)+1).toNat < n - (k:Int).toNat;omega⟩
     | false =>
      have hp:=of_decide_eq_false hb1.symm
      clear hb1
      go_wp2_with fail
      with_reducible refine (HB2.out _).mono ?_
      rintro e w9 ⟨rfl,h9⟩
      rw [h9]
      clear h9 w9 HB2
      cases b2 with
      | true =>
       have hq:=of_decide_eq_true hb2.symm
       have h5:=take_le hq
       have HLN:=zh (show lineL (xs.map RwX.r) L=wantL (xs.map RwX.r) (L.drop 5) from (HLD.out.trans (if_neg hp)).trans (if_pos hq))
       clear hb2 HLD hp hq
       rcases List.eq_nil_or_concat xs with rfl | ⟨zs,x,rfl⟩
       ·have HRES:=zh (show indexL s=.inr (k+1) by rw [HIX.out,HG5.out,HLN.out];rfl)
        have HW:=zh (show Mod No w wr from HM2.out.then HM.out (fun i hi h=>Nat.lt_irrefl _ (Nat.lt_of_lt_of_le hi (Nat.le_trans HBW.out h))))
        clear HLN HG5
        have hwk:IntKind.i64.wrap ((k:Int)+1)=(k:Int)+1:=by rw [IntKind.wrap_i64];omega
        go_wp2_with fail
        exact bodyPost_ret (v:=.tuple #[.slice none 0 0,.int .i64 ((k:Int)+1),.int .i64 65]) (by simp [results,results12]) rfl (fin hR ⟨by unfold IxRef;rw [HRES.out];rfl,HW.out⟩)
       ·rw [List.concat_eq_append] at *
        obtain ⟨g,rc,hgv,hgB⟩:=own_shape HR.out.own (by simp)
        have hra:ra=some ⟨g,0,none⟩:=by cases hgv;rfl
        subst hra
        have hll2:(zs++[x]).length=zs.length+1:=by simp
        rw [hll2] at HR
        have hzz:zs.length+1<=200:=by omega
        have hz0:(0:Int) < ((zs.length+1:Nat):Int):=by omega
        rw [hll2]
        simp only [List.map_append,List.map_cons,List.map_nil] at HLN HG5
        clear hgv hll2 hx200
        go_upto_if 123 with fail
        refine wp_cond_true rfl ?_
        refine wp_way (want_part _ undef _ _ _ _ _ undef B zs x g zs.length rc0 k pb po n lc L _ wr hzz rfl hgB HR.out (by omega) h5 hlt HCELL.out ⟨rfl,rfl,rfl,rfl,rfl,rfl,rfl,rfl,rfl,rfl,rfl,rfl,rfl,rfl,trivial⟩) ?_
        rintro a9 w9 ⟨ok,hF9,hp9,hm9⟩
        clear hcell hx0 he hn35 hz0
        obtain ⟨ts,ds⟩:=a9
        obtain ⟨hsz,hds,hs5,hs6,hs7,hs8,hs0,hs1,hs21,hs22,hs23,hs24,hs25,hs182,-⟩:=hF9
        dsimp only at hsz hds hs5 hs6 hs7 hs8 hs0 hs1 hs21 hs22 hs23 hs24 hs25 hs182
        subst hds
        obtain ⟨c,rfl,hc⟩:=lit183 ts hsz
        rw [hc] at hs5
        rw [hc] at hs6
        rw [hc] at hs7
        rw [hc] at hs8
        rw [hc] at hs0
        rw [hc] at hs1
        rw [hc] at hs21
        rw [hc] at hs22
        rw [hc] at hs23
        rw [hc] at hs24
        rw [hc] at hs25
        rw [hc] at hs182
        simp only [hs5,hs6,hs7,hs8,hs0,hs1,hs21,hs22,hs23,hs24,hs25,hs182]
        clear hc hsz hs5 hs6 hs7 hs8 hs0 hs1 hs21 hs22 hs23 hs24 hs25 hs182
        have HM9:=zh (HM.out.trans hm9)
        have HW:=zh (show Mod No w w9 from HM2.out.then HM9.out (fun i hi h=>Nat.lt_irrefl _ (Nat.lt_of_lt_of_le hi (Nat.le_trans HBW.out h))))
        cases ok with
        | false =>
         have HRES:=zh (show indexL s=.inr (k+1) by rw [HIX.out,HG5.out,HLN.out,show wantL (zs.map RwX.r++[x.r]) (L.drop 5)=none from hp9])
         clear hp9 hm9 HLN HG5
         have hwk:IntKind.i64.wrap ((k:Int)+1)=(k:Int)+1:=by rw [IntKind.wrap_i64];omega
         go_wp2_with fail
         exact bodyPost_ret (v:=.tuple #[.slice none 0 0,.int .i64 ((k:Int)+1),.int .i64 65]) (by simp [results,results12]) rfl (fin hR ⟨by unfold IxRef;rw [HRES.out];rfl,HW.out⟩)
        | true =>
         obtain ⟨xs9,h91,h92,h93⟩:=(show ∃ xs',wantL (zs.map RwX.r++[x.r]) (L.drop 5)=some (xs'.map RwX.r)/\RowsR B w9 (.slice (some ⟨g,0,none⟩) (zs.length+1) rc0) xs'/\xs'.length<=200 from hp9)
         have HR9:=zh h92
         have HG9:=zh (show goL [] 0 ls=goL (xs9.map RwX.r) (k+1) (ls.drop (k+1)) by rw [HG5.out,HLN.out,h91])
         clear hp9 hm9 HLN HG5 h91 h92
         go_wp2_with fail
         exact ⟨⟨k+1,xs9,_,by omega,rfl,rfl,HR9.out,h93,HM9.out,HG9.out⟩,by show n - ((k:Int)+1).toNat < n - (k:Int).toNat;omega⟩
      | false =>
       have hq:=of_decide_eq_false hb2.symm
       have HRES:=zh (show indexL s=.inr (k+1) by rw [HIX.out,HG5.out,(HLD.out.trans (if_neg hp)).trans (if_neg hq)])
       have HW:=zh (show Mod No w wr from HM2.out.then HM.out (fun i hi h=>Nat.lt_irrefl _ (Nat.lt_of_lt_of_le hi (Nat.le_trans HBW.out h))))
       clear hb2 HLD hp hq HG5
       have hwk:IntKind.i64.wrap ((k:Int)+1)=(k:Int)+1:=by rw [IntKind.wrap_i64];omega
       go_wp2_with fail
       exact bodyPost_ret (v:=.tuple #[.slice none 0 0,.int .i64 ((k:Int)+1),.int .i64 65]) (by simp [results,results12]) rfl (fin hR ⟨by unfold IxRef;rw [HRES.out];rfl,HW.out⟩)
   ·obtain rfl:k=n:=by omega
    have hk1:¬ ((k:Int) < (k:Int)):=by omega
    have HRES:=zh (show indexL s=.inl (xs.map RwX.r) by rw [HIX.out,HGO.out,HN.out,List.drop_length];rfl)
    have HW:=zh (show Mod No w wr from HM2.out.then HM.out (fun i hi h=>Nat.lt_irrefl _ (Nat.lt_of_lt_of_le hi (Nat.le_trans HBW.out h))))
    obtain ⟨ra,rc0,hv5⟩:=HR.out.sl.len
    subst hv5
    go_wp2_with fail
    exact bodyPost_ret (v:=.tuple #[.slice ra xs.length rc0,.int .i64 0,.int .i64 0]) (by simp [results,results12]) rfl (fin hR ⟨by unfold IxRef;rw [HRES.out];exact ⟨B,_,xs,rfl,HR.out,rfl,hx200⟩,HW.out⟩)
end Go.Proofs.YtgiigemfbebcgaaGreatDoor
