/-
  Layers 0 to 14: helps of the laws of indexes. No statement is proved here; no condition.
-/
import Derived.Test.YtgiigemfbebcgaaGreatDoorU41
import Derived.Test.YtgiigemfbebcgaaGreatDoorU08
import Derived.Test.YtgiigemfbebcgaaGreatDoorU39
import Derived.Test.YtgiigemfbebcgaaGreatDoorU12
import Derived.Test.YtgiigemfbebcgaaGreatDoorU31
import Derived.Test.YtgiigemfbebcgaaGreatDoorU33
import Derived.Test.YtgiigemfbebcgaaGreatDoorU34
import Derived.Test.YtgiigemfbebcgaaGreatDoorU36
import Derived.Test.YtgiigemfbebcgaaGreatDoorU24
import Derived.Great.Walk
import Derived.Great.CaseRows
namespace Go.Proofs.YtgiigemfbebcgaaGreatDoor
open _root_.Go.Proofs.Tryz
open Go.RowKit
structure MadeR (B:Nat) (w:World) (l:List SRow) (rv av:Value) (ys:List RwX) (as':List ArX):Prop where
 rows:RowsM B w rv ys
 arcs:ArcsM B w av as'
 told:ys.map RwX.r=(keptK [] l).map rowK
 packed:as'.map ArX.b=(keptK [] l).map archK
theorem keptK_one (st:List SRow) (r:SRow):keptK st [r]=if (atL (st.map rowK) (nameK r.n) (verK r.v)).isSome then st else st++[r]:=rfl
theorem kept_take {l:List SRow} {k:Nat} (h:k < l.length):keptK [] (l.take (k+1))=keptK (keptK [] (l.take k)) [l[k]]:=by
 rw [List.take_succ_eq_append_getElem h,kept_snoc,keptK_one]
theorem ver_small_all:∀ k:Fin 6,(verK k.1).ma < 1000000000000000000/\(verK k.1).mi < 1000000000000000000/\(verK k.1).pa < 1000000000000000000:=by decide +kernel
theorem rowK_small (r:SRow) (hn:r.needs.length<=20):RwSm (rowK r):=by
 obtain ⟨-,-,h3,-⟩:=rowK_facts r hn
 have h:=ver_small_all ⟨r.v % 6,Nat.mod_lt _ (by omega)⟩
 have e:verK (r.v % 6)=verK r.v:=by unfold verK;rw [Nat.mod_mod]
 dsimp only at h
 rw [e] at h
 exact ⟨h,by show szK r < _;omega⟩
set_option maxRecDepth 100000 in
set_option maxHeartbeats 16000000 in
theorem made_any (xs:List SrX) (hxl:xs.length<=20) (v:Value) (w:World) (hok:∀ x ∈ xs,SrOk w x) (h4:∀ x ∈ xs,x.r.needs.length<=4) (hv:SvX w No v xs.length (xs.flatMap SrX.cells)) :
  Calls prog 9 #[v] w fun e w'=>(∃ rv av ys as',e=.returned (.tuple #[rv,av,strV (indexT ((keptK [] (xs.map SrX.r)).map rowK))])/\MadeR w.heap.size w' (xs.map SrX.r) rv av ys as')/\Mod No w w':=by
 refine calls_hide fun R hR=>?_
 obtain ⟨va,vc,rfl⟩:=hv.len
 have HOK:=zh hok
 have H4:=zh h4
 have HV:=zh hv
 obtain ⟨n,hn⟩:∃ n,n=xs.length:=⟨_,rfl⟩
 rw [<- hn] at hxl ⊢
 have HN:=zh hn
 clear hok h4 hv hn
 go_enter func9,ntmps9
 go_wp2_with fail
 go_loopw [5,6,7] (fun q5 q6 q7 wr=>∃ (k:Nat) (rv av:Value) (ys:List RwX) (as':List ArX),k<=n/\q7=.int .i64 (k:Int)/\q5=rv/\q6=av/\MadeR w.heap.size wr ((xs.map SrX.r).take k) rv av ys as'/\Mod No w wr) (fun q5 q6 q7 wr=>match q7 with | .int _ i=>n - i.toNat | _=>0)
 case atStart=>exact ⟨0,.slice none 0 0,.slice none 0 0,[],[],by omega,rfl,rfl,rfl,⟨⟨⟨by simp,.inl ⟨rfl,rfl⟩⟩,fun x hx=>by cases hx⟩,⟨⟨by simp,.inl ⟨rfl,rfl⟩⟩,fun x hx=>by cases hx⟩,rfl,rfl⟩,Mod.refl _ _⟩
 case round =>
  obtain ⟨k,rv,av,ys,as',hk,rfl,rfl,rfl,hmd,hmod⟩:=hrel
  have hk0:(0:Int)<=(k:Int):=Int.natCast_nonneg _
  have HM:=zh hmod
  have HMD:=zh hmd
  clear hmod hmd
  by_cases hlt:k < n
  ·have hlt2:k < xs.length:=by rw [<- HN.out];exact hlt
   have hk1:(k:Int) < (n:Int):=by omega
   have HR1:=zh (show ∃ ib io,va=some ⟨ib,io,none⟩/\ib < w.heap.size/\wr.rangeAt ib (io+k*5) (SrX.cells xs[k]) from by
    obtain ⟨ib,io,c,hvs,-,-,-⟩:=HV.out.shape (by omega)
    cases hvs
    obtain ⟨tE,h9⟩:=HV.out.get (by omega)
    rw [<- HN.out] at h9
    obtain ⟨cur,fz,h8⟩:=h9.block
    refine ⟨ib,io,rfl,lt_of_heap h8,HM.out.rangeAt (Sl.at SrX.cells_length h9 hlt2) (fun f=>f)⟩)
   obtain ⟨ib,io,hva,hib,hrg⟩:=HR1.out
   subst hva
   have HKT:=zh (show keptK [] ((xs.map SrX.r).take (k+1))=keptK (keptK [] ((xs.map SrX.r).take k)) [xs[k].r] from by
    rw [kept_take (by rw [List.length_map];exact hlt2),List.getElem_map])
   have HST:=zh (show (keptK [] ((xs.map SrX.r).take k)).length<=1000 from by
    have h9:=kept_length ((xs.map SrX.r).take k) []
    rw [List.length_nil,List.length_take] at h9
    omega)
   have HSO:=zh (show SrOk wr xs[k] from ⟨(HOK.out _ (List.getElem_mem hlt2)).needs.kn HM.out,(HOK.out _ (List.getElem_mem hlt2)).few,(HOK.out _ (List.getElem_mem hlt2)).small⟩)
   have HSB:=zh (show SvX wr (fun q=>w.heap.size<=q) xs[k].nv xs[k].r.needs.length (u16s xs[k].r.needs) from
    ((HOK.out _ (List.getElem_mem hlt2)).needs.avoid.shrink (Y:=fun b=>w.heap.size<=b) (fun b _ h=>.inr h)).kn HM.out)
   have HP:=zh (fun a=>row1_part undef (.slice none 0 0) (.slice none 0 0) (.string ⟨#[]⟩) undef undef undef undef w.heap.size (keptK [] ((xs.map SrX.r).take k)) ys as' xs[k] u5 u6 k ib io n vc a wr HM.out.size HMD.out.rows HMD.out.arcs HMD.out.told HMD.out.packed HST.out HSO.out HSB.out hlt hrg hib)
   clear HR1 hib hrg
   go_upto_block 1 with fail
   rename_i K1 hK1
   refine wp_only (HP.out _ ⟨rfl,rfl,rfl,rfl,rfl,rfl,rfl,rfl,rfl,rfl,rfl,rfl,rfl,rfl,trivial⟩) ?_
   rintro a9 w9 ⟨rv9,av9,ys9,as9,hF9,hr9,ha9,ht9,hp9,hm9⟩
   have HM9:=zh (show Mod No w w9 from HM.out.then hm9 (fun i hi h=>Nat.lt_irrefl _ (Nat.lt_of_lt_of_le hi h)))
   have HMD9:=zh (show MadeR w.heap.size w9 ((xs.map SrX.r).take (k+1)) rv9 av9 ys9 as9 from ⟨hr9,ha9,by rw [HKT.out];exact ht9,by rw [HKT.out];exact hp9⟩)
   refine hK1 _ _ ?_
   clear hK1 K1 hr9 ha9 ht9 hp9 hm9 HP HMD HM HST HSO HSB HKT
   obtain ⟨ts,ds⟩:=a9
   obtain ⟨hsz,hds,hs0,hs5,hs6,hs7,hs1,hs2,hs3,hs4,hs215,hs216,hs217,hs218,-⟩:=hF9
   dsimp only at hsz hds hs0 hs5 hs6 hs7 hs1 hs2 hs3 hs4 hs215 hs216 hs217 hs218
   subst hds
   obtain ⟨c,rfl,hc⟩:=lit219 ts hsz
   rw [hc] at hs0
   rw [hc] at hs5
   rw [hc] at hs6
   rw [hc] at hs7
   rw [hc] at hs1
   rw [hc] at hs2
   rw [hc] at hs3
   rw [hc] at hs4
   rw [hc] at hs215
   rw [hc] at hs216
   rw [hc] at hs217
   rw [hc] at hs218
   simp only [hs0,hs5,hs6,hs7,hs1,hs2,hs3,hs4,hs215,hs216,hs217,hs218]
   clear hc hsz hs0 hs5 hs6 hs7 hs1 hs2 hs3 hs4 hs215 hs216 hs217 hs218
   go_wp2_with fail
   exact ⟨⟨k+1,_,_,ys9,as9,by omega,rfl,rfl,rfl,HMD9.out,HM9.out⟩,by show n - ((k:Int)+1).toNat < n - (k:Int).toNat;omega⟩
  ·obtain rfl:k=n:=by omega
   have hk1:¬ ((k:Int) < (k:Int)):=by omega
   have hml:(xs.map SrX.r).take k=xs.map SrX.r:=List.take_of_length_le (by rw [List.length_map,HN.out];exact Nat.le_refl _)
   rw [hml] at HMD
   have hyl:ys.length<=20:=by
    have h9:=congrArg List.length HMD.out.told
    rw [List.length_map,List.length_map] at h9
    have h8:=kept_length (xs.map SrX.r) []
    rw [List.length_nil,Nat.zero_add,List.length_map,<- HN.out] at h8
    omega
   have HIX:=zh (show ∀ W,Mod No wr W->Calls prog 30 #[u5] W fun e w'=>e=.returned (strV (indexT ((keptK [] (xs.map SrX.r)).map rowK)))/\Mod No W w' from fun W hW=>by
    have h9:=ixtext_any ys (by omega) u5 W (fun y hy=>⟨(HMD.out.rows.each y hy).keep hW (Apart.no _ _),by
     have h8:y.r ∈ (keptK [] (xs.map SrX.r)).map rowK:=by rw [<- HMD.out.told];exact List.mem_map_of_mem hy
     obtain ⟨r,hr,he⟩:=List.mem_map.1 h8
     rw [<- he]
     refine rowK_small r ?_
     rcases kept_mem _ _ _ hr with h7 | h7
     ·cases h7
     ·obtain ⟨x,hx,rfl⟩:=List.mem_map.1 h7
      have:=H4.out x hx
      omega⟩) ((Sl.of_own HMD.out.rows.own (fun _ _ f=>f)).kn hW) (by
     rw [HMD.out.told]
     have h9:=kept_text (xs.map SrX.r) (by rw [List.length_map,<- HN.out];exact hxl) (fun r hr=>by
      obtain ⟨x,hx,rfl⟩:=List.mem_map.1 hr
      exact H4.out x hx)
     omega)
    rw [HMD.out.told] at h9
    exact h9)
   clear hml
   generalize indexT ((keptK [] (xs.map SrX.r)).map rowK)=TX at *
   go_wp2_with fail
   with_reducible refine (HIX.out _ (Mod.refl _ _)).mono ?_
   rintro e w9 ⟨rfl,hm9⟩
   have HM9:=zh hm9
   clear hm9 HIX
   go_wp2_with fail
   exact bodyPost_ret (v:=.tuple #[u5,u6,strV TX]) (by simp [results,results9]) rfl (fin hR ⟨⟨_,_,ys,as',rfl,HMD.out.rows.no HM9.out,HMD.out.arcs.no HM9.out,HMD.out.told,HMD.out.packed⟩,HM.out.trans HM9.out⟩)
end Go.Proofs.YtgiigemfbebcgaaGreatDoor
namespace Go.Proofs.YtgiigemfbebcgaaGreatDoor
open _root_.Go.Proofs.Tryz
open Go.RowKit Go.Sort
theorem kr_tiny:Tiny (rowK kr0)/\Tiny (rowK kr1):=by
 obtain ⟨h1,h2,h3,h4⟩:=kr_size
 obtain ⟨n1,n2⟩:=kr_needs
 obtain ⟨v1,v2⟩:=kr_ver
 exact ⟨⟨⟨1,0,0,v1,by omega,by omega,by omega⟩,⟨(rowK kr0).size.toNat,by omega,by omega⟩,by omega⟩,⟨⟨2,0,0,v2,by omega,by omega,by omega⟩,⟨(rowK kr1).size.toNat,by omega,by omega⟩,by omega⟩⟩
set_option maxRecDepth 100000 in
set_option maxHeartbeats 16000000 in
theorem known_any (w:World) (hgl:Gl w):Calls prog 7 #[] w fun e w'=>e=.returned (.bool true)/\Mod No w w':=by
 refine calls_hide fun R hR=>?_
 have HG:=zh hgl
 clear hgl
 obtain ⟨TX,hTX⟩:∃ TX,TX=indexT [rowK kr0,rowK kr1]:=⟨_,rfl⟩
 have HTX:=zh hTX
 have HMADE:=zh (fun (W:World) (g:Nat) (hs:Sl W No 69 (.slice (some ⟨g,0,none⟩) 1 1) 1 [.int .u16 7]) (v:Value) (hv:Sl W No 72 v 2 [.int .u8 0,.int .u8 0,.slice (some ⟨g,0,none⟩) 1 1,.int .u8 0,.int .u8 0,.int .u8 0,.int .u8 2,.slice none 0 0,.int .u8 0,.int .u8 0]) =>
  show Calls prog 9 #[v] W fun e w'=>(∃ rv av,e=.returned (.tuple #[rv,av,.string ⟨TX.toArray⟩]))/\Mod No W w' from by
   have h:=made_any [⟨kr0,.slice (some ⟨g,0,none⟩) 1 1⟩,⟨kr1,.slice none 0 0⟩] (by simp) v W (fun x hx=>by
    simp only [List.mem_cons,List.not_mem_nil,or_false] at hx
    rcases hx with rfl | rfl
    ·exact ⟨.of hs,by simp [kr0],fun t ht=>by simp [kr0] at ht;omega⟩
    ·exact ⟨⟨⟨none,0,rfl⟩,.inl ⟨rfl,rfl⟩⟩,by simp [kr1],fun t ht=>by simp [kr1] at ht⟩) (fun x hx=>by
    simp only [List.mem_cons,List.not_mem_nil,or_false] at hx
    rcases hx with rfl | rfl
    ·simp [kr0]
    ·simp [kr1]) (.of (e:=72) hv)
   refine h.mono fun e w' ⟨⟨rv,av,_,_,he,_⟩,hm⟩=>⟨⟨rv,av,?_⟩,hm⟩
   rw [he,hTX]
   simp only [List.map_cons,List.map_nil]
   rw [kr_kept]
   rfl)
 have hlen:TX.length<=8000:=by
  have h:=kept_text [kr0,kr1] (by simp) (fun r hr=>by
   simp only [List.mem_cons,List.not_mem_nil,or_false] at hr
   rcases hr with rfl | rfl
   ·simp [kr0]
   ·simp [kr1])
  rw [kr_kept] at h
  rw [hTX]
  exact h
 have htold:indexL TX=.inl [rowK kr0,rowK kr1]:=by
  have h:=kept_told [kr0,kr1] (by simp) (fun r hr=>by
   simp only [List.mem_cons,List.not_mem_nil,or_false] at hr
   rcases hr with rfl | rfl
   ·simp [kr0]
   ·simp [kr1])
  rw [kr_kept] at h
  rw [hTX]
  exact h
 have HP1:=zh (fun (W:World) (hW:Gl W)=>show Calls prog 11 #[.string ⟨TX.toArray⟩] W fun e w'=>(∃ B v xs,e=.returned (.tuple #[v,.int .i64 0,.int .i64 0])/\RowsW B w' v xs/\xs.map RwX.r=[rowK kr0,rowK kr1])/\Mod No W w' from
  (ixparse_any TX (by omega) W hW).mono fun e w' ⟨h,hm⟩=>by
   unfold IxRes at h
   rw [htold] at h
   obtain ⟨B,v,xs,he,h1,h2,-⟩:=h
   exact ⟨⟨B,v,xs,he,h1,h2⟩,hm⟩)
 have HP2:=zh (fun (W:World) (hW:Gl W)=>show Calls prog 11 #[.string ⟨#[110,101,101,100,32,97,32,42,10]⟩] W fun e w'=>e=.returned (.tuple #[.slice none 0 0,.int .i64 1,.int .i64 65])/\Mod No W w' from
  (ixparse_any [110,101,101,100,32,97,32,42,10] (by simp) W hW).mono fun e w' ⟨h,hm⟩=>by
   unfold IxRes at h
   rw [kr_needline] at h
   exact ⟨h,hm⟩)
 have HLT:=zh (show (indexT [rowK kr0,rowK kr1]).length<=100000 by rw [<- hTX];omega)
 clear hTX hlen htold
 obtain ⟨ZX,hZX⟩:∃ Z:ByteArray,Z=⟨TX.toArray⟩:=⟨_,rfl⟩
 have HZX:=zh hZX
 rw [<- hZX] at HMADE HP1
 clear hZX
 go_enter func7,ntmps7
 go_wp2_with fail
 obtain ⟨g0,hg0⟩:∃ g,g=w.heap.size:=⟨_,rfl⟩
 rw [<- hg0]
 generalize hW1:World.alloc (World.alloc w _) _=W1
 have hs1:Sl W1 No 69 (.slice (some ⟨g0,0,none⟩) 1 1) 1 [.int .u16 7]:=by
  rw [<- hW1,hg0]
  exact (sl_new w 69 [.int .u16 7] (Nat.le_refl 1) (by unfold maxLen;omega)).keep (S:=No) ((Mod.refl No _).alloc _) (fun _ _ _ f=>f.elim)
 have hv1:Sl W1 No 72 (.slice (some ⟨g0+1,0,none⟩) 2 2) 2 [.int .u8 0,.int .u8 0,.slice (some ⟨g0,0,none⟩) 1 1,.int .u8 0,.int .u8 0,.int .u8 0,.int .u8 2,.slice none 0 0,.int .u8 0,.int .u8 0]:=by
  have e1:g0+1=(World.alloc w (.cells #[.int .u16 7] 69)).heap.size:=by rw [hg0];simp
  rw [<- hW1,e1]
  exact sl_new _ 72 [.int .u8 0,.int .u8 0,.slice (some ⟨g0,0,none⟩) 1 1,.int .u8 0,.int .u8 0,.int .u8 0,.int .u8 2,.slice none 0 0,.int .u8 0,.int .u8 0] (Nat.le_refl 2) (by unfold maxLen;omega)
 have HM1:=zh (show Mod No w W1 by rw [<- hW1];exact ((Mod.refl No w).alloc _).alloc _)
 have HC1:=zh (HMADE.out W1 g0 hs1 _ hv1)
 clear hW1 hs1 hv1 hg0 HMADE
 with_reducible refine HC1.out.mono ?_
 rintro e w2 ⟨⟨rv,av,rfl⟩,hm2⟩
 have HM2:=zh (HM1.out.trans hm2)
 clear hm2 HC1 HM1
 go_wp2_with fail
 with_reducible refine (HP1.out _ (HG.out.stay HM2.out (fun f=>f))).mono ?_
 rintro e w3 ⟨⟨B,lv,xs,rfl,hrows,hxs⟩,hm3⟩
 have HM3:=zh (HM2.out.trans hm3)
 obtain ⟨x0,x1,rfl⟩:∃ x y,xs=[x,y]:=by
  match xs,hxs with
  | [],h=>simp at h
  | [x],h=>simp at h
  | [x,y],_=>exact ⟨x,y,rfl⟩
  | x :: y :: z :: r,h=>simp at h
 have HXS:=zh hxs
 simp only [List.map_cons,List.map_nil,List.cons.injEq,and_true] at hxs
 have HR:=zh hrows
 obtain ⟨gl,lc,hlv,hlb⟩:=own_shape hrows.own (by simp)
 subst hlv
 simp only [List.length_cons,List.length_nil,Nat.zero_add,Nat.reduceAdd] at *
 clear hm3 HM2 hlb hrows
 go_wp2_with fail
 with_reducible refine (HP2.out _ (HG.out.stay HM3.out (fun f=>f))).mono ?_
 rintro e w4 ⟨rfl,hm4⟩
 have HM4:=zh (HM3.out.trans hm4)
 have HR4:=zh (HR.out.no hm4)
 clear hm4 HM3 HR HP1 HP2
 obtain ⟨hx0,hx1⟩:=hxs
 have HSL:=zh (show Sl w4 No 46 (.slice (some ⟨gl,0,none⟩) 2 lc) [x0,x1].length ([x0,x1].flatMap RwX.cells) from HR4.out.sl)
 have HAT:=zh (show ∀ x ∈ [x0,x1],RwAt w4 x/\Tiny x.r from fun x hx=>⟨(HR4.out.each x hx).at,by
  simp only [List.mem_cons,List.not_mem_nil,or_false] at hx
  rcases hx with rfl | rfl
  ·rw [hx0];exact kr_tiny.1
  ·rw [hx1];exact kr_tiny.2⟩)
 have hv2:x1.r.v=⟨2,0,0,[]⟩:=by rw [hx1];exact kr_ver.2
 have hok1:=(HAT.out x1 (by simp)).1.ok
 obtain ⟨pa,pc,hpv⟩:=hok1.pre.len
 rw [hv2] at hpv
 have hrg1:w4.rangeAt gl 40 [.int .i64 2,.int .i64 0,.int .i64 0,.slice pa 0 pc]:=by
  have h:=Sl.atM (fun x hx=>RwX.cells_length x (HAT.out x hx).1.ok.sum) HSL.out (i:=1) (by simp)
  have h2:=rangeAt_part (p:=[strV x1.r.name]) (q:=verCs x1.r.v x1.pv) (r:=bv x1.r.sum++[.int .i64 x1.r.size,x1.nv]) (by rw [<- row_parts];exact h)
  rw [hv2,hpv] at h2
  exact h2
 have HRG1:=zh hrg1
 have HPV:=zh (show ∀ W,Mod No w4 W->Sl W No 9 (.slice pa 0 pc) 0 [] from fun W hm=>by
  have h:=(hok1.pre.kn hm)
  rw [hv2,hpv] at h
  exact h)
 have HN0:=zh (show ∃ na nc,w4.cell? ⟨gl,38,none⟩=some (.slice na 1 nc) from by
  have h:=Sl.atM (fun x hx=>RwX.cells_length x (HAT.out x hx).1.ok.sum) HSL.out (i:=0) (by simp)
  have hok0:=(HAT.out x0 (by simp)).1
  obtain ⟨ys,h1,h2,h3⟩:=hok0.nds
  obtain ⟨na,nc,e⟩:=h3.len
  have hl1:x0.r.needs.length=1:=by rw [hx0];exact kr_needs.1
  rw [hl1] at e
  refine ⟨na,nc,?_⟩
  have hbl:(bv x0.r.sum).length=32:=by rw [bv_length,hok0.ok.sum]
  have h9:=rangeAt_part (p:=[strV x0.r.name]++verCs x0.r.v x0.pv++(bv x0.r.sum++[.int .i64 x0.r.size])) (q:=[x0.nv]) (r:=[]) (w:=w4) (b:=gl) (o:=0) (by
   rw [List.append_nil]
   have e9:[strV x0.r.name]++verCs x0.r.v x0.pv++(bv x0.r.sum++[.int .i64 x0.r.size])++[x0.nv]=RwX.cells x0:=by rw [row_parts];simp
   rw [e9]
   exact h) 0 _ rfl
  simp only [List.length_cons,List.length_append,hbl,verCs,List.length_nil] at h9
  rw [<- e]
  exact h9)
 have hmap:[x0,x1].map RwX.r=[rowK kr0,rowK kr1]:=HXS.out
 have HFD:=zh (fun (W:World) (hm:Mod No w4 W)=>show Calls prog 15 #[.slice (some ⟨gl,0,none⟩) 2 lc,.string ⟨#[97]⟩,.agg #[.int .i64 2,.int .i64 0,.int .i64 0,.slice pa 0 pc]] W fun e w'=>(∃ cs:List Value,e=.returned (.tuple #[.agg cs.toArray,.bool true])/\cs.length=39/\cs.toArray.all (·.oneCell')=true/\cs[1]? = some (.int .i64 2))/\Mod No W w' from
  (find_any [x0,x1] (by simp) nameA ⟨2,0,0,[]⟩ (.slice pa 0 pc) (.slice (some ⟨gl,0,none⟩) 2 lc) W (fun x hx=>(HAT.out x hx).1.keep hm (Apart.no _ _)) ⟨by simp,by simp⟩ (HPV.out W hm) (HSL.out.kn hm)).mono fun e w' ⟨h,hm2⟩=>by
   unfold FindRes at h
   rw [hmap,kr_at] at h
   obtain ⟨x,h1,h2,he⟩:=h
   have hxr:x.r=rowK kr1:=(Option.some.inj h1).symm
   refine ⟨⟨RwX.cells x,he,RwX.cells_length x h2.ok.sum,rows_one h2.ok,?_⟩,hm2⟩
   show some (Value.int .i64 x.r.v.ma)=_
   rw [hxr,kr_ver.2])
 have HVS:=zh (fun (W:World) (hm:Mod No w4 W)=>show Calls prog 22 #[.slice (some ⟨gl,0,none⟩) 2 lc,.string ⟨#[97]⟩] W fun e w'=>(∃ g o c,e=.returned (.slice (some ⟨g,o,none⟩) 2 c)/\w'.cell? ⟨g,o,none⟩=some (.int .i64 2))/\Mod No W w' from
  (versions_any [x0,x1] (by simp) nameA (.slice (some ⟨gl,0,none⟩) 2 lc) W (fun x hx=>(HAT.out x hx).1.keep hm (Apart.no _ _)) (HSL.out.kn hm)).mono fun e w' ⟨v,he,hv,hm2⟩=>by
   have hvv:=kr_vers hmap
   obtain ⟨z0,z1,hz⟩:∃ z0 z1,sortR ltVx (versOf nameA [x0,x1])=[z0,z1]:=by
    revert hvv
    generalize sortR ltVx (versOf nameA [x0,x1])=zs
    intro hvv
    match zs,hvv with
    | [],h=>simp at h
    | [x],h=>simp at h
    | [x,y],_=>exact ⟨x,y,rfl⟩
    | x :: y :: z :: r,h=>simp at h
   rw [hz] at hv hvv
   simp only [List.map_cons,List.map_nil,List.cons.injEq,and_true] at hvv
   obtain ⟨b,o,c,e1,-,-,-⟩:=hv.sl.shape (by simp)
   subst e1
   refine ⟨⟨b,o,c,he,?_⟩,hm2⟩
   have h9:=Sl.at VrX.cells_length hv.sl (i:=0) (by simp) 0 (.int .i64 z0.v.ma) rfl
   rw [hvv.1] at h9
   simpa using h9)
 have HTT:=zh (fun (W:World) (hm:Mod No w4 W)=>show Calls prog 32 #[.slice (some ⟨gl,0,none⟩) 2 lc] W fun e w'=>e=.returned (.string ZX)/\Mod No W w' from by
  have h:=text_any [x0,x1] (by simp) (.slice (some ⟨gl,0,none⟩) 2 lc) W (fun x hx=>⟨(HAT.out x hx).1.keep hm (Apart.no _ _),(HAT.out x hx).2⟩) (HSL.out.kn hm) (by rw [hmap];exact HLT.out)
  rw [hmap,<- HTX.out] at h
  unfold strV at h
  rw [<- HZX.out] at h
  exact h)
 have HNN:=zh (fun (W:World) (hm:Mod No w4 W)=>show Calls prog 19 #[.slice (some ⟨gl,0,none⟩) 2 lc] W fun e w'=>(∃ v,e=.returned v/\Sl w' No 9 v 1 (strs [nameA]))/\Mod No W w' from
  (names_any [x0,x1] (by simp) (.slice (some ⟨gl,0,none⟩) 2 lc) W (fun x hx=>(HAT.out x hx).1.keep hm (Apart.no _ _)) (HSL.out.kn hm)).mono fun e w' ⟨v,out,he,h1,h2,h3,h4⟩=>by
   have ho:out=[nameA]:=kr_names h2 (fun y=>by
    rw [h3 y,<- hmap]
    simp)
   subst ho
   exact ⟨⟨v,he,h1⟩,h4⟩)
 have HSE:=zh (fun (v u:Value) (W:World) (h1:Sl W No 9 v 1 (strs [nameA])) (h2:Sl W No 9 u 1 (strs [nameA]))=>strings_eq [nameA] v u W h1 h2)
 clear hrg1 hok1 hv2 hpv
 go_wp2_with (refine wpList_load_mid rfl 40 _ rfl gl 40 rfl [.int .i64 2,.int .i64 0,.int .i64 0,.slice pa 0 pc] _ HRG1.out underlying40 rfl ver_info ?_)
 with_reducible refine (HFD.out w4 (Mod.refl _ _)).mono ?_
 rintro e w5 ⟨⟨ds,rfl,hd1,hd2,hd3⟩,hm5⟩
 have HM5:=zh hm5
 have HD1:=zh hd1
 have HD2:=zh hd2
 have HD3:=zh hd3
 clear hm5 hd1 hd2 hd3 HFD HRG1
 go_upto_region 7 with (refine wpList_store_row rfl 46 _ _ rfl w5.heap.size ds.toArray rfl rfl 46 _ (heap_alloc_new w5 _) (by rw [List.size_toArray,HD1.out];exact row_info) (by show _=ds.length;rw [HD1.out];rfl) HD2.out ?_)
 obtain ⟨gt,hgt⟩:∃ g,g=w5.heap.size:=⟨_,rfl⟩
 rw [<- hgt]
 generalize hw6:World.setRow _ gt ds.toArray=w6
 have HM6:=zh (show Mod No w4 w6 by rw [<- hw6,hgt];exact HM5.out.trans (((Mod.refl No w5).alloc _).setRow (fun h=>absurd h (by omega)) _))
 have hgb:w6.heap[gt]? = some (.cells ds.toArray 46 (0,0)):=by rw [<- hw6,hgt];exact setRow_heap _ _ _ _ _ _ (heap_alloc_new w5 _)
 have HGB:=zh hgb
 clear hw6 hgt hgb HM5 HD2
 go_wp2_with fail
 with_reducible refine (HVS.out w6 HM6.out).mono ?_
 rintro e w7 ⟨⟨gv,ov,cv,rfl,hcv⟩,hm7⟩
 have HM7:=zh (HM6.out.trans hm7)
 have HCV:=zh hcv
 have c1:=cell_ofA (hm7.keep HGB.out (fun f=>f)) (i:=1) (v:=.int .i64 2) (by rw [List.getElem?_toArray];exact HD3.out)
 obtain ⟨nn,nnc,hn0⟩:=HN0.out
 have c38:=HM7.out.cell hn0 (fun f=>f)
 have hzz:(ZX.toList == ZX.toList)=true:=by simp
 clear hcv hm7 HVS hn0 HN0
 go_wp2_with fail
 with_reducible refine (HTT.out w7 HM7.out).mono ?_
 rintro e w8 ⟨rfl,hm8⟩
 have HM8:=zh hm8
 clear hm8 HTT c1 c38
 go_wp2_with fail
 with_reducible refine (HNN.out w8 (HM7.out.trans HM8.out)).mono ?_
 rintro e w9 ⟨⟨nv,rfl,hnv⟩,hm9⟩
 obtain ⟨va,vc,hvv⟩:=hnv.len
 subst hvv
 have HNV:=zh hnv
 have HM9:=zh (HM8.out.trans hm9)
 clear hm9 HNN hnv HM8
 go_wp2_with fail
 have hA:Sl (w9.alloc (.cells #[.string ⟨#[97]⟩] 9)) No 9 (.slice va 1 vc) 1 (strs [nameA]):=HNV.out.keep (S:=No) ((Mod.refl No w9).alloc _) (fun _ _ _ f=>f.elim)
 have hB:Sl (w9.alloc (.cells #[.string ⟨#[97]⟩] 9)) No 9 (.slice (some ⟨w9.heap.size,0,none⟩) 1 1) 1 (strs [nameA]):=sl_new w9 9 (strs [nameA]) (Nat.le_refl 1) (by unfold maxLen;omega)
 have HSE2:=zh (HSE.out _ _ _ hA hB)
 clear hA hB HSE
 with_reducible refine HSE2.out.mono ?_
 rintro e w10 ⟨rfl,hm10⟩
 have HM10:=zh (show Mod No w7 w10 from (HM9.out.alloc _).trans hm10)
 have ccv:=HM10.out.cell HCV.out (fun f=>f)
 have HMF:=zh (HM4.out.trans (HM7.out.trans HM10.out))
 clear hm10 HSE2 HNV HM9 HCV HM10
 go_wp2_with fail
 exact fin hR ⟨rfl,HMF.out⟩
end Go.Proofs.YtgiigemfbebcgaaGreatDoor
