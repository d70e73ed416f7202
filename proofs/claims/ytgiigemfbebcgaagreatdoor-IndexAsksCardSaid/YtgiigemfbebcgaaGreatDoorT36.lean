/-
  Layers 0 to 14: helps of the laws of indexes. No statement is proved here; no condition.
-/
import Derived.Test.YtgiigemfbebcgaaGreatDoorT35
import Derived.Test.YtgiigemfbebcgaaGreatDoorT12
import Derived.Test.YtgiigemfbebcgaaGreatDoorT21
namespace Go.Proofs.YtgiigemfbebcgaaGreatDoor
open _root_.Go.Proofs.Tryz
open Go.RowKit Go.Sort
def sortN (r:Rw):Rw:={ r with needs:=sortR ltNd r.needs }
theorem atL_sort (st:List Rw) (name:List UInt8) (v:Ver):atL (st.map sortN) name v=atL st name v:=by
 unfold atL
 rw [List.findIdx?_map]
 rfl
theorem sortR_snoc {α:Type} (lt:α->α->Bool) (l:List α) (x:α):sortR lt (l++[x])=insR (lt x) x (sortR lt l):=by
 unfold sortR
 rw [List.foldl_append]
 rfl
theorem sort_names (l:List Nd) (n:List UInt8):n ∈ (sortR ltNd l).map Nd.name ↔ n ∈ l.map Nd.name:=by
 simp only [List.mem_map,sortR_mem]
theorem rowL_sort {a b c d:List UInt8} {r:Rw} (h:rowL a b c d=some r):sortN r=r:=by
 unfold rowL at h
 split at h
 ·obtain ⟨v,-,h⟩:=Option.bind_eq_some_iff.1 h
  obtain ⟨k,-,h⟩:=Option.bind_eq_some_iff.1 h
  obtain ⟨n,-,h⟩:=Option.map_eq_some_iff.1 h
  subst h
  rfl
 ·cases h
theorem line_rel {st:List Rw} {s:List UInt8} (hf:∀ r ∈ st,r.needs.length<=20):lineL (st.map sortN) s=(lineP st s).map (List.map sortN):=by
 unfold lineL lineP
 by_cases hp:headC 32 s=packT
 ·rw [if_pos hp]
  by_cases hc:32 ∈ s
  ·have h5:s.take 5=packT++[32]:=(begin_iff pack_no).2 ⟨hp,hc⟩
   obtain ⟨-,-,hs⟩:=begin_tail pack_no h5
   have hs2:splitC 32 s=packT :: splitC 32 (s.drop 5):=hs
   rw [if_pos h5]
   unfold packL rowLine
   rw [hs2]
   match hd:splitC 32 (s.drop 5) with
   | [a,b,c,d] =>
    dsimp only
    rw [if_pos rfl]
    cases hr:rowL a b c d with
    | none=>rfl
    | some r =>
     simp only [Option.bind_some]
     rw [atL_sort,List.length_map]
     by_cases hq:(atL st r.name r.v).isSome=true\/200<=st.length
     ·rw [if_pos hq,if_pos hq];rfl
     ·rw [if_neg hq,if_neg hq];simp [rowL_sort hr]
   | []=>rfl
   | [_]=>rfl
   | [_,_]=>rfl
   | [_,_,_]=>rfl
   | _ :: _ :: _ :: _ :: _ :: _=>rfl
  ·have h5:s.take 5 ≠ packT++[32]:=fun h=>hc ((begin_iff pack_no).1 h).2
   have h6:s.take 5 ≠ needT++[32]:=fun h=>hc ((begin_iff need_no).1 h).2
   rw [if_neg h5,if_neg h6]
   have h7:rowLine s=none:=rowLine_len (by
    rw [splitC_none (fun d hd e=>hc (by rw [<- e];exact hd))];simp)
   rw [h7]
   rfl
 ·rw [if_neg hp]
  have h5:s.take 5 ≠ packT++[32]:=fun h=>hp ((begin_iff pack_no).1 h).1
  rw [if_neg h5]
  by_cases hn:headC 32 s=needT
  ·rw [if_pos hn]
   by_cases hc:32 ∈ s
   ·have h6:s.take 5=needT++[32]:=(begin_iff need_no).2 ⟨hn,hc⟩
    have h7:needLine s=needL (s.drop 5):=by unfold needLine;exact if_pos h6
    rw [if_pos h6]
    unfold wantL
    rw [h7]
    rcases List.eq_nil_or_concat st with rfl | ⟨zs,r,rfl⟩
    ·rfl
    ·rw [List.concat_eq_append] at *
     have hr:=hf r (by simp)
     rw [List.map_append,List.map_singleton,List.getLast?_concat,List.getLast?_concat]
     dsimp only
     cases hm:needL (s.drop 5) with
     | none=>rfl
     | some n =>
      simp only [Option.bind_some,List.dropLast_concat]
      have e1:(sortN r).name=r.name:=rfl
      have e2:(sortN r).needs=sortR ltNd r.needs:=rfl
      rw [e1,e2,sortR_length]
      by_cases hq:n.name=r.name\/n.name ∈ r.needs.map Nd.name\/r.needs.length=20
      ·rw [if_pos hq,if_pos (hq.elim .inl (fun h=>.inr (h.elim (fun h=>.inl ((sort_names _ _).2 h)) (fun h=>.inr (by omega)))))]
       rfl
      ·rw [if_neg hq,if_neg (fun h=>hq (h.elim .inl (fun h=>.inr (h.elim (fun h=>.inl ((sort_names _ _).1 h)) (fun h=>.inr (by omega))))))]
       rw [<- sortR_snoc,Option.map_some,List.map_append]
       rfl
   ·have h6:s.take 5 ≠ needT++[32]:=fun h=>hc ((begin_iff need_no).1 h).2
    have h7:needLine s=none:=by unfold needLine;exact if_neg h6
    rw [if_neg h6,h7]
    cases st.getLast? <;> rfl
  ·rw [if_neg hn]
   have h6:s.take 5 ≠ needT++[32]:=fun h=>hn ((begin_iff need_no).1 h).1
   rw [if_neg h6]
   rfl
def sortX (x:RwX):RwX:=⟨sortN x.r,x.pv,x.nv⟩
def toX (z:NdY):NdX:=⟨z.n,.slice z.oa z.om z.oc⟩
theorem nds_y {w:World}:∀ (ys:List NdX),(∀ y ∈ ys,OrsAt w y.ov y.n.span.ors)->∃ L:List NdY,L.map toX=ys
 | [],_=>⟨[],rfl⟩
 | y :: ys,h=>by
  obtain ⟨L,hL⟩:=nds_y ys (fun z hz=>h z (by simp [hz]))
  obtain ⟨zs,-,-,hz⟩:=h y (by simp)
  obtain ⟨a,c,e⟩:=hz.len
  exact ⟨⟨y.n,a,_,c⟩ :: L,by rw [List.map_cons,hL];unfold toX;dsimp only;rw [<- e]⟩
theorem toX_flat (L:List NdY):(L.map toX).flatMap NdX.cells=L.flatMap NdY.cells:=by
 rw [List.flatMap_map]
 rfl
theorem RwW.sortable {B:Nat} {w:World} {x:RwX} (h:RwW B w x):∃ (p:Option Addr) (cap:Nat) (L:List NdY) (g:Nat) (rest:List Value),x.nv=.slice p L.length cap/\L.length<=20/\NdHeap w p L g rest/\(L ≠ []->x.nv.ownBlock=some g) ∧
  ∀ w',NdHeap w' p (sortR (ltOf cfNd) L) g rest->Mod (fun q=>q=g/\L ≠ []) w w'->RwW B w' (sortX x):=by
 obtain ⟨ys,h1,h2,h3⟩:=h.own
 obtain ⟨L,rfl⟩:=nds_y ys h2
 have hn:L.length=x.r.needs.length:=by rw [<- h1];simp
 have hLn:L.map NdY.n=x.r.needs:=by rw [<- h1,List.map_map];rfl
 by_cases hL:L=[]
 ·subst hL
  have hz:x.r.needs=[]:=by rw [<- h1];rfl
  obtain ⟨p,cap,hv⟩:=(Sl.of_own (X:=No) h3 (fun _ _ f=>f)).len
  refine ⟨p,cap,[],0,[],by rw [hv,hz];rfl,by simp,.inl rfl,fun e=>absurd rfl e,fun w' _ hm=>?_⟩
  have hm2:Mod No w w':=hm.weaken (fun _ _ e=>e.2 rfl)
  have he:sortX x=x:=by
   obtain ⟨r,pv,nv⟩:=x
   obtain ⟨a,b,c,d,nds⟩:=r
   obtain rfl:nds=[]:=hz
   rfl
  rw [he]
  exact h.no hm2
 ·obtain ⟨hl,⟨hv,h0⟩ | ⟨g,cap,cur,hv,hg,hh,hnc,hcm,hcs,ht⟩⟩:=h3
  ·exact absurd (List.eq_nil_of_length_eq_zero (by omega)) hL
  ·rw [toX_flat] at ht hl
   have hcur:cur=(L.flatMap NdY.cells++cur.toList.drop (x.r.needs.length*4)).toArray:=by
    rw [<- ht,List.take_append_drop]
   refine ⟨_,cap,L,g,cur.toList.drop (x.r.needs.length*4),by rw [hv,hn],by rw [hn];exact h.few,.inr ⟨rfl,by rw [<- hcur];exact hh⟩,fun _=>by rw [hv];rfl,fun w' hw' hm=>?_⟩
   have hap:Apart [9,153,126] (fun q=>q=g/\L ≠ []) w:=fun k c e z hk hc hm=>by
    rw [hk.1,hh] at hc
    cases hc
    simp at hm
   have hsl:(sortR (ltOf cfNd) L).length=x.r.needs.length:=by rw [sortR_length,hn]
   have hs0:sortR (ltOf cfNd) L ≠ []:=fun e=>hL (List.eq_nil_of_length_eq_zero (by rw [<- sortR_length (ltOf cfNd) L,e];rfl))
   rcases hw' with e | ⟨-,hh2⟩
   ·exact absurd e hs0
   ·have hfl:((sortR (ltOf cfNd) L).flatMap NdY.cells).length=x.r.needs.length*4:=by rw [flat_length NdY.len,hsl]
    have hok:=h.ok.keep hm (hap.less (by simp))
    have hsn:(sortX x).r.needs=sortR ltNd x.r.needs:=rfl
    refine ⟨⟨hok.sum,hok.small,hok.pre,hok.nv⟩,by rw [hsn,sortR_length];exact h.few,(sortR (ltOf cfNd) L).map toX,?_,fun y hy=>?_,?_⟩
    ·rw [List.map_map,show NdX.n∘toX=NdY.n from rfl,sort_nds,hLn]
     rfl
    ·obtain ⟨z,hz,rfl⟩:=List.mem_map.1 hy
     exact (h2 (toX z) (List.mem_map.2 ⟨z,(sortR_mem _ _ _).1 hz,rfl⟩)).keep hm hap
    ·rw [toX_flat,hsn,sortR_length]
     refine ⟨hfl,.inr ⟨g,cap,_,hv,hg,hh2,hnc,hcm,?_,?_⟩⟩
     ·rw [List.size_toArray,List.length_append,hfl,<- hcs,<- hl]
      rw [hl,List.length_drop,Array.length_toList]
      have:x.r.needs.length*4<=cur.size:=by rw [hcs];exact Nat.mul_le_mul_right _ hnc
      omega
     ·rw [<- hfl]
      simp
theorem RowsW.sorted {B:Nat} {w w':World} {v:Value} {us bs:List RwX} {x:RwX} {g:Nat} {P:Prop} (h:RowsW B w v (us++x :: bs)) (hg:P->x.nv.ownBlock=some g) (hm:Mod (fun q=>q=g/\P) w w') (hx:RwW B w' (sortX x)):RowsW B w' v (us++sortX x :: bs):=by
 obtain ⟨d1,d2,d3⟩:=List.pairwise_append.1 h.dist
 obtain ⟨d4,d5⟩:=List.pairwise_cons.1 d2
 have hap:Apart [9,153,126] (fun q=>q=g/\P) w:=fun k c e z hk hc hm=>by
  obtain ⟨ys,-,-,h3⟩:=(h.each x (by simp)).own
  obtain ⟨cur,h4⟩:=own_heapM h3 (hg hk.2)
  rw [hk.1,h4] at hc
  cases hc
  simp at hm
 refine ⟨?_,fun y hy=>?_,?_⟩
 ·have h1:=own_keepM h.own hm (fun k hk e=>h.apart (x:=x) (by simp) (hg e.2) (by rw [<- e.1];exact hk))
  simpa [sortX,RwX.cells,sortN] using h1
 ·rcases List.mem_append.1 hy with hy | hy
  ·exact (h.each y (by simp [hy])).keep hm hap (fun k hk e=>d3 y hy x (by simp) k hk (by rw [e.1];exact hg e.2))
  ·rcases List.mem_cons.1 hy with rfl | hy
   ·exact hx
   ·exact (h.each y (by simp [hy])).keep hm hap (fun k hk e=>d4 y hy g (hg e.2) (by rw [<- e.1];exact hk))
 ·refine List.pairwise_append.2 ⟨d1,List.pairwise_cons.2 ⟨fun b hb=>d4 b hb,d5⟩,fun a ha b hb=>?_⟩
  rcases List.mem_cons.1 hb with rfl | hb
  ·exact d3 a ha x (by simp)
  ·exact d3 a ha b (by simp [hb])
def IxRes (w':World) (s:List UInt8) (e:Ending):Prop:=match indexL s with
 | .inr i=>e=.returned (.tuple #[.slice none 0 0,.int .i64 i,.int .i64 65])
 | .inl st=>∃ B v xs,e=.returned (.tuple #[v,.int .i64 0,.int .i64 0])/\RowsW B w' v xs/\xs.map RwX.r=st/\xs.length<=200
theorem lines_le {s l:List UInt8} (h:l ∈ linesL s):l.length<=s.length:=by
 unfold linesL at h
 split at h
 ·exact splitC_mem_le 10 s l (List.dropLast_subset _ h)
 ·exact splitC_mem_le 10 s l h
theorem lines_len (s:List UInt8):(linesL s).length<=s.length+1:=by
 have:=splitC_length_le 10 s
 unfold linesL
 split
 ·rw [List.length_dropLast];omega
 ·omega
theorem goL_silent {st:List Rw} {i:Nat} {ls:List (List UInt8)} {k:Nat} (hk:k < ls.length) (h:silentB ls[k]=true):goL st i (ls.drop k)=goL st (i+1) (ls.drop (k+1)):=by
 rw [List.drop_eq_getElem_cons hk,goL,if_pos h]
theorem goL_line {st:List Rw} {i:Nat} {ls:List (List UInt8)} {k:Nat} (hk:k < ls.length) (h:silentB ls[k]=false):goL st i (ls.drop k)=match lineL st ls[k] with
  | none=>.inr (i+1)
  | some st'=>goL st' (i+1) (ls.drop (k+1)):=by
 rw [List.drop_eq_getElem_cons hk,goL,if_neg (by rw [h];simp)]
 rfl
theorem part_sorted {ys:List RwX} {rs:List Rw} {j:Nat} (hl:rs.length=ys.length) (hj:j < ys.length) (h:ys.map RwX.r=(rs.take j).map sortN++rs.drop j) :
  (ys.take j).map RwX.r=(rs.take j).map sortN/\ys[j].r=rs[j]'(by omega)/\(ys.drop (j+1)).map RwX.r=rs.drop (j+1):=by
 have h2:(ys.take j).map RwX.r++ys[j].r :: (ys.drop (j+1)).map RwX.r=(rs.take j).map sortN++rs[j]'(by omega) :: rs.drop (j+1):=by
  rw [<- List.drop_eq_getElem_cons,<- h]
  conv=>rhs;rw [<- List.take_append_drop j ys,List.drop_eq_getElem_cons hj,List.map_append,List.map_cons]
 obtain ⟨a,b⟩:=List.append_inj h2 (by rw [List.length_map,List.length_map,List.length_take,List.length_take,hl])
 obtain ⟨b1,b2⟩:=List.cons.inj b
 exact ⟨a,b1,b2⟩
theorem part_next {us bs:List RwX} {x:RwX} {rs:List Rw} {j:Nat} (hj:j < rs.length) (h1:us.map RwX.r=(rs.take j).map sortN) (h2:x.r=rs[j]) (h3:bs.map RwX.r=rs.drop (j+1)) :
  (us++sortX x :: bs).map RwX.r=(rs.take (j+1)).map sortN++rs.drop (j+1):=by
 have h4:(sortX x).r=sortN x.r:=rfl
 rw [List.map_append,List.map_cons,h1,h3,h4,h2,List.take_succ_eq_append_getElem hj,List.map_append]
 simp
set_option maxRecDepth 100000 in
set_option maxHeartbeats 8000000 in
theorem ixparse_any (s:List UInt8) (hl:s.length<=100000) (w:World) (hgl:Gl w) :
  Calls prog 11 #[strV s] w fun e w'=>IxRes w' s e/\Mod No w w':=by
 refine calls_hide fun R hR=>?_
 have HZ:=zh (str_len3 s)
 have HLN:=zh (fun w h=>lines_any s (by omega) w h)
 have HIX:=zh (show indexL s=if 65536 < s.length then .inr 0 else goL [] 0 (linesL s) from rfl)
 have HG:=zh hgl
 clear hgl
 unfold strV at HZ HLN ⊢
 generalize (⟨s.toArray⟩:ByteArray)=Z at *
 have hZs:(Z.size:Int)=(s.length:Int):=by rw [HZ.out]
 go_enter func11,ntmps11
 by_cases hbig:65536 < s.length
 ·have hgt:(65536:Int) < (s.length:Int):=by omega
  have HE:=zh (show ∀ w',IxRes w' s (.returned (.tuple #[.slice none 0 0,.int .i64 0,.int .i64 65])) from fun w'=>by unfold IxRes;rw [HIX.out,if_pos hbig];rfl)
  go_wp2_with fail
  exact bodyPost_ret (v:=.tuple #[.slice none 0 0,.int .i64 0,.int .i64 65]) (by simp [results,results11]) rfl (fin hR ⟨HE.out _,Mod.refl _ _⟩)
 ·rw [if_neg hbig] at HIX
  have hgt:¬ ((65536:Int) < (s.length:Int)):=by omega
  go_wp2_with fail
  with_reducible refine (HLN.out _ HG.out).mono ?_
  rintro e w2 ⟨lv,rfl,hsl,hm2⟩
  have HM2:=zh hm2
  have HSL:=zh hsl
  have HG2:=zh (HG.out.stay hm2 (fun f=>f))
  have hll:=lines_len s
  have HLE:=zh (fun l (h:l ∈ linesL s)=>lines_le h)
  clear hm2 hsl HLN HG hbig
  generalize linesL s=ls at *
  obtain ⟨n,hn⟩:∃ n,n=ls.length:=⟨_,rfl⟩
  obtain ⟨la,lc,hlv⟩:=HSL.out.len
  rw [<- hn] at hlv hll
  subst hlv
  have HN:=zh hn
  have HSL2:=zh (show Sl w2 No 9 (.slice la n lc) n (strs ls) by have h:=HSL.out;rw [<- hn] at h;exact h)
  clear hn HSL
  obtain ⟨B,hB⟩:∃ B,B=w2.heap.size:=⟨_,rfl⟩
  have HB:=zh hB
  have HB0:=zh (show 0 < B by
   obtain ⟨m,h⟩:=HG2.out
   have:=lt_of_cell h
   rw [hB];exact this)
  have HBW:=zh (show w.heap.size<=B by rw [hB];exact HM2.out.size)
  clear hB
  go_wp2_with fail
  go_loopw [5,17] (fun q5 q17 wr=>∃ (k:Nat) (xs:List RwX) (v:Value),k<=n/\q17=.int .i64 (k:Int)/\q5=v/\RowsW B wr v xs/\xs.length<=200/\Mod (fun b=>B<=b) w2 wr/\goL [] 0 ls=goL ((xs.map RwX.r).map sortN) k (ls.drop k)) (fun _ q _=>n - (intOf q).toNat)
  case atStart=>exact ⟨0,[],.slice none 0 0,by omega,rfl,rfl,RowsW.nil _ _,by simp,Mod.refl _ _,rfl⟩
  case round =>
   obtain ⟨k,xs,v,hk,rfl,rfl,hrows,hx200,hmod,hgo⟩:=hrel
   have hk0:(0:Int)<=(k:Int):=Int.natCast_nonneg _
   have HM:=zh hmod
   have HR:=zh hrows
   have HGO:=zh hgo
   have HF:=zh (show ∀ r ∈ xs.map RwX.r,r.needs.length<=20 from fun r hr=>by
    obtain ⟨x,hx,rfl⟩:=List.mem_map.1 hr
    exact (hrows.each x hx).few)
   have HGR:=zh (HG2.out.stay hmod (fun h=>Nat.lt_irrefl _ (Nat.lt_of_lt_of_le HB0.out h)))
   have HMW:=zh (show Mod No w wr from HM2.out.then hmod (fun i hi h=>Nat.lt_irrefl _ (Nat.lt_of_lt_of_le hi (Nat.le_trans HBW.out h))))
   have HBR:=zh (show B<=wr.heap.size by rw [HB.out];exact hmod.size)
   clear hmod hrows hgo
   by_cases hlt:k < n
   ·have hlt2:k < ls.length:=by rw [<- HN.out];exact hlt
    have hk1:(k:Int) < (n:Int):=by omega
    have hc:wr.heap.size ≥ 0:=Nat.zero_le _
    have HKL:=zh hlt2
    have hsl:=(HSL2.out.avoid.shrink (Y:=fun b=>B<=b) (fun b _ h=>.inr (by rw [<- HB.out];exact h)))
    obtain ⟨pb,po,pc,hvs,_,_,hnb⟩:=hsl.shape (by omega)
    cases hvs
    have hcell:=HM.out.cell (hsl.cellN (i:=k) (by rw [strs_length];exact hlt2)) hnb
    rw [show (strs ls)[k]'(by rw [strs_length];exact hlt2)=.string ⟨ls[k].toArray⟩ from List.getElem_map ..] at hcell
    have HSI:=zh (silent_any ls[k] wr)
    have hle:=HLE.out ls[k] (List.getElem_mem hlt2)
    have HLI:=zh (line_any B xs hx200 u5 ls[k] (by omega) wr HGR.out HR.out HBR.out)
    have HSY:=zh (fun h=>goL_silent (st:=(xs.map RwX.r).map sortN) (i:=k) hlt2 h)
    have HNS:=zh (fun h=>goL_line (st:=(xs.map RwX.r).map sortN) (i:=k) hlt2 h)
    have HRL:=zh (line_rel (s:=ls[k]) HF.out)
    clear hsl hnb hc
    generalize ls[k]=L at *
    unfold strV at *
    generalize (⟨L.toArray⟩:ByteArray)=ZL at *
    obtain ⟨ra,rc,hv5⟩:=HR.out.sl.len
    subst hv5
    go_wp2_with fail
    with_reducible refine HSI.out.mono ?_
    rintro e w9 ⟨rfl,h9⟩
    rw [h9]
    clear h9 w9
    cases hsil:silentB L with
    | true =>
     have HG5:=zh (HGO.out.trans (HSY.out hsil))
     clear HLI HSY HNS HRL HGO
     go_wp2_with fail
     exact ⟨⟨k+1,xs,_,by omega,rfl,rfl,HR.out,hx200,HM.out,HG5.out⟩,by show n - ((k:Int)+1).toNat < n - (k:Int).toNat;omega⟩
    | false =>
     have HG5:=zh (HGO.out.trans (HNS.out hsil))
     clear HSY HNS HGO
     go_wp2_with fail
     with_reducible refine HLI.out.mono ?_
     rintro e w4 ⟨⟨v4,ok,rfl,hok⟩,hm4⟩
     have HM4:=zh hm4
     have HM4B:=zh (HM.out.trans (hm4.weaken (fun q _ h=>h)))
     clear hm4 HLI
     cases ok with
     | false =>
      have hok2:lineP (xs.map RwX.r) L=none:=hok
      have HRES:=zh (show indexL s=.inr (k+1) by
       rw [HIX.out,HG5.out,HRL.out,hok2];rfl)
      have hwk:IntKind.i64.wrap ((k:Int)+1)=(k:Int)+1:=by rw [IntKind.wrap_i64];omega
      have hwk2:=wrap_nat (k:=k+1) (by omega)
      have HW:=zh (show Mod No w w4 from HM2.out.then HM4B.out (fun i hi h=>Nat.lt_irrefl _ (Nat.lt_of_lt_of_le hi (Nat.le_trans HBW.out h))))
      clear hok hok2 HG5 HRL hwk2
      go_wp2_with fail
      exact bodyPost_ret (v:=.tuple #[.slice none 0 0,.int .i64 ((k:Int)+1),.int .i64 65]) (by simp [results,results11]) rfl (fin hR ⟨by unfold IxRes;rw [HRES.out];rfl,HW.out⟩)
     | true =>
      obtain ⟨xs4,hl4,hr4,hn4⟩:=(show ∃ xs',lineP (xs.map RwX.r) L=some (xs'.map RwX.r)/\RowsW B w4 v4 xs'/\xs'.length<=200 from hok)
      have HR4:=zh hr4
      have HG6:=zh (show goL [] 0 ls=goL ((xs4.map RwX.r).map sortN) (k+1) (ls.drop (k+1)) by rw [HG5.out,HRL.out,hl4];rfl)
      clear hok hl4 hr4 HG5 HRL
      go_wp2_with fail
      exact ⟨⟨k+1,xs4,v4,by omega,rfl,rfl,HR4.out,hn4,HM4B.out,HG6.out⟩,by show n - ((k:Int)+1).toNat < n - (k:Int).toNat;omega⟩
   ·obtain rfl:k=n:=by omega
    have hk1:¬ ((k:Int) < (k:Int)):=by omega
    have HRES:=zh (show indexL s=.inl ((xs.map RwX.r).map sortN) by
     rw [HIX.out,HGO.out,HN.out,List.drop_length];rfl)
    obtain ⟨m,hm⟩:∃ m,m=xs.length:=⟨_,rfl⟩
    have HXM:=zh hm
    obtain ⟨ra,rc,hv5⟩:=HR.out.sl.len
    subst hv5
    rw [<- hm]
    rw [<- hm] at HR
    have hm200:m<=200:=by omega
    have HRM0:=zh (show ∃ xs':List RwX,RowsW B wr (.slice ra m rc) xs'/\xs'.length=m/\xs'.map RwX.r=((xs.map RwX.r).take 0).map sortN++(xs.map RwX.r).drop 0 from ⟨xs,HR.out,hm.symm,by simp⟩)
    have HMM:=zh HM.out
    obtain ⟨rs,hrs⟩:∃ rs,rs=xs.map RwX.r:=⟨_,rfl⟩
    have HRL:=zh (show rs.length=m by rw [hrs,hm];simp)
    rw [<- hrs] at HRES HRM0
    clear hm hrs HR HF HGO HXM
    go_wp2_with fail
    go_loopw [38] (fun q wr=>∃ j:Nat,j<=m/\q=.int .i64 (j:Int)/\(∃ xs':List RwX,RowsW B wr (.slice ra m rc) xs'/\xs'.length=m/\xs'.map RwX.r=(rs.take j).map sortN++rs.drop j)/\Mod (fun b=>B<=b) w2 wr) (fun q _=>m - (intOf q).toNat)
    case atStart=>exact ⟨0,by omega,rfl,HRM0.out,HMM.out⟩
    case round =>
     obtain ⟨j,hj,rfl,⟨ys,hys,hyl,hym⟩,hmo⟩:=hrel
     have HMO:=zh hmo
     have HY:=zh hys
     have HYM:=zh hym
     have hj0:(0:Int)<=(j:Int):=Int.natCast_nonneg _
     clear hmo hys hym
     by_cases hjt:j < m
     ·have hj1:(j:Int) < (m:Int):=by omega
      have hjy:j < ys.length:=by omega
      have hsp:ys=ys.take j++ys[j] :: ys.drop (j+1):=by
       conv=>lhs;rw [<- List.take_append_drop j ys,List.drop_eq_getElem_cons hjy]
      obtain ⟨us,hus⟩:∃ us,us=ys.take j:=⟨_,rfl⟩
      obtain ⟨bs,hbs⟩:∃ bs,bs=ys.drop (j+1):=⟨_,rfl⟩
      have hul:us.length=j:=by rw [hus,List.length_take];omega
      obtain ⟨q1,q2,q3⟩:=part_sorted (by rw [HRL.out,hyl]) hjy HYM.out
      rw [<- hus] at q1
      rw [<- hbs] at q3
      have HQ:=zh (And.intro q1 (And.intro q2 q3))
      clear q1 q2 q3
      rw [<- hus,<- hbs] at hsp
      generalize ys[j]=x at *
      subst hsp
      have hxx:=HY.out.each x (by simp)
      obtain ⟨p,cap,L,g,rest,hnv,hL20,hheap,hown,hback⟩:=hxx.sortable
      have HBK:=zh (fun w' hm=>HY.out.sorted (w':=w') hown hm)
      have HBQ:=zh hback
      have HSS:=zh (sortstable_any L hL20 p g cap rest wr hheap)
      have HGB:=zh (show ∀ q,q=g/\L ≠ []->B<=q from fun q e=>by
       rw [e.1]
       obtain ⟨ys2,-,-,h3⟩:=hxx.own
       obtain ⟨_,⟨hv,_⟩ | ⟨g',cap',cur,hv,hg',_⟩⟩:=h3
       ·have:=hown e.2;rw [hv] at this;cases this
       ·have:=hown e.2;rw [hv] at this;cases this;exact hg')
      obtain ⟨b,o,c,hvs,_⟩:=HY.out.sl.shape (by omega)
      have hbv:ra=some ⟨b,o,none⟩:=by cases hvs;rfl
      subst hbv
      have h9:=HY.out.sl
      rw [hyl] at h9
      have hcell:=(Sl.atM (fun y hy=>RwX.cells_length y (HY.out.each y hy).ok.sum) h9 hjy) 38 x.nv (by
       rw [show (us++x :: bs)[j]'hjy=x by rw [List.getElem_append_right (by omega)];simp [hul]]
       exact rows_get38' hxx.ok.sum)
      rw [hnv] at hcell
      clear hxx hnv hheap hown hback hvs h9
      go_wp2_with fail
      with_reducible refine HSS.out.mono ?_
      rintro e w5 ⟨rfl,hh5,hm5⟩
      have HR5:=zh (HBK.out w5 hm5 (HBQ.out w5 hh5 hm5))
      have HM5:=zh (HMO.out.trans (hm5.weaken (fun q _ h=>HGB.out q h)))
      have HP5:=zh (part_next (by rw [HRL.out];exact hjt) HQ.out.1 HQ.out.2.1 HQ.out.2.2)
      have hl5:(us++sortX x :: bs).length=m:=by simpa using hyl
      clear hh5 hm5 HBK HBQ HSS hcell
      go_wp2_with fail
      exact ⟨⟨j+1,by omega,rfl,⟨us++sortX x :: bs,HR5.out,hl5,HP5.out⟩,HM5.out⟩,by show m - ((j:Int)+1).toNat < m - (j:Int).toNat;omega⟩
     ·obtain rfl:j=m:=by omega
      have hj1:¬ ((j:Int) < (j:Int)):=by omega
      have HIN:=zh (show ys.map RwX.r=rs.map sortN by
       rw [HYM.out,<- HRL.out,List.take_length,List.drop_length,List.append_nil])
      have HW:=zh (show Mod No w wr from HM2.out.then HMO.out (fun i hi h=>Nat.lt_irrefl _ (Nat.lt_of_lt_of_le hi (Nat.le_trans HBW.out h))))
      have hy200:ys.length<=200:=by omega
      go_wp2_with fail
      exact bodyPost_ret (v:=.tuple #[.slice ra j rc,.int .i64 0,.int .i64 0]) (by simp [results,results11]) rfl (fin hR ⟨by unfold IxRes;rw [HRES.out];exact ⟨B,_,ys,rfl,HY.out,HIN.out,hy200⟩,HW.out⟩)
end Go.Proofs.YtgiigemfbebcgaaGreatDoor
