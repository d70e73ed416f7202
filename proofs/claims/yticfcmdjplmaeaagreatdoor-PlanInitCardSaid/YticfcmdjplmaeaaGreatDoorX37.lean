/-
  Layers 0 to 14: helps of the laws of indexes. No statement is proved here; no condition.
-/
import Derived.Test.YticfcmdjplmaeaaGreatDoorX35
import Derived.Test.YticfcmdjplmaeaaGreatDoorX19
import Derived.Test.YticfcmdjplmaeaaGreatDoorX03
import Derived.Test.YticfcmdjplmaeaaGreatDoorX05
import Derived.Great.Walk
set_option maxRecDepth 100000
set_option maxHeartbeats 64000000
namespace Go.Proofs.YticfcmdjplmaeaaGreatDoor
open _root_.Go.Proofs.Tryz
open Go.RowKit
def kqR:SRow:=⟨0,0,[],0,0⟩
theorem made_lean (xs:List SrX) (hxl:xs.length<=1) (hkq:∀ x ∈ xs,x.r=kqR) (v:Value) (w:World) (hok:∀ x ∈ xs,SrOk w x) (h4:∀ x ∈ xs,x.r.needs.length<=4) (hv:SvX w No v xs.length (xs.flatMap SrX.cells)) :
  Calls prog 16 #[v] w fun e w'=>(∃ rv av ys as',e=.returned (.tuple #[rv,av,strV (indexT ((keptK [] (xs.map SrX.r)).map rowK))])/\MadeR w.heap.size w' (xs.map SrX.r) rv av ys as')/\Mod No w w':=by
 refine calls_hide fun R hR=>?_
 obtain ⟨va,vc,rfl⟩:=hv.len;have HOK:=zh hok;have H4:=zh h4;have HKQ:=zh hkq;have HV:=zh hv;obtain ⟨n,hn⟩:∃ n,n=xs.length:=⟨_,rfl⟩
 rw [<- hn] at hxl ⊢;have HN:=zh hn;clear hok h4 hv hn hkq;go_enter func16,ntmps16
 go_wp2_with fail
 go_loopw [5,6,7] (fun q5 q6 q7 wr=>∃ (k:Nat) (rv av:Value) (ys:List RwX) (as':List ArX),k<=n/\q7=.int .i64 (k:Int)/\q5=rv/\q6=av/\MadeR w.heap.size wr ((xs.map SrX.r).take k) rv av ys as'/\Mod No w wr) (fun q5 q6 q7 wr=>match q7 with | .int _ i=>n - i.toNat | _=>0)
 case atStart=>exact ⟨0,.slice none 0 0,.slice none 0 0,[],[],by omega,rfl,rfl,rfl,⟨⟨⟨by simp,.inl ⟨rfl,rfl⟩⟩,fun x hx=>by cases hx⟩,⟨⟨by simp,.inl ⟨rfl,rfl⟩⟩,fun x hx=>by cases hx⟩,rfl,rfl⟩,Mod.refl _ _⟩
 case round =>
  obtain ⟨k,rv,av,ys,as',hk,rfl,rfl,rfl,hmd,hmod⟩:=hrel;have hk0:(0:Int)<=(k:Int):=Int.natCast_nonneg _;have HM:=zh hmod;have HMD:=zh hmd;clear hmod hmd;by_cases hlt:k < n
  ·have hlt2:k < xs.length:=by rw [<- HN.out];exact hlt
   have hk1:(k:Int) < (n:Int):=by omega
   have HR1:=zh (show ∃ ib io,va=some ⟨ib,io,none⟩/\ib < w.heap.size/\wr.rangeAt ib (io+k*5) (SrX.cells xs[k]) from by
    obtain ⟨ib,io,c,hvs,-,-,-⟩:=HV.out.shape (by omega);cases hvs
    obtain ⟨tE,h9⟩:=HV.out.get (by omega);rw [<- HN.out] at h9;obtain ⟨cur,fz,h8⟩:=h9.block;refine ⟨ib,io,rfl,lt_of_heap h8,HM.out.rangeAt (Sl.at SrX.cells_length h9 hlt2) (fun f=>f)⟩)
   obtain ⟨ib,io,hva,hib,hrg⟩:=HR1.out;subst hva;have HKT:=zh (show keptK [] ((xs.map SrX.r).take (k+1))=keptK (keptK [] ((xs.map SrX.r).take k)) [xs[k].r] from by
    rw [kept_take (by rw [List.length_map];exact hlt2),List.getElem_map])
   have HST:=zh (show (keptK [] ((xs.map SrX.r).take k)).length<=1000 from by
    have h9:=kept_length ((xs.map SrX.r).take k) [];rw [List.length_nil,List.length_take] at h9;omega)
   have HSO:=zh (show SrOk wr xs[k] from ⟨(HOK.out _ (List.getElem_mem hlt2)).needs.kn HM.out,(HOK.out _ (List.getElem_mem hlt2)).few,(HOK.out _ (List.getElem_mem hlt2)).small⟩);have HSB:=zh (show SvX wr (fun q=>w.heap.size<=q) xs[k].nv xs[k].r.needs.length (u16s xs[k].r.needs) from
    ((HOK.out _ (List.getElem_mem hlt2)).needs.avoid.shrink (Y:=fun b=>w.heap.size<=b) (fun b _ h=>.inr h)).kn HM.out)
   have HP:=zh (fun a=>row1_lean undef (.slice none 0 0) (.slice none 0 0) (.string ⟨#[]⟩) undef undef undef undef w.heap.size (keptK [] ((xs.map SrX.r).take k)) ys as' xs[k] u5 u6 k ib io n vc a wr HM.out.size HMD.out.rows HMD.out.arcs HMD.out.told HMD.out.packed HST.out HSO.out HSB.out hlt hrg hib (by rw [show k=0 by omega];rfl) (by rw [HKQ.out _ (List.getElem_mem hlt2)];rfl) (by rw [HKQ.out _ (List.getElem_mem hlt2)];rfl) (by rw [HKQ.out _ (List.getElem_mem hlt2)];rfl));clear HR1 hib hrg;go_upto_block 1 with fail
   rename_i K1 hK1;refine wp_only (HP.out _ ⟨rfl,rfl,rfl,rfl,rfl,rfl,rfl,rfl,rfl,rfl,rfl,rfl,rfl,rfl,trivial⟩) ?_;rintro a9 w9 ⟨rv9,av9,ys9,as9,hF9,hr9,ha9,ht9,hp9,hm9⟩;have HM9:=zh (show Mod No w w9 from HM.out.then hm9 (fun i hi h=>Nat.lt_irrefl _ (Nat.lt_of_lt_of_le hi h)));have HMD9:=zh (show MadeR w.heap.size w9 ((xs.map SrX.r).take (k+1)) rv9 av9 ys9 as9 from ⟨hr9,ha9,by rw [HKT.out];exact ht9,by rw [HKT.out];exact hp9⟩);refine hK1 _ _ ?_;clear hK1 K1 hr9 ha9 ht9 hp9 hm9 HP HMD HM HST HSO HSB HKT;obtain ⟨ts,ds⟩:=a9;obtain ⟨hsz,hds,hs0,hs5,hs6,hs7,hs1,hs2,hs3,hs4,hs215,hs216,hs217,hs218,-⟩:=hF9;dsimp only at hsz hds hs0 hs5 hs6 hs7 hs1 hs2 hs3 hs4 hs215 hs216 hs217 hs218;subst hds;obtain ⟨c,rfl,hc⟩:=lit219 ts hsz;rw [hc] at hs0;rw [hc] at hs5;rw [hc] at hs6;rw [hc] at hs7;rw [hc] at hs1;rw [hc] at hs2;rw [hc] at hs3;rw [hc] at hs4;rw [hc] at hs215;rw [hc] at hs216;rw [hc] at hs217;rw [hc] at hs218;simp only [hs0,hs5,hs6,hs7,hs1,hs2,hs3,hs4,hs215,hs216,hs217,hs218];clear hc hsz hs0 hs5 hs6 hs7 hs1 hs2 hs3 hs4 hs215 hs216 hs217 hs218;go_wp2_with fail
   exact ⟨⟨k+1,_,_,ys9,as9,by omega,rfl,rfl,rfl,HMD9.out,HM9.out⟩,by show n - ((k:Int)+1).toNat < n - (k:Int).toNat;omega⟩
  ·obtain rfl:k=n:=by omega
   have hk1:¬ ((k:Int) < (k:Int)):=by omega
   have hml:(xs.map SrX.r).take k=xs.map SrX.r:=List.take_of_length_le (by rw [List.length_map,HN.out];exact Nat.le_refl _);rw [hml] at HMD;have hyl:ys.length<=20:=by
    have h9:=congrArg List.length HMD.out.told;rw [List.length_map,List.length_map] at h9;have h8:=kept_length (xs.map SrX.r) [];rw [List.length_nil,Nat.zero_add,List.length_map,<- HN.out] at h8;omega
   have HIX:=zh (show ∀ W,Mod No wr W->Calls prog 49 #[u5] W fun e w'=>e=.returned (strV (indexT ((keptK [] (xs.map SrX.r)).map rowK)))/\Mod No W w' from fun W hW=>by
    have h9:=ixtext_lean ys (fun y hy=>by
     have h8:y.r ∈ (keptK [] (xs.map SrX.r)).map rowK:=by rw [<- HMD.out.told];exact List.mem_map_of_mem hy
     obtain ⟨r,hr,he⟩:=List.mem_map.1 h8;rw [<- he];rcases kept_mem _ _ _ hr with h7 | h7
     ·cases h7
     ·obtain ⟨x,hx,rfl⟩:=List.mem_map.1 h7;rw [HKQ.out x hx];rfl) (by omega) u5 W (fun y hy=>⟨(HMD.out.rows.each y hy).keep hW (Apart.no _ _),by
     have h8:y.r ∈ (keptK [] (xs.map SrX.r)).map rowK:=by rw [<- HMD.out.told];exact List.mem_map_of_mem hy
     obtain ⟨r,hr,he⟩:=List.mem_map.1 h8;rw [<- he];refine rowK_small r ?_;rcases kept_mem _ _ _ hr with h7 | h7
     ·cases h7
     ·obtain ⟨x,hx,rfl⟩:=List.mem_map.1 h7;have:=H4.out x hx;omega⟩) ((Sl.of_own HMD.out.rows.own (fun _ _ f=>f)).kn hW) (by
     rw [HMD.out.told];have h9:=kept_text (xs.map SrX.r) (by rw [List.length_map,<- HN.out];omega) (fun r hr=>by
      obtain ⟨x,hx,rfl⟩:=List.mem_map.1 hr;exact H4.out x hx)
     omega)
    rw [HMD.out.told] at h9;exact h9)
   clear hml;generalize indexT ((keptK [] (xs.map SrX.r)).map rowK)=TX at *;go_wp2_with fail
   with_reducible refine (HIX.out _ (Mod.refl _ _)).mono ?_
   rintro e w9 ⟨rfl,hm9⟩;have HM9:=zh hm9;clear hm9 HIX;go_wp2_with fail
   exact bodyPost_ret (v:=.tuple #[u5,u6,strV TX]) (by simp [results,results16]) rfl (fin hR ⟨⟨_,_,ys,as',rfl,HMD.out.rows.no HM9.out,HMD.out.arcs.no HM9.out,HMD.out.told,HMD.out.packed⟩,HM.out.trans HM9.out⟩)
end Go.Proofs.YticfcmdjplmaeaaGreatDoor
namespace Go.Proofs.YticfcmdjplmaeaaGreatDoor
open _root_.Go.Proofs.Tryz
open Go.RowKit Go.Sort
structure RmW (w:World) (gm:Nat) (m:Mf) (pv nv:Value):Prop where
 cells:w.heap[gm]? = some (.cells #[strV m.name,.int .i64 m.v.ma,.int .i64 m.v.mi,.int .i64 m.v.pa,pv,nv] 46 (0,0))
 pre:Sl w No 9 pv m.v.pre.length (strs m.v.pre)
 nds:NdsAt w nv m.needs
 rises:Rises Nd.name m.needs
 few:m.needs.length<=20
theorem RmW.no {w w':World} {gm:Nat} {m:Mf} {pv nv:Value} (h:RmW w gm m pv nv) (hm:Mod No w w'):RmW w' gm m pv nv :=
 ⟨hm.keep h.cells (fun f=>f),h.pre.kn hm,h.nds.keep hm (Apart.no _ _),h.rises,h.few⟩
theorem rm_apart {w:World} {gm:Nat} {cs:Array Value} (h:w.heap[gm]? = some (.cells cs 46 (0,0))):Apart [9,237,175,98] (fun q=>q=gm) w:=fun k cur fz e hk hc2 he=>by
 have hk2:k=gm:=hk;subst hk2;rw [h] at hc2;cases hc2
 simp at he
theorem RmW.turned {w w':World} {gm:Nat} {m m':Mf} {pv nv pv' nv':Value} (h:RmW w gm m pv nv) (hm:Mod (fun q=>q=gm) w w')
  (hc:w'.heap[gm]? = some (.cells #[strV m'.name,.int .i64 m'.v.ma,.int .i64 m'.v.mi,.int .i64 m'.v.pa,pv',nv'] 46 (0,0)))
  (hp:Sl w No 9 pv' m'.v.pre.length (strs m'.v.pre)) (hn:NdsAt w nv' m'.needs) (hr:Rises Nd.name m'.needs) (hf:m'.needs.length<=20):RmW w' gm m' pv' nv' :=
 ⟨hc,hp.apart hm ((rm_apart h.cells).less (by simp)),hn.keep hm (rm_apart h.cells),hr,hf⟩
theorem refver_w (l:List UInt8) (hl:l.length<=999999) (w:World) :
  Calls prog 11 #[strV l] w fun e w'=>(∃ (v:Ver) (pv:Value) (c:Int),e=.returned (.tuple #[verV v pv,.int .i64 c])/\Sl w' No 9 pv v.pre.length (strs v.pre)/\((c=0/\verOf l=some v)\/(c=60/\verOf l=none)))/\Mod No w w' :=
 (versionof_any l (by omega) w).mono fun e w' ⟨h,hm⟩=>⟨by
  rcases h with ⟨h1,h2⟩ | ⟨v,pv,h1,h2,h3⟩
  ·exact ⟨_,_,60,h2,.inl ⟨rfl,rfl,rfl⟩,.inr ⟨rfl,h1⟩⟩
  ·exact ⟨v,pv,0,h2,h3,.inl ⟨rfl,h1⟩⟩,hm⟩
theorem refmf_lean (s:List UInt8) (hs:s.length<=900000) (h2:(linesL s).length<=2) (w:World) :
  Calls prog 13 #[strV s] w fun e w'=>MfRes w' s e/\Mod No w w':=by
 refine calls_hide fun R hR=>?_
 have HZ:=zh (str_len3 s);have HLN:=zh (fun w=>reflines_any s (by omega) w);have HRES:=zh (mfOf_S s);have HLM:=zh (show ∀ x ∈ linesL s,x.length<=s.length from fun x hx=>by
  unfold linesL at hx;split at hx
  ·exact splitC_mem_le 10 s x ((List.dropLast_sublist _).subset hx)
  ·exact splitC_mem_le 10 s x hx)
 have HLL:=zh (show (linesL s).length<=s.length+1 from by
  have h:=splitC_length_le 10 s;unfold linesL;split
  ·rw [List.length_dropLast];omega
  ·exact h)
 have HBAD:=zh (show mfOf s=none->∀ W (i:Int),MfRes W s (.returned (.tuple #[.agg #[.string ⟨#[]⟩,.int .i64 0,.int .i64 0,.int .i64 0,.slice none 0 0,.slice none 0 0],.int .i64 i,.int .i64 62])) from fun h W i=>by
  unfold MfRes;rw [h];exact ⟨i,rfl⟩)
 have HGOOD:=zh (show ∀ m,mfOf s=some m->∀ W v,MftAt W v m->MfRes W s (.returned (.tuple #[v,.int .i64 0,.int .i64 0])) from fun m h W v hv=>by
  unfold MfRes;rw [h];exact ⟨v,rfl,hv⟩)
 unfold strV at HZ HLN ⊢;generalize (⟨s.toArray⟩:ByteArray)=Z at *;have hZs:(Z.size:Int)=(s.length:Int):=by rw [HZ.out]
 go_enter func13,ntmps13
 go_upto_region 1 with fail
 obtain ⟨ga,hga⟩:∃ g,g=w.heap.size:=⟨_,rfl⟩
 rw [<- hga];generalize hw1:World.alloc w _=w1;have ha1:w1.heap[ga]? = some (.cells #[.string ⟨#[]⟩,.int .i64 0,.int .i64 0,.int .i64 0,.slice none 0 0,.slice none 0 0] 46 (0,0)):=by rw [<- hw1,hga];exact heap_alloc_new w _
 have hm1:Mod No w w1:=by rw [<- hw1];exact (Mod.refl No w).alloc _
 have HA1:=zh ha1;have HM1:=zh hm1;have HGA:=zh (show w.heap.size<=ga by omega);clear hw1 ha1 hm1 hga;by_cases hlong:65536 < s.length
 ·have hN:mfOf s=none:=by rw [HRES.out,if_pos hlong]
  have HB:=zh (HBAD.out hN);have hlI:(65536:Int) < (s.length:Int):=by omega
  clear hN hlong;go_wp2_with (refine wpList_store_row rfl 46 _ _ rfl ga #[.string ⟨#[]⟩,.int .i64 0,.int .i64 0,.int .i64 0,.slice none 0 0,.slice none 0 0] rfl rfl 46 _ HA1.out (by kernel_rfl) (by rfl) (by kernel_rfl) ?_)
  have hg8:=setRow_heap _ ga _ #[.string ⟨#[]⟩,.int .i64 0,.int .i64 0,.int .i64 0,.slice none 0 0,.slice none 0 0] _ _ HA1.out;have hl9:=load_mft hg8;have HM8:=zh (HM1.out.setRow (S:=No) (g:=ga) (fun h=>by have:=HGA.out;omega) #[.string ⟨#[]⟩,.int .i64 0,.int .i64 0,.int .i64 0,.slice none 0 0,.slice none 0 0]);exact bodyPost_ret (v:=.tuple #[.agg #[.string ⟨#[]⟩,.int .i64 0,.int .i64 0,.int .i64 0,.slice none 0 0,.slice none 0 0],.int .i64 0,.int .i64 62]) (by simp [results,results13,asAddr,hl9]) rfl (fin hR ⟨HB.out _ _,HM8.out⟩)
 rw [if_neg hlong] at HRES;have hlI:¬ ((65536:Int) < (s.length:Int)):=by omega
 go_upto_region 4 with fail
 obtain ⟨gm,hgm⟩:∃ g,g=w1.heap.size:=⟨_,rfl⟩
 rw [<- hgm];generalize hw2:World.alloc w1 _=w2;have hb2:w2.heap[gm]? = some (.cells #[.string ⟨#[]⟩,.int .i64 0,.int .i64 0,.int .i64 0,.slice none 0 0,.slice none 0 0] 46 (0,0)):=by rw [<- hw2,hgm];exact heap_alloc_new w1 _
 have hm2:Mod No w1 w2:=by rw [<- hw2];exact (Mod.refl No w1).alloc _
 have HA2:=zh (hm2.keep HA1.out (fun f=>f));have HB2:=zh hb2;have HM2:=zh (HM1.out.trans hm2);have HGM:=zh (show w.heap.size<=gm/\gm ≠ ga from ⟨by have:=HM1.out.size;omega,fun e=>by have:=lt_of_heap HA1.out;omega⟩);clear hw2 hb2 hm2 hgm HA1 HM1 hlI;go_wp2_with fail
 with_reducible refine (HLN.out _).mono ?_
 rintro e w3 ⟨lv,rfl,hsl,hm3⟩;obtain ⟨la,lc,rfl⟩:=hsl.len;have hll:=HLL.out;generalize linesL s=ls at *;obtain ⟨n,hn⟩:∃ n,n=ls.length:=⟨_,rfl⟩
 rw [<- hn] at hsl hll ⊢;have HLS:=zh hsl;have HNL:=zh hn;have hn6:n<=2:=by omega
 have HM3:=zh (HM2.out.trans hm3);have HA3:=zh (hm3.keep HA2.out (fun f=>f));have HB3:=zh (hm3.keep HB2.out (fun f=>f));have HW3:=zh (show RmW w3 gm mf0 (.slice none 0 0) (.slice none 0 0) from ⟨HB3.out,.inl ⟨rfl,rfl,rfl⟩,⟨[],rfl,fun _ h=>(by cases h),.inl ⟨rfl,rfl,rfl⟩⟩,List.Pairwise.nil,by simp [mf0]⟩);clear hsl hm3 hn HLN HLL HA2 HB2 HM2 hll hlong hZs;go_wp2_with fail
 go_loopw [6,8] (fun q u wr=>∃ (k c:Nat) (m:Mf) (pv nv:Value),k<=n/\c<=k/\q=.int .i64 (c:Int)/\u=.int .i64 (k:Int)/\RmW wr gm m pv nv/\Mod (fun p=>p=gm) w3 wr/\mlinesS 0 mf0 ls=mlinesS c m (ls.drop k)) (fun _ u _=>n - (intOf u).toNat)
 case atStart=>exact ⟨0,0,mf0,_,_,by omega,by omega,rfl,rfl,HW3.out,Mod.refl _ _,by simp⟩
 case round =>
  obtain ⟨k,c,m,pv,nv,hk,hck,rfl,rfl,hmw,hmo,hgo⟩:=hrel;have HW:=zh hmw;have HMO:=zh hmo;have HGO:=zh hgo;have hk0:(0:Int)<=(k:Int):=Int.natCast_nonneg _;have hc0:(0:Int)<=(c:Int):=Int.natCast_nonneg _;have HAR:=zh (hmo.keep HA3.out (fun h=>HGM.out.2 h.symm));have HMR:=zh (show Mod No w wr from HM3.out.then hmo (fun i hi h=>by have:=HGM.out.1;have h2:i=gm:=h;omega));obtain ⟨pa,pc,hpv⟩:=hmw.pre.len;obtain ⟨na,nc,hnv⟩:∃ a c,nv=.slice a m.needs.length c:=by obtain ⟨xs,-,-,h3⟩:=hmw.nds;exact h3.len
  subst hpv hnv;clear hmw hmo hgo;by_cases hlt:k < n
  ·have hk1:(k:Int) < (n:Int):=by omega
   have hkl:k < ls.length:=by rw [<- HNL.out];exact hlt
   obtain ⟨b,o,c',hvs,_⟩:=HLS.out.shape (by omega);cases hvs
   have hcell:=HMO.out.cell (HLS.out.cellN (i:=k) (by rw [strs_length];exact hkl)) (fun h=>by
    obtain ⟨cur,fz,hb⟩:=HLS.out.block;have h:b=gm:=h;rw [h,HB3.out] at hb;cases hb)
   rw [show (strs ls)[k]'(by rw [strs_length];exact hkl)=.string ⟨ls[k].toArray⟩ from by simp [strs,strV]] at hcell;have hdr:ls.drop k=ls[k] :: ls.drop (k+1):=List.drop_eq_getElem_cons hkl;have hll:=HLM.out ls[k] (List.getElem_mem hkl);have HDR:=zh hdr;clear hdr;generalize ls[k]=L at *;have HLX:=zh (run_at L);have hT:=str_list L;have HLL:=zh (show L.length<=999999 by omega);have HLZ:=zh (str_len3 L);have HEX5:=zh (str_from L 5);have HEX8:=zh (str_from L 8);have HB1:=zh (begins_any L [110,97,109,101,32]);have HB8:=zh (begins_any L [118,101,114,115,105,111,110,32]);have HRN:=zh (refname_any (L.drop 5) (by rw [List.length_drop];omega));have HRV:=zh (refver_w (L.drop 8) (by rw [List.length_drop];omega));have HG2:=zh (fun h=>show mlinesS 0 mf0 ls=mlinesS c m (ls.drop (k+1)) by rw [HGO.out,HDR.out,mlinesS_silent h]);have HG3:=zh (fun (hs:silentB L=false) m' h=>show mlinesS 0 mf0 ls=mlinesS (c+1) m' (ls.drop (k+1)) by rw [HGO.out,HDR.out,mlinesS_step hs h]);have HG4:=zh (fun (hs:silentB L=false) h=>show mlinesS 0 mf0 ls=none by rw [HGO.out,HDR.out,mlinesS_bad hs h]);have hZs:((⟨L.toArray⟩:ByteArray).size:Int)=(L.length:Int):=by rw [str_len3]
   clear hll HGO HDR;unfold strV at *;obtain ⟨ZL,hZL⟩:∃ ZL:ByteArray,ZL=⟨L.toArray⟩:=⟨_,rfl⟩
   rw [<- hZL] at hT hcell HB1 HB8  HLX hZs HEX5 HEX8;obtain ⟨Z5,hZ5⟩:∃ Z5:ByteArray,Z5=⟨(L.drop 5).toArray⟩:=⟨_,rfl⟩
   obtain ⟨Z8,hZ8⟩:∃ Z8:ByteArray,Z8=⟨(L.drop 8).toArray⟩:=⟨_,rfl⟩
   rw [<- hZ5] at HEX5 HRN;rw [<- hZ8] at HEX8 HRV;have HZ5:=zh hZ5;clear hZL hZ5 hZ8;rcases Bool.eq_false_or_eq_true (silentB L) with hsil | hsil
   ·have HG5:=zh (HG2.out hsil);clear HG2 HG3 HG4 HB1 HB8  HRN HRV HEX5 HEX8;match L,hsil with
    | [],_ =>
     have he:ZL.toList.isEmpty=true:=by rw [hT];rfl
     clear hT HLX hZs;go_wp2_with fail
     exact ⟨⟨k+1,c,m,_,_,by omega,by omega,rfl,rfl,HW.out,HMO.out,HG5.out⟩,by show n - ((k:Int)+1).toNat < n - (k:Int).toNat;omega⟩
    | c0 :: l,hsil =>
     have hc:c0=35:=by unfold silentB at hsil;simpa using hsil
     subst hc;have hx0:∀ W:World,(Instr.index 9 (.string ZL) (.int .i64 0)).run prog W=.ok (.int .u8 35) W:=fun W=>HLX.out 0 (by simp) W
     have he:ZL.toList.isEmpty=false:=by rw [hT];rfl
     clear hT HLX hZs;go_wp2_with fail
     exact ⟨⟨k+1,c,m,_,_,by omega,by omega,rfl,rfl,HW.out,HMO.out,HG5.out⟩,by show n - ((k:Int)+1).toNat < n - (k:Int).toNat;omega⟩
   replace HG3:=zh (HG3.out hsil);replace HG4:=zh (HG4.out hsil);clear HG2;obtain ⟨c0,hc0'⟩:∃ c0,(L.head? = some c0/\c0 ≠ 35):=by
    cases L with
    | nil=>cases hsil
    | cons c0 l=>exact ⟨c0,rfl,by unfold silentB at hsil;simpa using hsil⟩
   have hLp:0 < L.length:=by
    cases L with
    | nil=>cases hsil
    | cons c l=>simp
   have hx0:∀ W:World,(Instr.index 9 (.string ZL) (.int .i64 0)).run prog W=.ok (.int .u8 (c0.toNat:Int)) W:=fun W=>by
    have h9:=HLX.out 0 hLp W;rw [show L[0]=c0 by
     have:=hc0'.1;rw [List.head?_eq_getElem?,List.getElem?_eq_getElem hLp] at this;exact Option.some.inj this] at h9
    exact h9
   have he:ZL.toList.isEmpty=false:=by
    rw [hT];cases L with
    | nil=>cases hsil
    | cons c l=>rfl
   have hn35:((c0.toNat:Int) == 35)=false:=by
    have:c0.toNat ≠ 35:=fun e=>hc0'.2 (by rw [<- UInt8.toNat_inj];exact e)
    simp;omega
   clear hT HLX hsil hLp hc0';generalize (c0.toNat:Int)=zc at *;have hwc:=wrap_nat (k:=c+1) (by omega);go_upto_region 12 with fail
   obtain ⟨c1,hc1⟩:∃ x:Int,x=(c:Int)+1:=⟨_,rfl⟩
   rw [<- hc1];clear hx0 he hn35 hwc;have hst0:mstepS c m L=if c=0 then (if L.take 5=nameW/\nameB (L.drop 5)=true then some { m with name:=L.drop 5 } else none)
    else if c=1 then (if L.take 8=versionW then (verOf (L.drop 8)).map fun v=>{ m with v:=v } else none)
    else if L.take 5=[110,101,101,100,32] then (match needL (L.drop 5) with
     | none=>none
     | some x=>if x.name=m.name then none else if 20<=m.needs.length then none else if x.name ∈ m.needs.map Nd.name then none else some { m with needs:=insR (ltNd x) x m.needs })
    else none:=rfl
   have HST:=zh hst0;clear hst0;by_cases hcz:c=0
   ·have h1:c1=1:=by omega
    subst h1;rw [if_pos hcz] at HST;have HCZ:=zh hcz;clear hc1 hcz HB8  HRV HEX8;obtain ⟨b1,hb1⟩:∃ b,b=decide (L.take ([110,97,109,101,32]:List UInt8).length=[110,97,109,101,32]):=⟨_,rfl⟩
    rw [<- hb1] at HB1;have HB1E:=zh hb1;clear hb1;go_wp2_with fail
    with_reducible refine (HB1.out _).mono ?_
    rintro e w9 ⟨rfl,h9⟩;rw [h9];clear h9 w9 HB1;cases b1 with
    | false =>
     have hst:mstepS c m L=none:=by
      rw [HST.out,if_neg];intro h;have h1:=HB1E.out;rw [decide_eq_true (show L.take ([110,97,109,101,32]:List UInt8).length=[110,97,109,101,32] from h.1)] at h1;cases h1
     have HB:=zh (HBAD.out (by rw [HRES.out,HG4.out hst]));go_wp2_with (refine wpList_store_row rfl 46 _ _ rfl ga #[.string ⟨#[]⟩,.int .i64 0,.int .i64 0,.int .i64 0,.slice none 0 0,.slice none 0 0] rfl rfl 46 _ HAR.out (by kernel_rfl) (by rfl) (by kernel_rfl) ?_)
     have hg8:=setRow_heap _ ga _ #[.string ⟨#[]⟩,.int .i64 0,.int .i64 0,.int .i64 0,.slice none 0 0,.slice none 0 0] _ _ HAR.out;have hl9:=load_mft hg8;have HM8:=zh (HMR.out.setRow (S:=No) (g:=ga) (fun h=>by have:=HGA.out;omega) #[.string ⟨#[]⟩,.int .i64 0,.int .i64 0,.int .i64 0,.slice none 0 0,.slice none 0 0]);exact bodyPost_ret (v:=.tuple #[.agg #[.string ⟨#[]⟩,.int .i64 0,.int .i64 0,.int .i64 0,.slice none 0 0,.slice none 0 0],.int .i64 ((k:Int)+1),.int .i64 62]) (by simp [results,results13,asAddr,hl9]) rfl (fin hR ⟨HB.out _ _,HM8.out⟩)
    | true =>
     have h5t:L.take 5=nameW:=of_decide_eq_true HB1E.out.symm;have h5:5<=L.length:=by
      have h:=congrArg List.length h5t;rw [List.length_take] at h;have:nameW.length=5:=rfl;omega
     have h5i:(5:Int)<=(L.length:Int):=by omega
     have hext:=HEX5.out;obtain ⟨nb,hnb⟩:∃ b,b=nameB (L.drop 5):=⟨_,rfl⟩
     rw [<- hnb] at HRN HST;have H5T:=zh h5t;clear hnb h5t;go_wp2_with fail
     with_reducible refine (HRN.out _).mono ?_
     rintro e w9 ⟨rfl,h9⟩;rw [h9];clear h9 w9 HRN;cases nb with
     | false =>
      have hst:mstepS c m L=none:=by
       rw [HST.out,if_neg];intro h;cases h.2
      have HB:=zh (HBAD.out (by rw [HRES.out,HG4.out hst]));go_wp2_with (refine wpList_store_row rfl 46 _ _ rfl ga #[.string ⟨#[]⟩,.int .i64 0,.int .i64 0,.int .i64 0,.slice none 0 0,.slice none 0 0] rfl rfl 46 _ HAR.out (by kernel_rfl) (by rfl) (by kernel_rfl) ?_)
      have hg8:=setRow_heap _ ga _ #[.string ⟨#[]⟩,.int .i64 0,.int .i64 0,.int .i64 0,.slice none 0 0,.slice none 0 0] _ _ HAR.out;have hl9:=load_mft hg8;have HM8:=zh (HMR.out.setRow (S:=No) (g:=ga) (fun h=>by have:=HGA.out;omega) #[.string ⟨#[]⟩,.int .i64 0,.int .i64 0,.int .i64 0,.slice none 0 0,.slice none 0 0]);exact bodyPost_ret (v:=.tuple #[.agg #[.string ⟨#[]⟩,.int .i64 0,.int .i64 0,.int .i64 0,.slice none 0 0,.slice none 0 0],.int .i64 ((k:Int)+1),.int .i64 62]) (by simp [results,results13,asAddr,hl9]) rfl (fin hR ⟨HB.out _ _,HM8.out⟩)
     | true =>
      have hst:mstepS c m L=some { m with name:=L.drop 5 }:=by rw [HST.out,if_pos ⟨H5T.out,rfl⟩]
      have HG5:=zh (HG3.out _ hst);have z0:=cell_ofA HW.out.cells (i:=0) rfl;have y0:=frozen_of 0 HW.out.cells;clear hst HG3 HG4 HST;go_upto_region 24 with fail
      generalize hw4:World.setCell _ _ _=w4;have hm4:Mod (fun q=>q=gm) wr w4:=by rw [<- hw4];exact Mod.cell1 _ _ _ _
      have HW4:=zh (show RmW w4 gm { m with name:=L.drop 5 } (.slice pa m.v.pre.length pc) (.slice na m.needs.length nc) from HW.out.turned hm4 (by rw [<- hw4,heap_setCell HW.out.cells,HZ5.out];rfl) HW.out.pre HW.out.nds HW.out.rises HW.out.few);have HMO4:=zh (HMO.out.trans hm4);clear hw4 hm4 z0 y0 hext;go_wp2_with fail
      exact ⟨⟨k+1,c+1,_,_,_,by omega,by omega,by rw [HCZ.out];rfl,rfl,HW4.out,HMO4.out,HG5.out⟩,by show n - ((k:Int)+1).toNat < n - (k:Int).toNat;omega⟩
   rw [if_neg hcz] at HST;by_cases hco:c=1
   ·have h1:c1=2:=by omega
    subst h1;rw [if_pos hco] at HST;have HCZ:=zh hco;clear hc1 hcz hco HB1  HRN HEX5;obtain ⟨b1,hb1⟩:∃ b,b=decide (L.take ([118,101,114,115,105,111,110,32]:List UInt8).length=[118,101,114,115,105,111,110,32]):=⟨_,rfl⟩
    rw [<- hb1] at HB8;have HB8E:=zh hb1;clear hb1;go_wp2_with fail
    with_reducible refine (HB8.out _).mono ?_
    rintro e w9 ⟨rfl,h9⟩;rw [h9];clear h9 w9 HB8;cases b1 with
    | false =>
     have hst:mstepS c m L=none:=by
      rw [HST.out,if_neg];intro h;have h1:=HB8E.out;rw [decide_eq_true (show L.take ([118,101,114,115,105,111,110,32]:List UInt8).length=[118,101,114,115,105,111,110,32] from h)] at h1;cases h1
     have HB:=zh (HBAD.out (by rw [HRES.out,HG4.out hst]));go_wp2_with (refine wpList_store_row rfl 46 _ _ rfl ga #[.string ⟨#[]⟩,.int .i64 0,.int .i64 0,.int .i64 0,.slice none 0 0,.slice none 0 0] rfl rfl 46 _ HAR.out (by kernel_rfl) (by rfl) (by kernel_rfl) ?_)
     have hg8:=setRow_heap _ ga _ #[.string ⟨#[]⟩,.int .i64 0,.int .i64 0,.int .i64 0,.slice none 0 0,.slice none 0 0] _ _ HAR.out;have hl9:=load_mft hg8;have HM8:=zh (HMR.out.setRow (S:=No) (g:=ga) (fun h=>by have:=HGA.out;omega) #[.string ⟨#[]⟩,.int .i64 0,.int .i64 0,.int .i64 0,.slice none 0 0,.slice none 0 0]);exact bodyPost_ret (v:=.tuple #[.agg #[.string ⟨#[]⟩,.int .i64 0,.int .i64 0,.int .i64 0,.slice none 0 0,.slice none 0 0],.int .i64 ((k:Int)+1),.int .i64 62]) (by simp [results,results13,asAddr,hl9]) rfl (fin hR ⟨HB.out _ _,HM8.out⟩)
    | true =>
     have h8t:L.take 8=versionW:=of_decide_eq_true HB8E.out.symm;have h8:8<=L.length:=by
      have h:=congrArg List.length h8t;rw [List.length_take] at h;have:versionW.length=8:=rfl;omega
     have h8i:(8:Int)<=(L.length:Int):=by omega
     have hext:=HEX8.out;rw [if_pos h8t] at HST;clear h8t;go_wp2_with fail
     with_reducible refine (HRV.out _).mono ?_
     rintro e w4 ⟨⟨v,vv,cc,rfl,hsl,hcc⟩,hm4⟩;obtain ⟨va,vc,hvv⟩:=hsl.len;subst hvv;have HCC:=zh hcc;have HSL:=zh hsl;have HW4:=zh (HW.out.no hm4);have HA4:=zh (hm4.keep HAR.out (fun f=>f));have HMO4:=zh (HMO.out.trans (hm4.weaken (fun _ _ f=>f.elim)));have HM4:=zh (HMR.out.trans hm4);clear hsl hcc hm4 HRV hext hcell;go_upto_region 19 with fail
     obtain ⟨gv,hgv⟩:∃ g,g=w4.heap.size:=⟨_,rfl⟩
     rw [<- hgv];generalize hw5:World.alloc w4 _=w5;have hv5:w5.heap[gv]? = some (.cells #[.int .i64 v.ma,.int .i64 v.mi,.int .i64 v.pa,.slice va v.pre.length vc] 40 (0,0)):=by rw [<- hw5,hgv];exact heap_alloc_new w4 _
     have hm5:Mod No w4 w5:=by rw [<- hw5];exact (Mod.refl No w4).alloc _
     have HW5:=zh (HW4.out.no hm5);have HS5:=zh (HSL.out.kn hm5);have HA5:=zh (hm5.keep HA4.out (fun f=>f));have HMO5:=zh (HMO4.out.trans (hm5.weaken (fun _ _ f=>f.elim)));have HM5:=zh (HM4.out.trans hm5);have hgb:gm ≠ gv:=by have:=lt_of_heap HW4.out.cells;omega
     have v0:=cell_ofA hv5 (i:=0) rfl;have v1:=cell_ofA hv5 (i:=1) rfl;have v2:=cell_ofA hv5 (i:=2) rfl;have v3:=cell_ofA hv5 (i:=3) rfl;have f1:=frozen_of 1 HW5.out.cells;have f2:=frozen_of 2 HW5.out.cells;have f3:=frozen_of 3 HW5.out.cells;have f4:=frozen_of 4 HW5.out.cells;have e1:=cell_ofA HW5.out.cells (i:=1) rfl;have e2:=cell_ofA HW5.out.cells (i:=2) rfl;have e3:=cell_ofA HW5.out.cells (i:=3) rfl;have e4:=cell_ofA HW5.out.cells (i:=4) rfl;clear hw5 hv5 hm5 hgv HW4 HSL HA4 HMO4 HM4;obtain ⟨ok,hok⟩:∃ b:Bool,b=(cc == 0):=⟨_,rfl⟩
     go_upto_region 24 with fail
     generalize hw6:World.setCell (World.setCell (World.setCell (World.setCell w5 _ _) _ _) _ _) _ _=w6;have hm6:Mod (fun q=>q=gm) w5 w6:=by
      rw [<- hw6];exact ((((Mod.refl (fun k=>k=gm) w5).setCell (fun _=>rfl) _).setCell (fun _=>rfl) _).setCell (fun _=>rfl) _).setCell (fun _=>rfl) _
     have HW6:=zh (show RmW w6 gm { m with v:=v } (.slice va v.pre.length vc) (.slice na m.needs.length nc) from
      HW5.out.turned hm6 (by rw [<- hw6,heap_setCell (heap_setCell (heap_setCell (heap_setCell HW5.out.cells _) _) _) _];rfl) HS5.out HW5.out.nds HW5.out.rises HW5.out.few)
     have HMO6:=zh (HMO5.out.trans hm6);have HA6:=zh (hm6.keep HA5.out (fun h=>HGM.out.2 h.symm));have HM6:=zh (HM5.out.then hm6 (S:=No) (fun i hi h=>by have:=HGM.out.1;have h2:i=gm:=h;omega));clear hw6 hm6 v0 v1 v2 v3 f1 f2 f3 f4 e1 e2 e3 e4 HW5 HS5 HA5 HMO5 HM5 hok ok hgb;rcases HCC.out with ⟨rfl,hv⟩ | ⟨rfl,hv⟩
     ·have hst:mstepS c m L=some { m with v:=v }:=by rw [HST.out,hv];rfl
      have HG5:=zh (HG3.out _ hst);clear hst HG3 HG4 HST hv HCC;go_wp2_with fail
      exact ⟨⟨k+1,c+1,_,_,_,by omega,by omega,by rw [HCZ.out];rfl,rfl,HW6.out,HMO6.out,HG5.out⟩,by show n - ((k:Int)+1).toNat < n - (k:Int).toNat;omega⟩
     ·have hst:mstepS c m L=none:=by rw [HST.out,hv];rfl
      clear HCC;have HB:=zh (HBAD.out (by rw [HRES.out,HG4.out hst]));go_wp2_with (refine wpList_store_row rfl 46 _ _ rfl ga #[.string ⟨#[]⟩,.int .i64 0,.int .i64 0,.int .i64 0,.slice none 0 0,.slice none 0 0] rfl rfl 46 _ HA6.out (by kernel_rfl) (by rfl) (by kernel_rfl) ?_)
      have hg8:=setRow_heap _ ga _ #[.string ⟨#[]⟩,.int .i64 0,.int .i64 0,.int .i64 0,.slice none 0 0,.slice none 0 0] _ _ HA6.out;have hl9:=load_mft hg8;have HM8:=zh (HM6.out.setRow (S:=No) (g:=ga) (fun h=>by have:=HGA.out;omega) #[.string ⟨#[]⟩,.int .i64 0,.int .i64 0,.int .i64 0,.slice none 0 0,.slice none 0 0]);exact bodyPost_ret (v:=.tuple #[.agg #[.string ⟨#[]⟩,.int .i64 0,.int .i64 0,.int .i64 0,.slice none 0 0,.slice none 0 0],.int .i64 ((k:Int)+1),.int .i64 62]) (by simp [results,results13,asAddr,hl9]) rfl (fin hR ⟨HB.out _ _,HM8.out⟩)
   rw [if_neg hco] at HST;exfalso;omega
  ·obtain rfl:k=n:=by omega
   have hk1:¬ ((k:Int) < (k:Int)):=by omega
   have HML:=zh (show mlinesS 0 mf0 ls=some (c,m) by rw [HGO.out,HNL.out,List.drop_length];rfl);clear HGO;by_cases hc2:c < 2
   ·have hN:mfOf s=none:=by rw [HRES.out,HML.out];exact if_pos hc2
    have hcI:(c:Int) < 2:=by omega
    have HN:=zh hN;clear hN hc2;have HB:=zh (HBAD.out (HN.out));go_wp2_with (refine wpList_store_row rfl 46 _ _ rfl ga #[.string ⟨#[]⟩,.int .i64 0,.int .i64 0,.int .i64 0,.slice none 0 0,.slice none 0 0] rfl rfl 46 _ HAR.out (by kernel_rfl) (by rfl) (by kernel_rfl) ?_)
    have hg8:=setRow_heap _ ga _ #[.string ⟨#[]⟩,.int .i64 0,.int .i64 0,.int .i64 0,.slice none 0 0,.slice none 0 0] _ _ HAR.out;have hl9:=load_mft hg8;have HM8:=zh (HMR.out.setRow (S:=No) (g:=ga) (fun h=>by have:=HGA.out;omega) #[.string ⟨#[]⟩,.int .i64 0,.int .i64 0,.int .i64 0,.slice none 0 0,.slice none 0 0]);exact bodyPost_ret (v:=.tuple #[.agg #[.string ⟨#[]⟩,.int .i64 0,.int .i64 0,.int .i64 0,.slice none 0 0,.slice none 0 0],.int .i64 0,.int .i64 62]) (by simp [results,results13,asAddr,hl9]) rfl (fin hR ⟨HB.out _ _,HM8.out⟩)
   ·have hcI:¬ ((c:Int) < 2):=by omega
    have HRS:=zh (show mfOf s=some m by rw [HRES.out,HML.out];exact if_neg hc2);have HGW:=zh (HGOOD.out m HRS.out);have HRG:=zh (show wr.rangeAt gm 0 [strV m.name,.int .i64 m.v.ma,.int .i64 m.v.mi,.int .i64 m.v.pa,.slice pa m.v.pre.length pc,.slice na m.needs.length nc] from fun u x hx=>by rw [Nat.zero_add];exact cell_ofA HW.out.cells (by rw [List.getElem?_toArray];exact hx));clear hc2 HML;go_wp2_with (first | (refine wpList_load_mid rfl 46 _ rfl gm 0 rfl [strV m.name,.int .i64 m.v.ma,.int .i64 m.v.mi,.int .i64 m.v.pa,.slice pa m.v.pre.length pc,.slice na m.needs.length nc] _ HRG.out underlying46 rfl (by kernel_rfl) ?_) | (refine wpList_store_row rfl 46 _ _ rfl ga #[strV m.name,.int .i64 m.v.ma,.int .i64 m.v.mi,.int .i64 m.v.pa,.slice pa m.v.pre.length pc,.slice na m.needs.length nc] rfl rfl 46 _ HAR.out (by kernel_rfl) (by rfl) (by kernel_rfl) ?_))
    have hg8:=setRow_heap _ ga _ #[strV m.name,.int .i64 m.v.ma,.int .i64 m.v.mi,.int .i64 m.v.pa,.slice pa m.v.pre.length pc,.slice na m.needs.length nc] _ _ HAR.out;have hl9:=load_mft hg8;have HM8:=zh (HMR.out.setRow (S:=No) (g:=ga) (fun h=>by have:=HGA.out;omega) #[strV m.name,.int .i64 m.v.ma,.int .i64 m.v.mi,.int .i64 m.v.pa,.slice pa m.v.pre.length pc,.slice na m.needs.length nc]);have hm8:Mod (fun q=>q=ga) wr (wr.setRow ga #[strV m.name,.int .i64 m.v.ma,.int .i64 m.v.mi,.int .i64 m.v.pa,.slice pa m.v.pre.length pc,.slice na m.needs.length nc]):=Mod.setRow (S:=fun q=>q=ga) (Mod.refl _ _) (fun _=>rfl) _;have HAT:=zh (show MftAt (wr.setRow ga #[strV m.name,.int .i64 m.v.ma,.int .i64 m.v.mi,.int .i64 m.v.pa,.slice pa m.v.pre.length pc,.slice na m.needs.length nc]) (.agg #[strV m.name,.int .i64 m.v.ma,.int .i64 m.v.mi,.int .i64 m.v.pa,.slice pa m.v.pre.length pc,.slice na m.needs.length nc]) m from
     ⟨pa,pc,na,nc,rfl,HW.out.pre.apart hm8 ((rm_apart HAR.out).less (by simp)),HW.out.nds.keep hm8 (rm_apart HAR.out)⟩)
    exact bodyPost_ret (v:=.tuple #[.agg #[strV m.name,.int .i64 m.v.ma,.int .i64 m.v.mi,.int .i64 m.v.pa,.slice pa m.v.pre.length pc,.slice na m.needs.length nc],.int .i64 0,.int .i64 0]) (by simp [results,results13,asAddr,hl9]) rfl (fin hR ⟨HGW.out _ _ HAT.out,HM8.out⟩)
end Go.Proofs.YticfcmdjplmaeaaGreatDoor
