/-
  Layers 0 to 14: helps of the laws of indexes. No statement is proved here; no condition.
-/
import Derived.Test.YtmppeipgjcjdkaaGreatDoorX29
import Derived.Test.YtmppeipgjcjdkaaGreatDoorX22
import Derived.Test.YtmppeipgjcjdkaaGreatDoorX21
import Derived.Test.YtmppeipgjcjdkaaGreatDoorX07
import Derived.Test.YtmppeipgjcjdkaaGreatDoorX24
import Derived.Test.YtmppeipgjcjdkaaGreatDoorX03
import Derived.ChangeKeysEq
import Derived.Lib.ConvBytes
import Derived.Great.Walk
namespace Go.Proofs.YtmppeipgjcjdkaaGreatDoor
open _root_.Go.Proofs.Tryz
open Go.RowKit Go.Maps Go.Shelf
theorem change_norm (M:Mt) (p:Pr):M.change p.norm=M.change p:=by
 unfold Mt.change Pr.norm
 cases hg:p.gone <;> simp
theorem prs_one {w:World} {X:Nat->Prop} {g:Nat} {p:Pr} (hg:w.heap[g]? = some (.cells #[.string ⟨p.key.toArray⟩,.string ⟨p.value.toArray⟩,.bool p.gone] 33 (0,0))) (hX:¬ X g):Prs w X (some ⟨g,0,none⟩) [p] :=
 ⟨fun i hi=>by
  obtain rfl:i=0:=by simpa using hi
  exact ⟨g,0,rfl,hX,cell_of (i:=0) hg rfl,cell_of (i:=1) hg rfl,cell_of (i:=2) hg rfl⟩⟩
structure SoInv (w wr:World) (s p m i:Nat) (rs:List Pr):Prop where
 sto:StoAt wr s p m i (Mt.changes (fun _=>none) (rs.take i)) false
 mod:Mod (fun q=>q=m) w wr
set_option maxRecDepth 100000 in
set_option maxHeartbeats 4000000 in
theorem sopen_any {w:World} {b sb mb:Nat} {d:Dk} {L:Lg} {rs:List Pr} (hn:16<=d.n) (hz:128<=d.sz) (hw:Well d) (h:DkAt w No b sb mb d) (ok:LogOK d.last (d.n / 2) (d.sz - 16) L) (hrs:L.all=prB rs) (hsh:ShortP rs) (hl:rs.length<=100000000) :
  Calls prog 8 #[.pointer (some ⟨b,0,none⟩)] w fun e w'=>∃ s p m ub,e=.returned (.tuple #[.pointer (some ⟨s,0,none⟩),.int .i64 0])/\LogHas w' p b sb mb ub d L/\StoAt w' s p m rs.length (Mt.changes (fun _=>none) rs) false/\Mod No w w'/\w.heap.size<=s/\w.heap.size<=p/\w.heap.size<=ub/\w.heap.size<=m/\p < m/\ub < m/\p < s/\ub < s:=by
 have hmm:=@run_makeMap prog
 refine calls_hide fun R hR=>?_
 have HOP:=zh (open_has hn hz hw h ok)
 have HRS:=zh hrs
 have HSH:=zh hsh
 clear h hw ok hrs hsh
 go_enter func8,ntmps8
 go_wp2_with fail
 with_reducible refine HOP.out.mono ?_
 clear HOP
 rintro e w1 ⟨p,ub,v,rfl,hL1,hr1,hm1,hp1,hu1⟩
 rw [HRS.out] at hr1
 have hr1:=hr1.recs (X:=No) (fun _ _ f=>f)
 obtain ⟨va,vc,rfl⟩:=hr1.len
 have hpl:=hL1.lt (.inr (.inr rfl))
 have hul:=hL1.lt (.inr (.inl rfl))
 have HX1:=zh (And.intro hL1 (And.intro hm1 (And.intro hp1 (And.intro hu1 (And.intro hpl hul)))))
 have HR1:=zh hr1
 clear hL1 hr1 hm1 hp1 hu1 hpl hul
 obtain ⟨m,hm⟩:∃ m,m=w1.heap.size:=⟨_,rfl⟩
 obtain ⟨w2,hw2⟩:∃ w2,w2=(w1.alloc (.map #[] 0)).alloc (.cells #[.pointer (some ⟨p,0,none⟩),.map (some m),.bool false] 74):=⟨_,rfl⟩
 have hmp:SMp (w1.alloc (.map #[] 0)) m 0 (fun _=>none):=by rw [hm];exact SMp.made w1
 have hm12:Mod No w1 w2:=by rw [hw2];exact ((Mod.refl No w1).alloc _).alloc _
 have hsto:StoAt w2 (m+1) p m 0 (fun _=>none) false:=⟨by rw [hw2];exact heap_at_new _ _ (by rw [hm];simp),by rw [hw2];exact hmp.stay ((Mod.refl No _).alloc _)⟩
 have HS2:=zh hsto
 have HM12:=zh hm12
 have HPL:=zh (prB_len rs)
 have HW2:=zh hw2
 have HMS:=zh hm
 clear hmp hm12 hsto hw2 hm
 rw [HPL.out]
 go_wp2_with fail
 rw [<- HMS.out,<- HW2.out]
 obtain ⟨s,hs⟩:∃ s,s=m+1:=⟨_,rfl⟩
 rw [<- hs] at HS2 ⊢
 have HSS:=zh hs
 clear hs
 go_loopw [27] (fun q wr=>∃ i:Nat,i<=rs.length/\q=.int .i64 i/\SoInv w2 wr s p m i rs) (fun q _=>rs.length - (intOf q).toNat)
 case atStart=>exact ⟨0,by omega,rfl,HS2.out,Mod.refl _ _⟩
 case round =>
  obtain ⟨i,hi,rfl,hinv⟩:=hrel
  have hi0':(0:Int)<=(i:Int):=Int.natCast_nonneg _
  have hb2:w1.heap.size<=w2.heap.size:=HM12.out.size
  have hm12:Mod No w1 wr:=HM12.out.then hinv.mod (fun q hq e=>by have:=HMS.out;omega)
  by_cases hlt:i < rs.length
  ·have hi1:(i:Int) < (rs.length:Int):=by omega
   obtain ⟨g,o,c',u,hv,hu,hsl⟩:=(HR1.out.stay hm12).at_ (k:=i) (by rw [prB_len];exact hlt)
   rw [HPL.out] at hv
   cases hv
   have hsp:=HSH.out rs[i] (List.getElem_mem hlt)
   have hgi:(prB rs)[i]'(by rw [prB_len];exact hlt)=pairB rs[i]:=by simp [prB]
   rw [hgi] at hsl
   have HPA:=zh (pair_any rs[i] hsp.1 hsp.2 hsl)
   have HCH:=zh (show Mt.changes (fun _=>none) (rs.take (i+1))=(Mt.changes (fun _=>none) (rs.take i)).changes [rs[i].norm] by
    rw [List.take_succ_eq_append_getElem hlt,changes_append]
    exact (change_norm _ _).symm)
   have hnsh:ShortP [rs[i].norm]:=fun p hp=>by
    obtain rfl:p=rs[i].norm:=by simpa using hp
    unfold Pr.norm
    dsimp only
    refine ⟨hsp.1,?_⟩
    split
    ·exact Nat.zero_le _
    ·exact hsp.2
   have HNS:=zh hnsh
   obtain ⟨ua,uc,rfl⟩:=hsl.len
   generalize (pairB rs[i]).length=ul at *
   generalize rs[i].norm=np at *
   clear hsl hsp hgi hnsh
   obtain ⟨k,x,G⟩:=np
   have HST:=zh hinv
   clear hinv
   go_wp2_with fail
   with_reducible refine HPA.out.mono ?_
   clear HPA
   rintro e w5 ⟨rfl,hm5⟩
   unfold Pr.agg
   dsimp only
   obtain ⟨K,hK⟩:∃ K:ByteArray,K=⟨k.toArray⟩:=⟨_,rfl⟩
   obtain ⟨V,hV⟩:∃ V:ByteArray,V=⟨x.toArray⟩:=⟨_,rfl⟩
   rw [<- hK,<- hV]
   obtain ⟨pb,hpb⟩:∃ pb,pb=w5.heap.size:=⟨_,rfl⟩
   obtain ⟨w6,hw6⟩:∃ w6,w6=w5.alloc (.cells #[.string K,.string V,.bool G] 33):=⟨_,rfl⟩
   have m6:Mod No w5 w6:=by rw [hw6];exact (Mod.refl No w5).alloc _
   have h6:w6.heap[pb]? = some (.cells #[.string K,.string V,.bool G] 33 (0,0)):=by rw [hw6,hpb];exact heap_alloc_new w5 _
   have hst6:=(HST.out.sto.stay hm5).stay m6
   have hm26:=(HST.out.mod.trans ((hm5.trans m6).weaken fun _ _ f=>f.elim))
   have hS0:w6.drew.cell? ⟨s,1,none⟩=some (.map (some m))/\w6.drew.cell? ⟨pb,0,none⟩=some (.string K)/\w6.drew.cell? ⟨pb,1,none⟩=some (.string V)/\w6.drew.cell? ⟨pb,2,none⟩=some (.bool G):=⟨cell_of (i:=1) hst6.obj rfl,cell_of (i:=0) h6 rfl,cell_of (i:=1) h6 rfl,cell_of (i:=2) h6 rfl⟩
   obtain ⟨g7,hg7⟩:∃ g7,g7=w6.heap.size:=⟨_,rfl⟩
   obtain ⟨w7,hw7⟩:∃ w7,w7=(w6.alloc (.cells #[.string K,.string V,.bool G] 33)).drew:=⟨_,rfl⟩
   have m7:Mod No w6 w7:=by rw [hw7];exact ((Mod.refl No w6).alloc _).drew
   have h7:w7.heap[g7]? = some (.cells #[.string ⟨k.toArray⟩,.string ⟨x.toArray⟩,.bool G] 33 (0,0)):=by rw [hw7,hg7,<- hK,<- hV];exact heap_alloc_new w6 _
   have hS1:w7.cell? ⟨s,1,none⟩=some (.map (some m))/\w7.cell? ⟨pb,0,none⟩=some (.string K)/\w7.cell? ⟨pb,1,none⟩=some (.string V)/\w7.cell? ⟨pb,2,none⟩=some (.bool G):=⟨m7.cell (cell_of (i:=1) hst6.obj rfl) (fun f=>f),m7.cell (cell_of (i:=0) h6 rfl) (fun f=>f),m7.cell (cell_of (i:=1) h6 rfl) (fun f=>f),m7.cell (cell_of (i:=2) h6 rfl) (fun f=>f)⟩
   have hst7:=hst6.stay m7
   have hmlt:=hst7.map.lt
   have hml6:=hst6.map.lt
   have hC:=change_any (c:=1) (l:=[⟨k,x,G⟩]) hst7.map (prs_one (p:=⟨k,x,G⟩) h7 (by omega)) HNS.out (by show i+1<=_;omega)
   have hC:Calls prog 24 #[.map (some m),.slice (some ⟨g7,0,none⟩) 1 1] w7 fun e w'=>e=.returned (.tuple #[])/\SMp w' m (i+1) ((Mt.changes (fun _=>none) (rs.take i)).changes [⟨k,x,G⟩])/\Mod (fun k=>k=m) w7 w':=hC
   have HC:=zh hC
   have HST7:=zh (And.intro hst7 (hm26.trans (m7.weaken fun _ _ f=>f.elim)))
   have HX7:=zh (And.intro hw6 (And.intro hpb (And.intro hg7 hw7)))
   have hpm:¬ pb=m:=by have:=(HST.out.sto.stay hm5).map.lt;omega
   have hsm:¬ s=m:=by have:=HSS.out;omega
   clear hm5 hpb hw6 m6 h6 hst6 hm26 hg7 hw7 m7 h7 hst7 hmlt hml6 hC hK hV
   go_upto_region 11 with fail
   rw [<- HX7.out.2.1,<- HX7.out.1]
   refine wp_region_T (fun w'=>w'.cell? ⟨s,1,none⟩=some (.map (some m))/\w'.cell? ⟨pb,0,none⟩=some (.string K)/\w'.cell? ⟨pb,1,none⟩=some (.string V)/\w'.cell? ⟨pb,2,none⟩=some (.bool G)) 99 (by kernel_rfl) ?_
   refine yS 0 38 hS0 ?_
   refine yS 1 39 hS0 ?_
   refine yS 2 40 hS0 ?_
   refine yS 3 41 hS0 ?_
   refine yT 4 (some 42) (.agg #[.string K,.string V,.bool G]) hS0 ?_ ?_
   ·(intro w' hSw;obtain ⟨s0,s1,s2,s3⟩:=hSw;go_simp)
   simp only [Act.put,yB,yC,yD]
   refine wpAnyT_one 5 rfl (by kernel_rfl) rfl ?_
   intro K_ hK
   go_simp
   rw [<- HX7.out.2.2.1,<- HX7.out.2.2.2]
   show K_ _ _
   refine hK.out _ _ (fun _=>hS1) ?_
   clear hK K_
   refine wpAnyT_one 6 rfl (by kernel_rfl) rfl ?_
   intro K_ hK
   go_simp
   (go_at_call 24;with_reducible refine HC.out.mono ?_;rintro e w8 ⟨rfl,hmp8,hm8⟩)
   have hS2:w8.cell? ⟨s,1,none⟩=some (.map (some m))/\w8.cell? ⟨pb,0,none⟩=some (.string K)/\w8.cell? ⟨pb,1,none⟩=some (.string V)/\w8.cell? ⟨pb,2,none⟩=some (.bool G):=⟨hm8.cell hS1.1 hsm,hm8.cell hS1.2.1 hpm,hm8.cell hS1.2.2.1 hpm,hm8.cell hS1.2.2.2 hpm⟩
   show K_ _ _
   refine hK.out _ _ (fun _=>hS2) ?_
   clear hK K_
   refine wpAnyT_done (by kernel_rfl) ?_ _
   have HE:=zh (And.intro hmp8 hm8)
   clear hmp8 hm8 hS0 hS1 hS2
   go_wp2_with fail
   refine ⟨⟨i+1,by omega,by go_num,⟨HST7.out.1.obj |> fun h=>HE.out.2.keep h hsm,by rw [HCH.out];exact HE.out.1⟩,HST7.out.2.trans HE.out.2⟩,by go_light;simp only [intOf];omega⟩
  ·have hil:i=rs.length:=by omega
   subst hil
   have hst:=hinv.sto
   rw [List.take_length] at hst
   have HF:=zh (And.intro hst (And.intro (HX1.out.1.stay hm12) (HX1.out.2.1.trans hm12)))
   have hz:=HX1.out.2.1.size
   clear hinv hst hm12
   go_wp2_with fail
   have hh:=HX1.out
   exact fin hR ⟨s,p,m,ub,rfl,HF.out.2.1,HF.out.1,HF.out.2.2,by have:=HMS.out;have:=HSS.out;omega,hh.2.2.1,hh.2.2.2.1,by have:=HMS.out;omega,by have:=HMS.out;omega,by have:=HMS.out;omega,by have:=HMS.out;have:=HSS.out;omega,by have:=HMS.out;have:=HSS.out;omega⟩
theorem info_strS:(prog.info? 9).map (fun i=>(i.zero,i.size,i.bytes))=some (some (.string ⟨#[]⟩),1,16):=by kernel_rfl
set_option maxRecDepth 100000 in
set_option maxHeartbeats 4000000 in
theorem skeys_any {w:World} {s p m n:Nat} {M:Mt} {down:Bool} (h:StoAt w s p m n M down) (hn:n<=100000) (q:List UInt8) :
  Calls prog 90 #[.pointer (some ⟨s,0,none⟩),.string ⟨q.toArray⟩] w fun e w'=>∃ v ks,e=.returned v/\KeysOfM M ks/\w'.ownsRow w.heap.size 9 1 v (ks.filter (pref q)).length ((ks.filter (pref q)).map encStr)/\Mod No w w':=by
 obtain ⟨i0,hi0,hz0,hz1,hz2⟩:=info_parts info_strS
 refine calls_hide fun R hR=>?_
 have H:=zh h
 have c1:=cell_of (i:=1) h.obj rfl
 have HSK:=zh (sorted_keys h.map (by omega))
 clear h
 go_enter func90,ntmps90
 go_wp2_with fail
 with_reducible refine (keysS_any (some m) w).mono ?_
 rintro e w' ⟨rfl,h2⟩
 subst h2
 go_wp2_with fail
 with_reducible refine HSK.out.mono ?_
 clear HSK
 rintro e w2 ⟨v2,ks,rfl,hks,hkl,ho,hm2⟩
 obtain ⟨va,vc,rfl⟩:=own_len ho
 have HKS:=zh hks
 have HO:=zh ho
 have HM2:=zh hm2
 have hkb:ks.length<=100000:=by omega
 obtain ⟨base,hbase⟩:∃ base,base=w2.heap.size:=⟨_,rfl⟩
 have HBASE:=zh hbase
 clear hks hkl ho hm2 hbase
 go_wp2_with fail
 go_loopw [5,15] (fun u x wr=>∃ i:Nat,i<=ks.length/\x=.int .i64 i/\wr.ownsRow base 9 1 u ((ks.take i).filter (pref q)).length (((ks.take i).filter (pref q)).map encStr)/\Mod No w2 wr) (fun _ x _=>ks.length - (intOf x).toNat)
 case atStart=>exact ⟨0,by omega,rfl,World.ownsRow_nil _ _ _ _,Mod.refl _ _⟩
 case round =>
  obtain ⟨i,hi,rfl,hown,hmod⟩:=hrel
  have hi0':(0:Int)<=(i:Int):=Int.natCast_nonneg _
  by_cases hlt:i < ks.length
  ·have hi1:(i:Int) < (ks.length:Int):=by omega
   obtain ⟨g,gc,hv,hgb⟩:=own_shape HO.out (by omega)
   cases hv
   have hc:=(HO.out.cells (g:=g) rfl i (.string ⟨ks[i].toArray⟩) (by rw [List.getElem?_map,List.getElem?_eq_getElem hlt];rfl))
   have hc:w2.cell? ⟨g,i,none⟩=some (.string ⟨ks[i].toArray⟩):=by simpa [Addr.add_lit] using hc
   have hc:=hmod.cell hc (fun f=>f)
   have HPF:=zh (pref_any q ks[i] wr)
   have HT:=zh (show (ks.take (i+1)).filter (pref q)=(ks.take i).filter (pref q)++if pref q ks[i] then [ks[i]] else [] by
    rw [List.take_succ_eq_append_getElem hlt,List.filter_append]
    congr 1
    simp [List.filter_cons])
   have hfl:((ks.take i).filter (pref q)).length<=100000:=Nat.le_trans (List.length_filter_le _ _) (by rw [List.length_take];omega)
   have HEN:=zh (show encStr ks[i]=.string ⟨ks[i].toArray⟩ from rfl)
   generalize (ks.take i).filter (pref q)=done at *
   generalize pref q ks[i]=yes at *
   generalize ks[i]=k at *
   generalize (⟨k.toArray⟩:ByteArray)=K at *
   have HOWN:=zh hown
   have HMOD:=zh hmod
   obtain ⟨ua,uc,rfl⟩:=own_len hown
   clear hown hmod
   go_wp2_with fail
   with_reducible refine HPF.out.mono ?_
   clear HPF
   rintro e w5 ⟨rfl,h2⟩
   subst h2
   cases yes with
   | true =>
    have hm5:Mod No w5 (w5.alloc (.cells #[.string K] 9)):=(Mod.refl No w5).alloc _
    have HO5:=zh (own_keepM HOWN.out hm5 (fun _ _ f=>f))
    have HBX:=zh (show Sl (w5.alloc (.cells #[.string K] 9)) No 9 (.slice (some ⟨w5.heap.size,0,none⟩) 1 1) 1 [.string K] from
     .inr ⟨w5.heap.size,0,1,#[.string K],(0,0),rfl,Nat.le_refl _,by unfold maxLen;omega,fun f=>f,heap_alloc_new w5 _,Nat.le_refl _,fun i hi=>by simp⟩)
    have HM5:=zh (HMOD.out.trans hm5)
    have hb5:base<=(w5.alloc (.cells #[.string K] 9)).heap.size:=by have:=HM5.out.size;have:=HBASE.out;omega
    have h1c:∀ y ∈ [Value.string K],y.oneCell'=true:=by
     intro y hy
     simp at hy
     subst hy
     rfl
    have H1C:=zh h1c
    clear hm5 h1c
    go_wp2_with (at_builtin;refine app_sl _ rfl _ _ 43 rfl base 9 i0 (.string ⟨#[]⟩) 1 16 underlying43 hi0 hz0 hz1 hz2 rfl (by decide) _ _ _ rfl HO5.out No 9 _ _ _ rfl HBX.out rfl H1C.out ?_ ?_ hb5 ?_)
    ·unfold maxLen;omega
    ·omega
    intro v' w6 hown6 hg6 _
    have HR6:=zh (show w6.ownsRow base 9 1 v' (done++[k]).length ((done++[k]).map encStr) by
     rw [List.length_append,List.map_append]
     show w6.ownsRow base 9 1 v' (done.length+1) (done.map encStr++[encStr k])
     rw [HEN.out];exact hown6)
    have HM6:=zh (HM5.out.then (Mod.of_grown (S:=fun q=>base<=q) hg6 (fun q e _=>(HO5.out.lt _ e).1)) (fun q hq e=>by have:=HBASE.out;omega))
    clear hown6 hg6 HO5 HBX HM5 H1C
    go_wp2_with fail
    exact ⟨⟨i+1,by omega,by go_num,by rw [HT.out];exact HR6.out,HM6.out⟩,by go_light;simp only [intOf];omega⟩
   | false =>
    go_wp2_with fail
    exact ⟨⟨i+1,by omega,by go_num,by rw [HT.out];simpa using HOWN.out,HMOD.out⟩,by go_light;simp only [intOf];omega⟩
  ·have hil:i=ks.length:=by omega
   subst hil
   rw [List.take_length] at hown
   have hmw:=HM2.out.trans hmod
   obtain ⟨hl0,hrow⟩:=hown
   have HF:=zh (show wr.ownsRow w.heap.size 9 1 _ (ks.filter (pref q)).length ((ks.filter (pref q)).map encStr) from ⟨hl0,hrow.imp (fun h=>h) (by
    rintro ⟨g,cap,cur,hv,hg,r⟩
    exact ⟨g,cap,cur,hv,by have:=HBASE.out;have:=HM2.out.size;omega,r⟩)⟩)
   have HMW:=zh hmw
   clear hl0 hrow hmw hmod
   go_wp2_with fail
   exact fin hR ⟨_,ks,rfl,HKS.out,HF.out,HMW.out⟩
end Go.Proofs.YtmppeipgjcjdkaaGreatDoor
namespace Go.Proofs.YtmppeipgjcjdkaaGreatDoor
open _root_.Go.Proofs.Tryz
open Go.RowKit Go.Maps Go.Sort Go.Shelf
theorem SMp.bound {w:World} {m n:Nat} {M:Mt} (h:SMp w m n M) (K:List (List UInt8)) (hK:∀ k,(M k).isSome=true->k ∈ K):SMp w m K.length M:=by
 obtain ⟨D,d1,d2,d3⟩:=h.row
 refine ⟨D,d1,?_,d3⟩
 obtain ⟨k1,k2,k3⟩:=keys_sorted (n:=Maps.size D) d1 (Nat.le_refl _) d3 (List.Perm.refl (strKeys D))
 have h1:(strKeys D).length=Maps.size D:=by
  obtain ⟨es,hD,-⟩:=d1.tidy key_str
  rw [hD];simp [strKeys,Maps.size_eq]
 rw [<- h1,k3]
 exact k1.nodup.length_le_of_subset fun k hk=>hK k ((k1.mem k).1 hk)
theorem Sto.mk' {w0 w w':World} {N sz b s p m ub sb mb n cnt:Nat} {d:Dk} {L:Lg} {rs:List Pr} {M:Mt} {O:Nat->Prop} (hL:LogHas w' p b sb mb ub d L) (h2:d.n=N) (h3:d.sz=sz) (hst:StoAt w' s p m n M false) (h5:L.all=prB rs) (h6:Mt.changes (fun _=>none) rs=M) (hsh:ShortP rs) (h7:L.turn<=cnt)
  (hO:∀ q,Own3 b sb mb q->O q) (hlow:∀ q,O q->w0.heap.size<=q) (hhigh:∀ q,O q->q < w.heap.size) (h0:Mod No w0 w) (hm:Mod No w w') (hs:w.heap.size<=s) (hp:w.heap.size<=p) (hu:w.heap.size<=ub) (hmm:w.heap.size<=m) (pm:p < m) (um:ub < m) (ps:p < s) (us:ub < s) :
  ∃ O',Sto w0 w' N sz b s O' n M cnt/\∀ q,q < w.heap.size->O' q->O q:=by
 have hz:=h0.size
 refine ⟨fun q=>O q\/q=s\/q=p\/q=m\/q=ub,⟨⟨p,m,sb,mb,ub,d,L,rs,hL,h2,h3,hst,h5,h6,hsh,h7,fun q e=>?_,fun e=>?_,fun e=>?_⟩,fun q e=>?_,fun q e=>?_,h0.trans hm⟩,fun q hq e=>?_⟩
 ·rcases e with (e | e | e) | e | e
  ·exact .inl (hO q e)
  ·exact .inr (.inr (.inr (.inr e)))
  ·exact .inr (.inr (.inl e))
  ·exact .inr (.inl e)
  ·exact .inr (.inr (.inr (.inl e)))
 ·rcases e with e | e | e
  ·have:=hhigh _ (hO _ e);omega
  ·omega
  ·omega
 ·rcases e with e | e | e
  ·have:=hhigh _ (hO _ e);omega
  ·omega
  ·omega
 ·rcases e with e | e | e | e | e
  ·exact hlow q e
  all_goals omega
 ·rcases e with e | e | e | e | e
  ·have:=hhigh q e;have:=hm.size;omega
  ·subst e;exact lt_of_heap hst.obj
  ·subst e;exact hL.lt (.inr (.inr rfl))
  ·subst e;exact hst.map.lt
  ·subst e;exact hL.lt (.inr (.inl rfl))
 ·rcases e with e | e | e | e | e
  ·exact e
  all_goals omega
theorem Sto.reopen {w0 w:World} {N sz b s n cnt:Nat} {O:Nat->Prop} {M:Mt} (h:Sto w0 w N sz b s O n M cnt) (K:List (List UInt8)) (hK:∀ k,(M k).isSome=true->k ∈ K) :
  Calls prog 8 #[.pointer (some ⟨b,0,none⟩)] w fun e w'=>∃ s' O',e=.returned (.tuple #[.pointer (some ⟨s',0,none⟩),.int .i64 0])/\Sto w0 w' N sz b s' O' K.length M cnt/\(∀ q,q < w.heap.size->O' q->O q)/\Mod No w w':=by
 obtain ⟨p,m,sb,mb,ub,d,L,rs,h1,h2,h3,h4,h5,h6,hsh,h7,h8,h9,h10⟩:=h.has
 have hrl:rs.length<=100000000:=by
  have:=h1.bounds.2.2.2.2
  rw [h5,prB_len] at this;omega
 refine (sopen_any h1.n h1.sz h1.well h1.disk h1.ok h5 hsh hrl).mono ?_
 rintro e w' ⟨s',p',m',ub',rfl,hL,hst,hm,hs,hp,hu,hmm,pm,um,ps,us⟩
 rw [h6] at hst
 have hst':StoAt w' s' p' m' K.length M false:=⟨hst.obj,hst.map.bound K hK⟩
 obtain ⟨O',hsto,hO'⟩:=Sto.mk' hL h2 h3 hst' h5 h6 hsh h7 (fun q e=>h8 q (.inl (.inl e))) h.low h.high h.mod hm hs hp hu hmm pm um ps us
 exact ⟨s',O',rfl,hsto,hO',hm⟩
theorem Sto.first {w0 w:World} {n z:Int} {N sz b sb mb:Nat} (hN:(Dk.new n z).n=N) (hz:(Dk.new n z).sz=sz) (hN2:16<=N) (hz2:128<=sz) (hd:DkAt w No b sb mb (Dk.new n z)) (hb:w0.heap.size<=b/\w0.heap.size<=sb/\w0.heap.size<=mb) (hm0:Mod No w0 w) :
  Calls prog 8 #[.pointer (some ⟨b,0,none⟩)] w fun e w'=>∃ s O,e=.returned (.tuple #[.pointer (some ⟨s,0,none⟩),.int .i64 0])/\Sto w0 w' N sz b s O 0 (fun _=>none) 0/\(∀ q,q < w.heap.size->O q->Own3 b sb mb q)/\Mod No w w':=by
 refine (sopen_any (L:=⟨0,0,0,[]⟩) (rs:=[]) (by rw [hN];exact hN2) (by rw [hz];exact hz2) (new_well n z) hd (new_log n z) rfl (fun p hp=>by cases hp) (by decide)).mono ?_
 rintro e w' ⟨s',p',m',ub',rfl,hL,hst,hm,hs,hp,hu,hmm,pm,um,ps,us⟩
 obtain ⟨O',hsto,hO'⟩:=Sto.mk' (w0:=w0) (O:=Own3 b sb mb) (cnt:=0) hL hN hz hst (rs:=[]) rfl rfl (fun p hp=>by cases hp) (Nat.le_refl _) (fun _ e=>e) (fun q e=>by rcases e with e | e | e <;> omega) (fun q e=>hd.lt e) hm0 hm hs hp hu hmm pm um ps us
 exact ⟨s',O',rfl,hsto,hO',hm⟩
theorem Sto.keys {w0 w:World} {N sz b s n cnt:Nat} {O:Nat->Prop} {M:Mt} (h:Sto w0 w N sz b s O n M cnt) (hn:n<=100000) (q:List UInt8) :
  Calls prog 90 #[.pointer (some ⟨s,0,none⟩),.string ⟨q.toArray⟩] w fun e w'=>∃ v ks,e=.returned v/\KeysOfM M ks/\w'.ownsRow w.heap.size 9 1 v (ks.filter (pref q)).length ((ks.filter (pref q)).map encStr)/\Mod No w w':=by
 obtain ⟨p,m,sb,mb,ub,d,L,rs,h1,h2,h3,h4,h5⟩:=h.has
 exact skeys_any h4 hn q
end Go.Proofs.YtmppeipgjcjdkaaGreatDoor
namespace Go.Proofs.YtmppeipgjcjdkaaGreatDoor
open _root_.Go.Proofs.Tryz
open Go.RowKit Go.Maps Go.Sort
end Go.Proofs.YtmppeipgjcjdkaaGreatDoor
namespace Go.Proofs.YtmppeipgjcjdkaaGreatDoor
open _root_.Go.Proofs.Tryz
open Go.RowKit Go.Maps
theorem part_u8 {S:List UInt8} {i:Nat} (hi:i < S.length) (W:World):Sem.run prog (part 5 (bv S).toArray i) W=.ok (.int .u8 (bf S i)) W:=by
 have h4:(isAgg 5).run prog W=.ok false W:=by kernel_rfl
 have h3:(bv S).toArray[i]? = some (.int .u8 (bf S i)):=by rw [List.getElem?_toArray];exact bv_bf hi
 unfold part
 simp only [Sem.run_bind,h4,Result.andThen_ok,h3,Bool.false_eq_true,if_false,Sem.run_pure]
theorem eqItems_key {S T:List UInt8} (hS:S.length=32) (hT:T.length=32) (W:World):∀ is:List Nat,(∀ i ∈ is,i < 32) →
  (Op.eqItems 9999 5 1 (bv S).toArray (bv T).toArray is).run prog W=.ok (is.all fun i=>bf S i == bf T i) W
 | [],_=>by simp [Op.eqItems]
 | i :: is,h=>by
  have hi:=h i (by simp)
  simp only [Op.eqItems,Sem.run_bind,Nat.mul_one,part_u8 (show i < S.length by omega),part_u8 (show i < T.length by omega),Result.andThen_ok,run_equalIn_int W 9998 5 .u8 .u8 _ _ underlying5,List.all_cons]
  cases hb:(bf S i == bf T i)
  ·simp
  ·simp [eqItems_key hS hT W is fun j hj=>h j (by simp [hj])]
theorem bf_ext {S T:List UInt8} (hS:S.length=32) (hT:T.length=32) (h:∀ i,i < 32->bf S i=bf T i):S=T:=by
 apply List.ext_getElem (by omega)
 intro i h1 h2
 have h3:=h i (by omega)
 unfold bf at h3
 rw [List.getD_eq_getElem?_getD,List.getD_eq_getElem?_getD,List.getElem?_eq_getElem h1,List.getElem?_eq_getElem h2] at h3
 exact UInt8.toNat_inj.1 (Int.ofNat_inj.1 (by simpa using h3))
theorem eqAll_key {S T:List UInt8} (hS:S.length=32) (hT:T.length=32):((List.range 32).all fun i=>bf S i == bf T i)=decide (S=T):=by
 by_cases h:S=T
 ·subst h;simp
 ·rw [decide_eq_false h,List.all_eq_false]
  refine Classical.byContradiction fun hn=>h (bf_ext hS hT fun i hi=>?_)
  refine Classical.byContradiction fun hne=>hn ⟨i,List.mem_range.2 hi,by simpa using hne⟩
theorem run_ne_key {S T:List UInt8} (hS:S.length=32) (hT:T.length=32) (W:World):(binOp .neq 47 (keyV S) (keyV T)).run prog W=.ok (.bool (!decide (S=T))) W:=by
 obtain ⟨i0,hi,-⟩:=info_parts info_byte
 have hc:prog.cellsOf 5=1:=by kernel_rfl
 rw [run_neq_struct,run_equalIn_array W 9999 _ _ underlying47 hi,hc,eqItems_key hS hT W _ (fun i hi=>List.mem_range.1 hi),eqAll_key hS hT]
 rfl
theorem key_guard:prog.eqGuardType prog.depth 47=false:=by kernel_rfl
theorem yne {w:World} {S T:List UInt8} {o:Oper} {ρ:Operand->Value} (hS:S.length=32) (hT:T.length=32) (x y:Operand) (rt:TypeId) (ho:o.op=.binOp .neq 47 x y rt) (hx:ρ x=keyV S) (hy:ρ y=keyV T) :
  (execOp ρ o).run prog w=.ok (.value (.bool (!decide (S=T)))) w:=by
 unfold execOp
 simp only [ho,hx,hy,Sem.run_bind,Sem.run_pure,run_eqGuard_agg w .neq 47 x y _ _ key_guard,Result.andThen_ok,run_ne_key hS hT]
def CaObj (w:World) (cb s:Nat):Prop:=w.heap[cb]? = some (.cells #[.pointer (some ⟨s,0,none⟩)] 120 (0,0))
set_option maxRecDepth 100000 in
theorem cnew_any (s:Nat) (w:World) :
  Calls prog 18 #[.pointer (some ⟨s,0,none⟩)] w fun e w'=>e=.returned (.pointer (some ⟨w.heap.size,0,none⟩))/\CaObj w' w.heap.size s/\Mod No w w'/\w.heap.size < w'.heap.size:=by
 refine calls_hide fun R hR=>?_
 go_enter func18,ntmps18
 go_wp2_with fail
 exact fin hR ⟨rfl,heap_alloc_new w _,(Mod.refl No w).alloc _,by simp⟩
end Go.Proofs.YtmppeipgjcjdkaaGreatDoor
