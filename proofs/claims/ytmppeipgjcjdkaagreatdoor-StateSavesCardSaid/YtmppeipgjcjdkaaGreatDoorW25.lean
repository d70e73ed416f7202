/-
  Layers 0 to 14: helps of the laws of indexes. No statement is proved here; no condition.
-/
import Derived.Test.YtmppeipgjcjdkaaGreatDoorW24
import Derived.Test.YtmppeipgjcjdkaaGreatDoorW23
namespace Go.Proofs.YtmppeipgjcjdkaaGreatDoor
open _root_.Go.Proofs.Tryz
open Go.RowKit Go.Maps Go.Shelf
theorem info_strS:(prog.info? 9).map (fun i=>(i.zero,i.size,i.bytes))=some (some (.string ⟨#[]⟩),1,16):=by kernel_rfl
set_option maxRecDepth 100000 in
set_option maxHeartbeats 4000000 in
theorem skeys_any {w:World} {s p m n:Nat} {M:Mt} {down:Bool} (h:StoAt w s p m n M down) (hn:n<=100000) (q:List UInt8) :
  Calls prog 90 #[.pointer (some ⟨s,0,none⟩),.string ⟨q.toArray⟩] w fun e w'=>∃ v ks,e=.returned v/\KeysOfM M ks/\w'.ownsRow w.heap.size 9 1 v (ks.filter (pref q)).length ((ks.filter (pref q)).map encStr)/\Mod No w w':=by
 obtain ⟨i0,hi0,hz0,hz1,hz2⟩:=info_parts info_strS
 refine calls_hide fun R hR=>?_
 have H:=zh h
 have c1:=cell_of (i:=1) h.obj rfl
 have HSK:=zh (sorted_keys h.map (by omega))
 clear h
 go_enter func90,ntmps90
 go_wp2_with fail
 with_reducible refine (keysS_any (some m) w).mono ?_
 rintro e w' ⟨rfl,h2⟩
 subst h2
 go_wp2_with fail
 with_reducible refine HSK.out.mono ?_
 clear HSK
 rintro e w2 ⟨v2,ks,rfl,hks,hkl,ho,hm2⟩
 obtain ⟨va,vc,rfl⟩:=own_len ho
 have HKS:=zh hks
 have HO:=zh ho
 have HM2:=zh hm2
 have hkb:ks.length<=100000:=by omega
 obtain ⟨base,hbase⟩:∃ base,base=w2.heap.size:=⟨_,rfl⟩
 have HBASE:=zh hbase
 clear hks hkl ho hm2 hbase
 go_wp2_with fail
 go_loopw [5,15] (fun u x wr=>∃ i:Nat,i<=ks.length/\x=.int .i64 i/\wr.ownsRow base 9 1 u ((ks.take i).filter (pref q)).length (((ks.take i).filter (pref q)).map encStr)/\Mod No w2 wr) (fun _ x _=>ks.length - (intOf x).toNat)
 case atStart=>exact ⟨0,by omega,rfl,World.ownsRow_nil _ _ _ _,Mod.refl _ _⟩
 case round =>
  obtain ⟨i,hi,rfl,hown,hmod⟩:=hrel
  have hi0':(0:Int)<=(i:Int):=Int.natCast_nonneg _
  by_cases hlt:i < ks.length
  ·have hi1:(i:Int) < (ks.length:Int):=by omega
   obtain ⟨g,gc,hv,hgb⟩:=own_shape HO.out (by omega)
   cases hv
   have hc:=(HO.out.cells (g:=g) rfl i (.string ⟨ks[i].toArray⟩) (by rw [List.getElem?_map,List.getElem?_eq_getElem hlt];rfl))
   have hc:w2.cell? ⟨g,i,none⟩=some (.string ⟨ks[i].toArray⟩):=by simpa [Addr.add_lit] using hc
   have hc:=hmod.cell hc (fun f=>f)
   have HPF:=zh (pref_any q ks[i] wr)
   have HT:=zh (show (ks.take (i+1)).filter (pref q)=(ks.take i).filter (pref q)++if pref q ks[i] then [ks[i]] else [] by
    rw [List.take_succ_eq_append_getElem hlt,List.filter_append]
    congr 1
    simp [List.filter_cons])
   have hfl:((ks.take i).filter (pref q)).length<=100000:=Nat.le_trans (List.length_filter_le _ _) (by rw [List.length_take];omega)
   have HEN:=zh (show encStr ks[i]=.string ⟨ks[i].toArray⟩ from rfl)
   generalize (ks.take i).filter (pref q)=done at *
   generalize pref q ks[i]=yes at *
   generalize ks[i]=k at *
   generalize (⟨k.toArray⟩:ByteArray)=K at *
   have HOWN:=zh hown
   have HMOD:=zh hmod
   obtain ⟨ua,uc,rfl⟩:=own_len hown
   clear hown hmod
   go_wp2_with fail
   with_reducible refine HPF.out.mono ?_
   clear HPF
   rintro e w5 ⟨rfl,h2⟩
   subst h2
   cases yes with
   | true =>
    have hm5:Mod No w5 (w5.alloc (.cells #[.string K] 9)):=(Mod.refl No w5).alloc _
    have HO5:=zh (own_keepM HOWN.out hm5 (fun _ _ f=>f))
    have HBX:=zh (show Sl (w5.alloc (.cells #[.string K] 9)) No 9 (.slice (some ⟨w5.heap.size,0,none⟩) 1 1) 1 [.string K] from
     .inr ⟨w5.heap.size,0,1,#[.string K],(0,0),rfl,Nat.le_refl _,by unfold maxLen;omega,fun f=>f,heap_alloc_new w5 _,Nat.le_refl _,fun i hi=>by simp⟩)
    have HM5:=zh (HMOD.out.trans hm5)
    have hb5:base<=(w5.alloc (.cells #[.string K] 9)).heap.size:=by have:=HM5.out.size;have:=HBASE.out;omega
    have h1c:∀ y ∈ [Value.string K],y.oneCell'=true:=by
     intro y hy
     simp at hy
     subst hy
     rfl
    have H1C:=zh h1c
    clear hm5 h1c
    go_wp2_with (at_builtin;refine app_sl _ rfl _ _ 43 rfl base 9 i0 (.string ⟨#[]⟩) 1 16 underlying43 hi0 hz0 hz1 hz2 rfl (by decide) _ _ _ rfl HO5.out No 9 _ _ _ rfl HBX.out rfl H1C.out ?_ ?_ hb5 ?_)
    ·unfold maxLen;omega
    ·omega
    intro v' w6 hown6 hg6 _
    have HR6:=zh (show w6.ownsRow base 9 1 v' (done++[k]).length ((done++[k]).map encStr) by
     rw [List.length_append,List.map_append]
     show w6.ownsRow base 9 1 v' (done.length+1) (done.map encStr++[encStr k])
     rw [HEN.out];exact hown6)
    have HM6:=zh (HM5.out.then (Mod.of_grown (S:=fun q=>base<=q) hg6 (fun q e _=>(HO5.out.lt _ e).1)) (fun q hq e=>by have:=HBASE.out;omega))
    clear hown6 hg6 HO5 HBX HM5 H1C
    go_wp2_with fail
    exact ⟨⟨i+1,by omega,by go_num,by rw [HT.out];exact HR6.out,HM6.out⟩,by go_light;simp only [intOf];omega⟩
   | false =>
    go_wp2_with fail
    exact ⟨⟨i+1,by omega,by go_num,by rw [HT.out];simpa using HOWN.out,HMOD.out⟩,by go_light;simp only [intOf];omega⟩
  ·have hil:i=ks.length:=by omega
   subst hil
   rw [List.take_length] at hown
   have hmw:=HM2.out.trans hmod
   obtain ⟨hl0,hrow⟩:=hown
   have HF:=zh (show wr.ownsRow w.heap.size 9 1 _ (ks.filter (pref q)).length ((ks.filter (pref q)).map encStr) from ⟨hl0,hrow.imp (fun h=>h) (by
    rintro ⟨g,cap,cur,hv,hg,r⟩
    exact ⟨g,cap,cur,hv,by have:=HBASE.out;have:=HM2.out.size;omega,r⟩)⟩)
   have HMW:=zh hmw
   clear hl0 hrow hmw hmod
   go_wp2_with fail
   exact fin hR ⟨_,ks,rfl,HKS.out,HF.out,HMW.out⟩
end Go.Proofs.YtmppeipgjcjdkaaGreatDoor
namespace Go.Proofs.YtmppeipgjcjdkaaGreatDoor
open _root_.Go.Proofs.Tryz
open Go.RowKit Go.Maps Go.Sort Go.Shelf
theorem SMp.bound {w:World} {m n:Nat} {M:Mt} (h:SMp w m n M) (K:List (List UInt8)) (hK:∀ k,(M k).isSome=true->k ∈ K):SMp w m K.length M:=by
 obtain ⟨D,d1,d2,d3⟩:=h.row
 refine ⟨D,d1,?_,d3⟩
 obtain ⟨k1,k2,k3⟩:=keys_sorted (n:=Maps.size D) d1 (Nat.le_refl _) d3 (List.Perm.refl (strKeys D))
 have h1:(strKeys D).length=Maps.size D:=by
  obtain ⟨es,hD,-⟩:=d1.tidy key_str
  rw [hD];simp [strKeys,Maps.size_eq]
 rw [<- h1,k3]
 exact k1.nodup.length_le_of_subset fun k hk=>hK k ((k1.mem k).1 hk)
theorem Sto.mk' {w0 w w':World} {N sz b s p m ub sb mb n cnt:Nat} {d:Dk} {L:Lg} {rs:List Pr} {M:Mt} {O:Nat->Prop} (hL:LogHas w' p b sb mb ub d L) (h2:d.n=N) (h3:d.sz=sz) (hst:StoAt w' s p m n M false) (h5:L.all=prB rs) (h6:Mt.changes (fun _=>none) rs=M) (hsh:ShortP rs) (h7:L.turn<=cnt)
  (hO:∀ q,Own3 b sb mb q->O q) (hlow:∀ q,O q->w0.heap.size<=q) (hhigh:∀ q,O q->q < w.heap.size) (h0:Mod No w0 w) (hm:Mod No w w') (hs:w.heap.size<=s) (hp:w.heap.size<=p) (hu:w.heap.size<=ub) (hmm:w.heap.size<=m) (pm:p < m) (um:ub < m) (ps:p < s) (us:ub < s) :
  ∃ O',Sto w0 w' N sz b s O' n M cnt/\∀ q,q < w.heap.size->O' q->O q:=by
 have hz:=h0.size
 refine ⟨fun q=>O q\/q=s\/q=p\/q=m\/q=ub,⟨⟨p,m,sb,mb,ub,d,L,rs,hL,h2,h3,hst,h5,h6,hsh,h7,fun q e=>?_,fun e=>?_,fun e=>?_⟩,fun q e=>?_,fun q e=>?_,h0.trans hm⟩,fun q hq e=>?_⟩
 ·rcases e with (e | e | e) | e | e
  ·exact .inl (hO q e)
  ·exact .inr (.inr (.inr (.inr e)))
  ·exact .inr (.inr (.inl e))
  ·exact .inr (.inl e)
  ·exact .inr (.inr (.inr (.inl e)))
 ·rcases e with e | e | e
  ·have:=hhigh _ (hO _ e);omega
  ·omega
  ·omega
 ·rcases e with e | e | e
  ·have:=hhigh _ (hO _ e);omega
  ·omega
  ·omega
 ·rcases e with e | e | e | e | e
  ·exact hlow q e
  all_goals omega
 ·rcases e with e | e | e | e | e
  ·have:=hhigh q e;have:=hm.size;omega
  ·subst e;exact lt_of_heap hst.obj
  ·subst e;exact hL.lt (.inr (.inr rfl))
  ·subst e;exact hst.map.lt
  ·subst e;exact hL.lt (.inr (.inl rfl))
 ·rcases e with e | e | e | e | e
  ·exact e
  all_goals omega
theorem Sto.reopen {w0 w:World} {N sz b s n cnt:Nat} {O:Nat->Prop} {M:Mt} (h:Sto w0 w N sz b s O n M cnt) (K:List (List UInt8)) (hK:∀ k,(M k).isSome=true->k ∈ K) :
  Calls prog 8 #[.pointer (some ⟨b,0,none⟩)] w fun e w'=>∃ s' O',e=.returned (.tuple #[.pointer (some ⟨s',0,none⟩),.int .i64 0])/\Sto w0 w' N sz b s' O' K.length M cnt/\(∀ q,q < w.heap.size->O' q->O q)/\Mod No w w':=by
 obtain ⟨p,m,sb,mb,ub,d,L,rs,h1,h2,h3,h4,h5,h6,hsh,h7,h8,h9,h10⟩:=h.has
 have hrl:rs.length<=100000000:=by
  have:=h1.bounds.2.2.2.2
  rw [h5,prB_len] at this;omega
 refine (sopen_any h1.n h1.sz h1.well h1.disk h1.ok h5 hsh hrl).mono ?_
 rintro e w' ⟨s',p',m',ub',rfl,hL,hst,hm,hs,hp,hu,hmm,pm,um,ps,us⟩
 rw [h6] at hst
 have hst':StoAt w' s' p' m' K.length M false:=⟨hst.obj,hst.map.bound K hK⟩
 obtain ⟨O',hsto,hO'⟩:=Sto.mk' hL h2 h3 hst' h5 h6 hsh h7 (fun q e=>h8 q (.inl (.inl e))) h.low h.high h.mod hm hs hp hu hmm pm um ps us
 exact ⟨s',O',rfl,hsto,hO',hm⟩
theorem Sto.first {w0 w:World} {n z:Int} {N sz b sb mb:Nat} (hN:(Dk.new n z).n=N) (hz:(Dk.new n z).sz=sz) (hN2:16<=N) (hz2:128<=sz) (hd:DkAt w No b sb mb (Dk.new n z)) (hb:w0.heap.size<=b/\w0.heap.size<=sb/\w0.heap.size<=mb) (hm0:Mod No w0 w) :
  Calls prog 8 #[.pointer (some ⟨b,0,none⟩)] w fun e w'=>∃ s O,e=.returned (.tuple #[.pointer (some ⟨s,0,none⟩),.int .i64 0])/\Sto w0 w' N sz b s O 0 (fun _=>none) 0/\(∀ q,q < w.heap.size->O q->Own3 b sb mb q)/\Mod No w w':=by
 refine (sopen_any (L:=⟨0,0,0,[]⟩) (rs:=[]) (by rw [hN];exact hN2) (by rw [hz];exact hz2) (new_well n z) hd (new_log n z) rfl (fun p hp=>by cases hp) (by decide)).mono ?_
 rintro e w' ⟨s',p',m',ub',rfl,hL,hst,hm,hs,hp,hu,hmm,pm,um,ps,us⟩
 obtain ⟨O',hsto,hO'⟩:=Sto.mk' (w0:=w0) (O:=Own3 b sb mb) (cnt:=0) hL hN hz hst (rs:=[]) rfl rfl (fun p hp=>by cases hp) (Nat.le_refl _) (fun _ e=>e) (fun q e=>by rcases e with e | e | e <;> omega) (fun q e=>hd.lt e) hm0 hm hs hp hu hmm pm um ps us
 exact ⟨s',O',rfl,hsto,hO',hm⟩
theorem Sto.keys {w0 w:World} {N sz b s n cnt:Nat} {O:Nat->Prop} {M:Mt} (h:Sto w0 w N sz b s O n M cnt) (hn:n<=100000) (q:List UInt8) :
  Calls prog 90 #[.pointer (some ⟨s,0,none⟩),.string ⟨q.toArray⟩] w fun e w'=>∃ v ks,e=.returned v/\KeysOfM M ks/\w'.ownsRow w.heap.size 9 1 v (ks.filter (pref q)).length ((ks.filter (pref q)).map encStr)/\Mod No w w':=by
 obtain ⟨p,m,sb,mb,ub,d,L,rs,h1,h2,h3,h4,h5⟩:=h.has
 exact skeys_any h4 hn q
end Go.Proofs.YtmppeipgjcjdkaaGreatDoor
namespace Go.Proofs.YtmppeipgjcjdkaaGreatDoor
open _root_.Go.Proofs.Tryz
open Go.RowKit Go.Maps Go.Sort
theorem Sto.keepM {S:Nat->Prop} {w0 w w':World} {N sz b s n cnt:Nat} {O:Nat->Prop} {M:Mt} (h:Sto w0 w N sz b s O n M cnt) (hm:Mod S w w') (hO:∀ q,O q->¬ S q) (hb:∀ q cur fz,S q->w.heap[q]? ≠ some (.cells cur 5 fz)) (hl:∀ q,q < w0.heap.size->¬ S q):Sto w0 w' N sz b s O n M cnt:=by
 obtain ⟨p,m,sb,mb,ub,d,L,rs,h1,h2,h3,h4,h5,h6,h7,h8,h9,h10⟩:=h.has
 exact ⟨⟨p,m,sb,mb,ub,d,L,rs,h1.keepS hm (fun q e=>hO q (h9 q (.inl e))) hb,h2,h3,h4.keep hm (hO _ (h9 s (.inr (.inl rfl)))) (hO _ (h9 m (.inr (.inr rfl)))),h5,h6,h7,h8,h9,h10⟩,h.low,fun q hq=>Nat.lt_of_lt_of_le (h.high q hq) hm.size,h.mod.then hm fun i hi e=>hl i hi e⟩
theorem Sto.tight {w0 w:World} {N sz b s n cnt:Nat} {O:Nat->Prop} {M:Mt} (h:Sto w0 w N sz b s O n M cnt) :
  ∃ O',Sto w0 w N sz b s O' n M cnt/\(∀ q,O' q->O q)/\∀ q cur fz,O' q->w.heap[q]? ≠ some (.cells cur 5 fz):=by
 obtain ⟨p,m,sb,mb,ub,d,L,rs,h1,h2,h3,h4,h5,h6,h7,h8,h9,h10⟩:=h.has
 refine ⟨fun q=>LOwn p b sb mb ub q\/q=s\/q=m,⟨⟨p,m,sb,mb,ub,d,L,rs,h1,h2,h3,h4,h5,h6,h7,h8,fun q e=>e,h10⟩,fun q e=>h.low q (h9 q e),fun q e=>h.high q (h9 q e),h.mod⟩,h9,fun q cur fz e=>?_⟩
 rcases e with (e | e | e) | e | e
 ·exact h1.disk.not_bytes e cur fz
 ·subst e
  intro f
  obtain ⟨es,c,hb⟩:=h1.at_.undone.heap
  rw [hb] at f;cases f
 ·subst e
  intro f
  have:=h1.at_.obj
  rw [this] at f
  unfold LgObj at f
  cases f
 ·subst e
  intro f
  rw [h4.obj] at f;cases f
 ·subst e
  exact h4.map.not_cells cur _ fz
end Go.Proofs.YtmppeipgjcjdkaaGreatDoor
