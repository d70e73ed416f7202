/-
  Layers 0 to 14: helps of the laws of indexes. No statement is proved here; no condition.
-/
import Derived.Test.YtmppeipgjcjdkaaGreatDoorW11
import Derived.Test.YtmppeipgjcjdkaaGreatDoorW22
namespace Go.Proofs.YtmppeipgjcjdkaaGreatDoor
open _root_.Go.Proofs.Tryz
open Go.RowKit Go.Maps Go.Shelf
structure StoAt (w:World) (s p m n:Nat) (M:Mt) (down:Bool):Prop where
 obj:w.heap[s]? = some (.cells #[.pointer (some ⟨p,0,none⟩),.map (some m),.bool down] 74 (0,0))
 map:SMp w m n M
theorem StoAt.keep {S:Nat->Prop} {w w':World} {s p m n:Nat} {M:Mt} {down:Bool} (h:StoAt w s p m n M down) (hm:Mod S w w') (h1:¬ S s) (h2:¬ S m):StoAt w' s p m n M down :=
 ⟨hm.keep h.obj h1,h.map.keep hm h2⟩
theorem StoAt.stay {w w':World} {s p m n:Nat} {M:Mt} {down:Bool} (h:StoAt w s p m n M down) (hm:Mod No w w'):StoAt w' s p m n M down:=h.keep hm (fun f=>f) (fun f=>f)
theorem zero_str (w:World):(zeroValue 9).run prog w=.ok (.string ⟨#[]⟩) w:=zero_of (by kernel_rfl)
def getV (M:Mt) (k:List UInt8):Value:=.tuple #[.string ⟨((M k).getD []).toArray⟩,.bool (M k).isSome]
theorem SMp.look {w:World} {m n:Nat} {M:Mt} (h:SMp w m n M) (k:List UInt8) (hk:k.length<=1000000000):(Instr.lookup 72 (.map (some m)) (.string ⟨k.toArray⟩) true).run prog w=.ok (getV M k) w:=by
 obtain ⟨D,d1,d2,d3⟩:=h.row
 cases hM:M k with
 | none =>
  have:=d1.look_miss key_str (t:=72) underlying72 (zero_str w) (keyOf_str k hk) ((d3 k).1 hM)
  rw [this];unfold getV;rw [hM];rfl
 | some v =>
  have:=d1.look_hit key_str (t:=72) underlying72 (zero_str w) (keyOf_str k hk) ((d3 k).2 v hM).1 ((d3 k).2 v hM).2
  rw [this];unfold getV;rw [hM];rfl
theorem SMp.get {w:World} {m n:Nat} {M:Mt} (h:SMp w m n M) (k:List UInt8) (hk:k.length<=1000000000):(Instr.lookup 72 (.map (some m)) (.string ⟨k.toArray⟩) false).run prog w=.ok (.string ⟨((M k).getD []).toArray⟩) w:=by
 obtain ⟨D,d1,d2,d3⟩:=h.row
 cases hM:M k with
 | none=>exact d1.get_miss key_str (t:=72) underlying72 (zero_str w) (keyOf_str k hk) ((d3 k).1 hM)
 | some v=>exact d1.get_hit key_str (t:=72) underlying72 (zero_str w) (keyOf_str k hk) ((d3 k).2 v hM).2
theorem sget_any {w:World} {s p m n:Nat} {M:Mt} {down:Bool} (h:StoAt w s p m n M down) (k:List UInt8) (hk:k.length<=1000000000) :
  Calls prog 21 #[.pointer (some ⟨s,0,none⟩),.string ⟨k.toArray⟩] w fun e w'=>e=.returned (getV M k)/\w'=w:=by
 refine calls_hide fun R hR=>?_
 have c1:=cell_of (i:=1) h.obj rfl
 have hl:=h.map.look k hk
 clear h
 unfold getV at hl hR
 go_enter func21,ntmps21
 go_wp2_with fail
 exact fin hR ⟨rfl,rfl⟩
theorem noted_any {s:Nat} {e:Int} {w:World} (he:e ≠ 32) :
  Calls prog 32 #[.pointer (some ⟨s,0,none⟩),.int .i64 e] w fun x w'=>x=.returned (.int .i64 e)/\w'=w:=by
 refine calls_hide fun R hR=>?_
 have hb:(e == 32)=false:=by simpa using he
 go_enter func32,ntmps32
 go_wp2_with fail
 exact fin hR ⟨rfl,rfl⟩
def prB (l:List Pr):List (List UInt8):=l.map pairB
def ShortM (M:Mt):Prop:=∀ k v,M k=some v->k.length<=10000000/\v.length<=10000000
theorem prB_len (l:List Pr):(prB l).length=l.length:=by simp [prB]
set_option maxRecDepth 100000 in
set_option maxHeartbeats 4000000 in
theorem sreset_part {w:World} {s p m n n':Nat} {M M':Mt} {down:Bool} {E:Int} {Post:World->Prop} (h:StoAt w s p m n M down) (m':Nat) (hm':SMp w m' n' M') (hn:n'<=100000) (hsh:ShortM M') (hE:E ≠ 32)
  (hlog:∀ ks v W,KeysOfM M' ks->ks.length<=100000->Mod No w W->OwnRecs W w.heap.size v (prB (recsOf M' ks))->Calls prog 89 #[.pointer (some ⟨p,0,none⟩),v] W fun e w'=>e=.returned (.int .i64 E)/\Post w') :
  Calls prog 34 #[.pointer (some ⟨s,0,none⟩),.map (some m')] w fun e w'=>e=.returned (.int .i64 E)/\Post w':=by
 obtain ⟨i0,hi0,hz0,hz1,hz2⟩:=info_parts info_bs
 refine calls_hide fun R hR=>?_
 have H:=zh h
 have HM':=zh hm'
 have HSH:=zh hsh
 have HLOG:=zh hlog
 clear h hm' hsh hlog
 go_enter func34,ntmps34
 go_wp2_with fail
 with_reducible refine (keysS_any (some m') w).mono ?_
 rintro e w' ⟨rfl,h2⟩
 subst h2
 have HSK:=zh (sorted_keys HM'.out (by omega))
 go_wp2_with fail
 with_reducible refine HSK.out.mono ?_
 clear HSK
 rintro e w2 ⟨v2,ks,rfl,hks,hkl,ho,hm2⟩
 obtain ⟨va,vc,rfl⟩:=own_len ho
 have HKS:=zh hks
 have HO:=zh ho
 have HM2:=zh hm2
 have hkb:ks.length<=100000:=by omega
 obtain ⟨base,hbase⟩:∃ base,base=w2.heap.size:=⟨_,rfl⟩
 have HBASE:=zh hbase
 clear hks hkl ho hm2 hbase
 go_wp2_with fail
 go_loopw [5,12] (fun u q wr=>∃ i:Nat,i<=ks.length/\q=.int .i64 i/\OwnRecs wr base u ((prB (recsOf M' ks)).take i)/\Mod No w2 wr) (fun _ q _=>ks.length - (intOf q).toNat)
 case atStart=>exact ⟨0,by omega,rfl,OwnRecs.nil _ _,Mod.refl _ _⟩
 case round =>
  obtain ⟨i,hi,rfl,hown,hmod⟩:=hrel
  have hi0':(0:Int)<=(i:Int):=Int.natCast_nonneg _
  by_cases hlt:i < ks.length
  ·have hi1:(i:Int) < (ks.length:Int):=by omega
   obtain ⟨g,gc,hv,hgb⟩:=own_shape HO.out (by omega)
   cases hv
   have hc:=(HO.out.cells (g:=g) rfl i (.string ⟨ks[i].toArray⟩) (by rw [List.getElem?_map,List.getElem?_eq_getElem hlt];rfl))
   have hc:w2.cell? ⟨g,i,none⟩=some (.string ⟨ks[i].toArray⟩):=by simpa [Addr.add_lit] using hc
   have hc:=hmod.cell hc (fun f=>f)
   have hks:=(HKS.out.mem ks[i]).1 (List.getElem_mem hlt)
   obtain ⟨val,hval⟩:=Option.isSome_iff_exists.1 hks
   have hlen:=HSH.out _ _ hval
   have hgt:=(HM'.out.keep (HM2.out.trans hmod) (fun f=>f)).get ks[i] (by omega)
   rw [hval] at hgt
   have HSUC:=zh (show (prB (recsOf M' ks)).take (i+1)=(prB (recsOf M' ks)).take i++[pairB ⟨ks[i],val,false⟩] by
    rw [List.take_succ_eq_append_getElem (by rw [prB_len];unfold recsOf;rw [List.length_map];exact hlt)]
    congr 2
    simp [prB,recsOf,hval])
   have HDL:=zh (show ((prB (recsOf M' ks)).take i).length<=1000000 by rw [List.length_take];omega)
   have HB:=zh (show Calls prog 30 #[.agg #[.string ⟨ks[i].toArray⟩,.string ⟨val.toArray⟩,.bool false]] wr fun e w'=>∃ v,e=.returned v/\w'.ownsRow wr.heap.size 5 1 v (pairB ⟨ks[i],val,false⟩).length (bv (pairB ⟨ks[i],val,false⟩))/\Mod No wr w' from pbytes_any ⟨ks[i],val,false⟩ wr hlen.1 hlen.2)
   generalize (prB (recsOf M' ks)).take i=done at *
   generalize pairB ⟨ks[i],val,false⟩=rec_ at *
   generalize hK:(⟨ks[i].toArray⟩:ByteArray)=K at *
   clear hK
   dsimp only [Option.getD_some] at hgt
   generalize hV:(⟨val.toArray⟩:ByteArray)=V at *
   clear hV
   have HOWN:=zh hown
   have HMOD:=zh hmod
   clear hown hmod hval hlen hks
   go_wp2_with fail
   with_reducible refine HB.out.mono ?_
   clear HB
   rintro e w5 ⟨v5,rfl,ho5,hm5⟩
   obtain ⟨ua,uc,rfl⟩:=own_len ho5
   have HREC:=zh (HOWN.out.stay hm5)
   have HU0:=zh (Sl.of_own (X:=fun q=>q < base) ho5 (fun q h1 h2=>by have:=HMOD.out.size;have:=HBASE.out;omega))
   have HMW:=zh (HMOD.out.trans hm5)
   generalize hul:rec_.length=ul at *
   have HUL:=zh hul
   clear ho5 hm5
   have hm5:Mod No w5 (w5.alloc (.cells #[.slice ua ul uc] 41)):=(Mod.refl No w5).alloc _
   obtain ⟨vs,e1,e2,e3⟩:=HREC.out.row
   have HU:=zh (HU0.out.keep hm5 (fun q _ _ (f:No q)=>f.elim))
   have HO5:=zh (own_keepM e2 hm5 (fun _ _ f=>f))
   have HE1:=zh e1
   have HE3:=zh (show ∀ (y:Nat) (u':Value) (r:List UInt8),vs[y]? = some u'->(done)[y]? = some r->Sl (w5.alloc (.cells #[.slice ua ul uc] 41)) (fun q=>q < base) 5 u' r.length (bv r) from fun y u' r h1 h2=>(e3 y u' r h1 h2).keep hm5 (fun q _ _ (f:No q)=>f.elim))
   have HBX:=zh (show Sl (w5.alloc (.cells #[.slice ua ul uc] 41)) No 41 (.slice (some ⟨w5.heap.size,0,none⟩) 1 1) 1 [.slice ua ul uc] from
    .inr ⟨w5.heap.size,0,1,#[.slice ua ul uc],(0,0),rfl,Nat.le_refl _,by unfold maxLen;omega,fun f=>f,heap_alloc_new w5 _,Nat.le_refl _,fun i hi=>by simp⟩)
   have HM5:=zh (HMW.out.trans hm5)
   have hb5:base<=(w5.alloc (.cells #[.slice ua ul uc] 41)).heap.size:=by have:=HM5.out.size;have:=HBASE.out;omega
   have h1c:∀ y ∈ [Value.slice ua ul uc],y.oneCell'=true:=by
    intro y hy
    simp at hy
    subst hy
    rfl
   have H1C:=zh h1c
   have hdl:=HDL.out
   clear e1 e2 e3 h1c hm5
   go_wp2_with (at_builtin;refine app_sl _ rfl _ _ 69 rfl base 41 i0 (.slice none 0 0) 1 24 underlying69 hi0 hz0 hz1 hz2 rfl (by decide) _ _ _ rfl HO5.out No 41 _ _ _ rfl HBX.out rfl H1C.out ?_ ?_ hb5 ?_)
   ·unfold maxLen;omega
   ·omega
   intro v' w6 hown6 hg6 _
   have HR6:=zh (OwnRecs.push (r:=rec_) HE1.out HO5.out HE3.out (by rw [HUL.out];exact HU.out) hg6 hown6)
   have HM6:=zh (HM5.out.then (Mod.of_grown (S:=fun q=>base<=q) hg6 (fun q e _=>(HO5.out.lt _ e).1)) (fun q hq e=>by have:=HBASE.out;omega))
   clear hown6 hg6 HO5 HE1 HE3 HU HBX HM5 H1C hdl
   go_wp2_with fail
   exact ⟨⟨i+1,by omega,by go_num,by rw [HSUC.out];exact HR6.out,HM6.out⟩,by go_light;simp only [intOf];omega⟩
  ·have hil:i=ks.length:=by omega
   subst hil
   rw [List.take_of_length_le (by rw [prB_len];unfold recsOf;rw [List.length_map];exact Nat.le_refl _)] at hown
   have hmw:=HM2.out.trans hmod
   have c0:=cell_of (i:=0) (H.out.stay hmw).obj rfl
   have HR:=zh (HLOG.out ks _ wr HKS.out hkb hmw (hown.lower (by rw [HBASE.out];exact HM2.out.size)))
   clear hown hmod hmw
   go_wp2_with fail
   with_reducible refine HR.out.mono ?_
   clear HR
   rintro e w3 ⟨rfl,hp⟩
   have HP:=zh hp
   clear hp
   go_wp2_with fail
   with_reducible refine (noted_any hE).mono ?_
   rintro e w4 ⟨rfl,h2⟩
   subst h2
   go_wp2_with fail
   exact fin hR ⟨rfl,HP.out⟩
structure Sto (w0 w:World) (N sz b s:Nat) (O:Nat->Prop) (n:Nat) (M:Mt) (cnt:Nat):Prop where
 has:∃ p m sb mb ub d L rs,LogHas w p b sb mb ub d L/\d.n=N/\d.sz=sz/\StoAt w s p m n M false/\L.all=prB rs/\Mt.changes (fun _=>none) rs=M/\ShortP rs/\L.turn<=cnt ∧
  (∀ q,LOwn p b sb mb ub q\/q=s\/q=m->O q)/\¬ LOwn p b sb mb ub s/\¬ LOwn p b sb mb ub m
 low:∀ q,O q->w0.heap.size<=q
 high:∀ q,O q->q < w.heap.size
 mod:Mod No w0 w
theorem Sto.stay {w0 w w':World} {N sz b s n cnt:Nat} {O:Nat->Prop} {M:Mt} (h:Sto w0 w N sz b s O n M cnt) (hm:Mod No w w'):Sto w0 w' N sz b s O n M cnt:=by
 obtain ⟨p,m,sb,mb,ub,d,L,rs,h1,h2,h3,h4,h5⟩:=h.has
 exact ⟨⟨p,m,sb,mb,ub,d,L,rs,h1.stay hm,h2,h3,h4.stay hm,h5⟩,h.low,fun q hq=>Nat.lt_of_lt_of_le (h.high q hq) hm.size,h.mod.trans hm⟩
def MidP (l:List Pr):Prop:=∀ p ∈ l,p.key.length<=500000/\p.value.length<=500000
theorem MidP.short {l:List Pr} (h:MidP l):ShortP l:=fun p hp=>by have:=h p hp;omega
theorem pairB_mid {p:Pr} (h:p.key.length<=500000/\p.value.length<=500000):(pairB p).length<=1000021:=by
 have:=pairB_len p (by omega) (by omega);omega
theorem prB_short {l:List Pr} (h:MidP l):(prB l).any isLong=false:=by
 rw [List.any_eq_false]
 intro r hr
 obtain ⟨p,hp,rfl⟩:=List.mem_map.1 hr
 have:=pairB_mid (h p hp)
 unfold isLong
 simp;omega
theorem Prs.avoid {w:World} {X:Nat->Prop} {a:Option Addr} {l:List Pr} (h:Prs w X a l):Prs w (fun q=>X q\/w.heap.size<=q) a l :=
 ⟨fun i hi=>by
  obtain ⟨b,o,h1,hx,h2,h3,h4⟩:=h.at_ i hi
  have:=lt_of_cell h2
  dsimp only at this
  exact ⟨b,o,h1,fun e=>e.elim hx (fun e=>by omega),h2,h3,h4⟩⟩
theorem Prs.weak {w:World} {X Y:Nat->Prop} {a:Option Addr} {l:List Pr} (h:Prs w X a l) (hy:∀ q,Y q->X q):Prs w Y a l :=
 ⟨fun i hi=>by
  obtain ⟨b,o,h1,hx,h⟩:=h.at_ i hi
  exact ⟨b,o,h1,fun e=>hx (hy _ e),h⟩⟩
set_option maxRecDepth 100000 in
set_option maxHeartbeats 4000000 in
theorem sapply_part {w:World} {s p m n:Nat} {M:Mt} {a:Option Addr} {c:Nat} {l:List Pr} {Post:Ending->World->Prop} (h:StoAt w s p m n M false) (hp:Prs w No a l) (hl:MidP l) (hn:l.length<=100000) (hnn:n<=100000)
  (hlog:∀ v W m',Mod No w W->OwnRecs W w.heap.size v (prB l)->SMp W m' (n+l.length) (M.changes l)->w.heap.size<=m'->Calls prog 33 #[.pointer (some ⟨p,0,none⟩),v] W fun e w' =>
   (e=.returned (.int .i64 0)/\StoAt w' s p m n M false/\(∀ w'',w''=w'.setCell ⟨s,1,none⟩ (.map (some m'))->Post (.returned (.int .i64 0)) w'')) ∨
   (e=.returned (.int .i64 40)/\StoAt w' s p m n M false/\SMp w' m' (n+l.length) (M.changes l)/\Calls prog 34 #[.pointer (some ⟨s,0,none⟩),.map (some m')] w' fun e w'' =>
    e=.returned (.int .i64 0)/\StoAt w'' s p m n M false/\(∀ w3,w3=w''.setCell ⟨s,1,none⟩ (.map (some m'))->Post (.returned (.int .i64 0)) w3))) :
  Calls prog 11 #[.pointer (some ⟨s,0,none⟩),.slice a l.length c] w Post:=by
 obtain ⟨i0,hi0,hz0,hz1,hz2⟩:=info_parts info_bs
 refine calls_hide fun R hR=>?_
 have H:=zh h
 have HP:=zh hp
 have HL:=zh hl
 have HLOG:=zh hlog
 have c2:=cell_of (i:=2) h.obj rfl
 obtain ⟨base,hbase⟩:∃ base,base=w.heap.size:=⟨_,rfl⟩
 have HBASE:=zh hbase
 clear h hp hl hlog hbase
 go_enter func11,ntmps11
 go_wp2_with fail
 go_loopw [5,16] (fun u q wr=>∃ i:Nat,i<=l.length/\q=.int .i64 i/\OwnRecs wr base u ((prB l).take i)/\Mod No w wr) (fun _ q _=>l.length - (intOf q).toNat)
 case atStart=>exact ⟨0,by omega,rfl,OwnRecs.nil _ _,Mod.refl _ _⟩
 case round =>
  obtain ⟨i,hi,rfl,hown,hmod⟩:=hrel
  have hi0':(0:Int)<=(i:Int):=Int.natCast_nonneg _
  by_cases hlt:i < l.length
  ·have hi1:(i:Int) < (l.length:Int):=by omega
   obtain ⟨g,o,rfl,-,c0,c1,c2⟩:=HP.out.at_ i hlt
   have c0:=hmod.cell c0 (fun f=>f)
   have c1:=hmod.cell c1 (fun f=>f)
   have c2:=hmod.cell c2 (fun f=>f)
   have hmid:=HL.out l[i] (List.getElem_mem hlt)
   have HSUC:=zh (show (prB l).take (i+1)=(prB l).take i++[pairB l[i]] by
    rw [List.take_succ_eq_append_getElem (by rw [prB_len];exact hlt)]
    congr 2
    simp [prB])
   have HDL:=zh (show ((prB l).take i).length<=1000000 by rw [List.length_take];omega)
   generalize l[i]=pr at *
   generalize (prB l).take i=done at *
   obtain ⟨k,x,gn⟩:=pr
   dsimp only at c0 c1 c2 hmid
   have hksz:=str_size_list k
   have hxsz:=str_size_list x
   have hk5:(k.length:Int)<=500000:=by omega
   have hx5:(x.length:Int)<=500000:=by omega
   obtain ⟨w4,hw4⟩:∃ w4,w4=wr.alloc (.cells #[.string ⟨k.toArray⟩,.string ⟨x.toArray⟩,.bool gn] 33):=⟨_,rfl⟩
   have m4:Mod No wr w4:=by rw [hw4];exact (Mod.refl No wr).alloc _
   have h4:w4.heap[wr.heap.size]? = some (.cells #[.string ⟨k.toArray⟩,.string ⟨x.toArray⟩,.bool gn] 33 (0,0)):=by rw [hw4];exact heap_alloc_new wr _
   have p0:=cell_of (i:=0) h4 rfl
   have p1:=cell_of (i:=1) h4 rfl
   have p2:=cell_of (i:=2) h4 rfl
   have HB:=zh (show Calls prog 30 #[.agg #[.string ⟨k.toArray⟩,.string ⟨x.toArray⟩,.bool gn]] w4 fun e w'=>∃ v,e=.returned v/\w'.ownsRow w4.heap.size 5 1 v (pairB ⟨k,x,gn⟩).length (bv (pairB ⟨k,x,gn⟩))/\Mod No w4 w' from pbytes_any ⟨k,x,gn⟩ w4 (by show k.length<=_;omega) (by show x.length<=_;omega))
   have HW4:=zh hw4
   have HOWN:=zh (hown.stay m4)
   have HMOD:=zh (hmod.trans m4)
   clear hown hmod m4 h4 hw4 hmid
   generalize pairB ⟨k,x,gn⟩=rec_ at *
   generalize hK:(⟨k.toArray⟩:ByteArray)=K at *
   generalize hV:(⟨x.toArray⟩:ByteArray)=V at *
   have hKI:(K.size:Int)<=500000:=by omega
   have hVI:(V.size:Int)<=500000:=by omega
   clear hK hV hksz hxsz hk5 hx5
   cases gn with
   | true =>
    go_upto_region 7 with fail
    rw [<- HW4.out]
    go_wp2_with fail
    with_reducible refine HB.out.mono ?_
    clear HB
    rintro e w5 ⟨v5,rfl,ho5,hm5⟩
    obtain ⟨ua,uc,rfl⟩:=own_len ho5
    have HREC:=zh (HOWN.out.stay hm5)
    have HU0:=zh (Sl.of_own (X:=fun q=>q < base) ho5 (fun q h1 h2=>by have:=HMOD.out.size;have:=HBASE.out;omega))
    have HMW:=zh (HMOD.out.trans hm5)
    generalize hul:rec_.length=ul at *
    have HUL:=zh hul
    clear ho5 hm5
    have hm5:Mod No w5 (w5.alloc (.cells #[.slice ua ul uc] 41)):=(Mod.refl No w5).alloc _
    obtain ⟨vs,e1,e2,e3⟩:=HREC.out.row
    have HU:=zh (HU0.out.keep hm5 (fun q _ _ (f:No q)=>f.elim))
    have HO5:=zh (own_keepM e2 hm5 (fun _ _ f=>f))
    have HE1:=zh e1
    have HE3:=zh (show ∀ (y:Nat) (u':Value) (r:List UInt8),vs[y]? = some u'->(done)[y]? = some r->Sl (w5.alloc (.cells #[.slice ua ul uc] 41)) (fun q=>q < base) 5 u' r.length (bv r) from fun y u' r h1 h2=>(e3 y u' r h1 h2).keep hm5 (fun q _ _ (f:No q)=>f.elim))
    have HBX:=zh (show Sl (w5.alloc (.cells #[.slice ua ul uc] 41)) No 41 (.slice (some ⟨w5.heap.size,0,none⟩) 1 1) 1 [.slice ua ul uc] from
     .inr ⟨w5.heap.size,0,1,#[.slice ua ul uc],(0,0),rfl,Nat.le_refl _,by unfold maxLen;omega,fun f=>f,heap_alloc_new w5 _,Nat.le_refl _,fun i hi=>by simp⟩)
    have HM5:=zh (HMW.out.trans hm5)
    have hb5:base<=(w5.alloc (.cells #[.slice ua ul uc] 41)).heap.size:=by have:=HM5.out.size;have:=HBASE.out;omega
    have h1c:∀ y ∈ [Value.slice ua ul uc],y.oneCell'=true:=by
     intro y hy
     simp at hy
     subst hy
     rfl
    have H1C:=zh h1c
    have hdl:=HDL.out
    clear e1 e2 e3 h1c hm5
    go_wp2_with (at_builtin;refine app_sl _ rfl _ _ 69 rfl base 41 i0 (.slice none 0 0) 1 24 underlying69 hi0 hz0 hz1 hz2 rfl (by decide) _ _ _ rfl HO5.out No 41 _ _ _ rfl HBX.out rfl H1C.out ?_ ?_ hb5 ?_)
    ·unfold maxLen;omega
    ·omega
    intro v' w6 hown6 hg6 _
    have HR6:=zh (OwnRecs.push (r:=rec_) HE1.out HO5.out HE3.out (by rw [HUL.out];exact HU.out) hg6 hown6)
    have HM6:=zh (HM5.out.then (Mod.of_grown (S:=fun q=>base<=q) hg6 (fun q e _=>(HO5.out.lt _ e).1)) (fun q hq e=>by have:=HBASE.out;omega))
    clear hown6 hg6 HO5 HE1 HE3 HU HBX HM5 H1C hdl
    go_wp2_with fail
    exact ⟨⟨i+1,by omega,by go_num,by rw [HSUC.out];exact HR6.out,HM6.out⟩,by go_light;simp only [intOf];omega⟩
   | false =>
    go_upto_region 7 with fail
    rw [<- HW4.out]
    go_wp2_with fail
    with_reducible refine HB.out.mono ?_
    clear HB
    rintro e w5 ⟨v5,rfl,ho5,hm5⟩
    obtain ⟨ua,uc,rfl⟩:=own_len ho5
    have HREC:=zh (HOWN.out.stay hm5)
    have HU0:=zh (Sl.of_own (X:=fun q=>q < base) ho5 (fun q h1 h2=>by have:=HMOD.out.size;have:=HBASE.out;omega))
    have HMW:=zh (HMOD.out.trans hm5)
    generalize hul:rec_.length=ul at *
    have HUL:=zh hul
    clear ho5 hm5
    have hm5:Mod No w5 (w5.alloc (.cells #[.slice ua ul uc] 41)):=(Mod.refl No w5).alloc _
    obtain ⟨vs,e1,e2,e3⟩:=HREC.out.row
    have HU:=zh (HU0.out.keep hm5 (fun q _ _ (f:No q)=>f.elim))
    have HO5:=zh (own_keepM e2 hm5 (fun _ _ f=>f))
    have HE1:=zh e1
    have HE3:=zh (show ∀ (y:Nat) (u':Value) (r:List UInt8),vs[y]? = some u'->(done)[y]? = some r->Sl (w5.alloc (.cells #[.slice ua ul uc] 41)) (fun q=>q < base) 5 u' r.length (bv r) from fun y u' r h1 h2=>(e3 y u' r h1 h2).keep hm5 (fun q _ _ (f:No q)=>f.elim))
    have HBX:=zh (show Sl (w5.alloc (.cells #[.slice ua ul uc] 41)) No 41 (.slice (some ⟨w5.heap.size,0,none⟩) 1 1) 1 [.slice ua ul uc] from
     .inr ⟨w5.heap.size,0,1,#[.slice ua ul uc],(0,0),rfl,Nat.le_refl _,by unfold maxLen;omega,fun f=>f,heap_alloc_new w5 _,Nat.le_refl _,fun i hi=>by simp⟩)
    have HM5:=zh (HMW.out.trans hm5)
    have hb5:base<=(w5.alloc (.cells #[.slice ua ul uc] 41)).heap.size:=by have:=HM5.out.size;have:=HBASE.out;omega
    have h1c:∀ y ∈ [Value.slice ua ul uc],y.oneCell'=true:=by
     intro y hy
     simp at hy
     subst hy
     rfl
    have H1C:=zh h1c
    have hdl:=HDL.out
    clear e1 e2 e3 h1c hm5
    go_wp2_with (at_builtin;refine app_sl _ rfl _ _ 69 rfl base 41 i0 (.slice none 0 0) 1 24 underlying69 hi0 hz0 hz1 hz2 rfl (by decide) _ _ _ rfl HO5.out No 41 _ _ _ rfl HBX.out rfl H1C.out ?_ ?_ hb5 ?_)
    ·unfold maxLen;omega
    ·omega
    intro v' w6 hown6 hg6 _
    have HR6:=zh (OwnRecs.push (r:=rec_) HE1.out HO5.out HE3.out (by rw [HUL.out];exact HU.out) hg6 hown6)
    have HM6:=zh (HM5.out.then (Mod.of_grown (S:=fun q=>base<=q) hg6 (fun q e _=>(HO5.out.lt _ e).1)) (fun q hq e=>by have:=HBASE.out;omega))
    clear hown6 hg6 HO5 HE1 HE3 HU HBX HM5 H1C hdl
    go_wp2_with fail
    exact ⟨⟨i+1,by omega,by go_num,by rw [HSUC.out];exact HR6.out,HM6.out⟩,by go_light;simp only [intOf];omega⟩
  ·have hil:i=l.length:=by omega
   subst hil
   rw [List.take_of_length_le (by rw [prB_len];exact Nat.le_refl _)] at hown
   have hst:=H.out.stay hmod
   have c1:=cell_of (i:=1) hst.obj rfl
   have HC:=zh (clone_map hst.map)
   have HOWN:=zh hown
   have HMOD:=zh hmod
   have HST:=zh hst
   clear hown hmod hst
   go_wp2_with fail
   with_reducible refine HC.out.mono ?_
   clear HC
   rintro e w3 ⟨rfl,hmp,hm3⟩
   have hp3:=((HP.out.avoid.keep (HMOD.out.trans hm3) (fun _ f=>f.elim)).weak (Y:=fun k=>k=wr.heap.size) (fun q e=>.inr (by subst e;exact HMOD.out.size)))
   have HCH:=zh (change_any (c:=c) hmp hp3 HL.out.short (by omega))
   have HM3:=zh hm3
   clear hmp hm3 hp3
   go_wp2_with fail
   with_reducible refine HCH.out.mono ?_
   clear HCH
   rintro e w4 ⟨rfl,hmp,hm4⟩
   have hm34:=HM3.out.then hm4 (fun q hq e=>by omega)
   have hst4:=HST.out.stay hm34
   have c0:=cell_of (i:=0) hst4.obj rfl
   have HREC:=zh (HOWN.out.stay hm34)
   have HLG:=zh (HLOG.out _ w4 wr.heap.size (HMOD.out.trans hm34) (by rw [<- HBASE.out];exact HREC.out) hmp HMOD.out.size)
   obtain ⟨ua,uc,hu⟩:=(HREC.out.recs (X:=No) (fun _ _ f=>f)).len
   subst hu
   clear hmp hm4 hm34 hst4 HST
   generalize (prB l).length=rl at *
   go_wp2_with fail
   with_reducible refine HLG.out.mono ?_
   clear HLG
   rintro e w5 (⟨rfl,hst5,hpost⟩ | ⟨rfl,hst5,hmp5,hreset⟩)
   ·have cs1:=cell_of (i:=1) hst5.obj rfl
    have fs1:=frozen_of 1 hst5.obj
    have HPO:=zh hpost
    clear hst5 hpost
    go_wp2_with fail
    with_reducible refine (noted_any (by decide)).mono ?_
    rintro e w6 ⟨rfl,h2⟩
    subst h2
    go_wp2_with fail
    exact fin hR (HPO.out _ rfl)
   ·have HRS:=zh hreset
    clear hst5 hmp5 hreset
    go_wp2_with fail
    with_reducible refine (noted_any (by decide)).mono ?_
    rintro e w6 ⟨rfl,h2⟩
    subst h2
    go_wp2_with fail
    with_reducible refine HRS.out.mono ?_
    clear HRS
    rintro e w7 ⟨rfl,hst7,hpost⟩
    have cs1:=cell_of (i:=1) hst7.obj rfl
    have fs1:=frozen_of 1 hst7.obj
    have HPO:=zh hpost
    clear hst7 hpost
    go_wp2_with fail
    exact fin hR (HPO.out _ rfl)
theorem SMp.stay {w w':World} {b n:Nat} {M:Mt} (h:SMp w b n M) (hm:Mod No w w'):SMp w' b n M:=h.keep hm (fun f=>f)
theorem LogHas.keepS {S:Nat->Prop} {w w':World} {p b sb mb ub:Nat} {d:Dk} {L:Lg} (h:LogHas w p b sb mb ub d L) (hm:Mod S w w') (hn:∀ q,LOwn p b sb mb ub q->¬ S q) (hs:∀ q cur fz,S q->w.heap[q]? ≠ some (.cells cur 5 fz)):LogHas w' p b sb mb ub d L :=
 ⟨h.disk.keep hm (hn _ (.inl (.inl rfl))) (hn _ (.inl (.inr (.inl rfl)))) (hn _ (.inl (.inr (.inr rfl)))) (fun q e=>.inr fun cur fz=>hs q cur fz e),
  ⟨hm.keep h.at_.obj (hn _ (.inr (.inr rfl))),h.at_.undone.keep hm (hn _ (.inr (.inl rfl)))⟩,h.ne,h.well,h.n,h.sz,h.ok⟩
def MidM (M:Mt):Prop:=∀ k v,M k=some v->k.length<=500000/\v.length<=500000
theorem MidM.short {M:Mt} (h:MidM M):ShortM M:=fun k v e=>by have:=h k v e;omega
theorem MidM.recs {M:Mt} (h:MidM M) {ks:List (List UInt8)} (hk:KeysOfM M ks):MidP (recsOf M ks):=fun p hp=>by
 obtain ⟨k,hkm,rfl⟩:=List.mem_map.1 hp
 obtain ⟨v,hv⟩:=Option.isSome_iff_exists.1 ((hk.mem k).1 hkm)
 have:=h k v hv
 dsimp only
 rw [hv]
 exact this
def Fits (N sz:Nat) (M:Mt):Prop:=∀ ks,KeysOfM M ks->32+(bodyB (prB (recsOf M ks))).length<=(N / 2)*(sz - 16)
theorem wrE_mid {H m at_:Nat} {l:List Pr} (h:MidP l):(wrE H m at_ (prB l)=0/\32+(bodyB (prB l)).length<=(H - at_)*m)\/(wrE H m at_ (prB l)=40/\(H - at_)*m < 32+(bodyB (prB l)).length):=by
 unfold wrE
 rw [if_neg (by rw [prB_short h];decide)]
 by_cases h:(H - at_)*m < 32+(bodyB (prB l)).length
 ·rw [if_pos h];exact .inr ⟨rfl,h⟩
 ·rw [if_neg h];exact .inl ⟨rfl,by omega⟩
theorem Sto.turned {w0 w w' w'':World} {N sz b s n n' cnt m':Nat} {O:Nat->Prop} {M M':Mt} {p m sb mb ub:Nat} {d:Dk} {L:Lg} {rs:List Pr} (h1:LogHas w' p b sb mb ub d L) (h2:d.n=N) (h3:d.sz=sz) (h4:StoAt w' s p m n M false) (h5:L.all=prB rs)
  (h6:Mt.changes (fun _=>none) rs=M') (hsh:ShortP rs) (h7:L.turn<=cnt) (h8:∀ q,LOwn p b sb mb ub q\/q=s\/q=m->O q) (h9:¬ LOwn p b sb mb ub s) (hm':SMp w' m' n' M') (hlow:∀ q,O q->w0.heap.size<=q) (hhigh:∀ q,O q->q < w.heap.size) (hmod:Mod No w0 w') (hsz:w.heap.size<=m')
  (_:w.heap.size<=w'.heap.size) (h0:w0.heap.size<=w.heap.size) (hw:w''=w'.setCell ⟨s,1,none⟩ (.map (some m'))):Sto w0 w'' N sz b s (fun q=>O q\/q=m') n' M' cnt/\Mod (fun q=>q=s) w' w'':=by
 have hms:Mod (fun q=>q=s) w' w'':=by rw [hw];exact (Mod.refl (fun q=>q=s) w').setCell (fun _=>rfl) _
 have hsm:m' ≠ s:=fun e=>hm'.not_cells _ _ _ (by rw [e];exact h4.obj)
 have hsO:O s:=h8 s (.inr (.inl rfl))
 have hLm:¬ LOwn p b sb mb ub m':=fun e=>by have:=hhigh m' (h8 m' (.inl e));omega
 refine ⟨⟨⟨p,m',sb,mb,ub,d,L,rs,h1.keepS hms (fun q e f=>by subst f;exact h9 e) (fun q cur fz e hh=>by subst e;rw [h4.obj] at hh;cases hh),h2,h3,⟨by rw [hw,heap_setCell h4.obj];rfl,hm'.keep hms hsm⟩,h5,h6,hsh,h7,fun q e=>?_,h9,hLm⟩,fun q e=>?_,fun q e=>?_,?_⟩,hms⟩
 ·rcases e with e | e | e
  ·exact .inl (h8 q (.inl e))
  ·exact .inl (h8 q (.inr (.inl e)))
  ·exact .inr e
 ·rcases e with e | e
  ·exact hlow q e
  ·omega
 ·have hz:=hms.size
  rcases e with e | e
  ·have:=hhigh q e;omega
  ·have:=hm'.lt;omega
 ·exact hmod.then hms fun i hi e=>by have:=hlow i (by rw [e];exact hsO);omega
theorem Sto.apply {w0 w:World} {N sz b s n cnt:Nat} {O:Nat->Prop} {M:Mt} {a:Option Addr} {c:Nat} {l:List Pr} (h:Sto w0 w N sz b s O n M cnt) (hp:Prs w No a l) (hl:MidP l) (hM:MidM (M.changes l)) (hfit:Fits N sz (M.changes l)) (hln:l.length<=10000) (hnn:n+l.length<=100000) (hcnt:cnt<=1000000000) :
  Calls prog 11 #[.pointer (some ⟨s,0,none⟩),.slice a l.length c] w fun e w'=>e=.returned (.int .i64 0)/\∃ O',Sto w0 w' N sz b s O' (n+l.length) (M.changes l) (cnt+1)/\(∀ q,q < w.heap.size->O' q->O q)/\Mod O w w':=by
 obtain ⟨p,m,sb,mb,ub,d,L,rs,h1,h2,h3,h4,h5,h6,hsh,h7,h8,h9,h10⟩:=h.has
 have h0:=h.mod.size
 have hLs:∀ q,LOwn p b sb mb ub q->q ≠ s:=fun q e f=>by subst f;exact h9 e
 have hLm:∀ q,LOwn p b sb mb ub q->q ≠ m:=fun q e f=>by subst f;exact h10 e
 refine sapply_part h4 hp hl (by omega) (by omega) fun v W m' hmW hrec hmp hm'=>?_
 have hrl:(prB l).length<=1000000000:=by rw [prB_len];omega
 refine (commit_any (h1.stay hmW) (hrec.recs (X:=No) (fun _ _ f=>f)) hrl).mono ?_
 rw [h2,h3]
 have hmO:∀ {w'},Mod (fun q=>Own3 b sb mb q\/q=ub\/q=p) W w'->Mod (LOwn p b sb mb ub) W w':=fun h=>h
 have hm'O:∀ q,LOwn p b sb mb ub q->q ≠ m':=fun q e f=>by have:=h.high q (h8 q (.inl e));omega
 rintro e w' ⟨rfl,⟨he,hm⟩ | ⟨he,hm,d',e1,e2,hL⟩⟩
 ·right
  have he40:wrE (N / 2) (sz - 16) L.at_ (prB l)=40:=by
   rcases wrE_mid (H:=N / 2) (m:=sz - 16) (at_:=L.at_) hl with ⟨q,_⟩ | ⟨q,_⟩
   ·exact absurd q he
   ·exact q
  have hmw':=hmW.trans hm
  have hst':=h4.stay hmw'
  refine ⟨by rw [he40],hst',hmp.stay hm,?_⟩
  refine sreset_part (Post:=fun w''=>StoAt w'' s p m n M false/\∀ w3,w3=w''.setCell ⟨s,1,none⟩ (.map (some m'))->(Ending.returned (.int .i64 0)=.returned (.int .i64 0)/\∃ O',Sto w0 w3 N sz b s O' (n+l.length) (M.changes l) (cnt+1)/\(∀ q,q < w.heap.size->O' q->O q)/\Mod O w w3)) hst' m' (hmp.stay hm) (by omega) hM.short (by decide) fun ks v2 W2 hks hkl hmW2 hrec2=>?_
  have hmid2:=hM.recs hks
  have hE2:wrE (N / 2) (sz - 16) 0 (prB (recsOf (M.changes l) ks))=0:=by
   rcases wrE_mid (H:=N / 2) (m:=sz - 16) (at_:=0) hmid2 with ⟨q,_⟩ | ⟨_,q⟩
   ·exact q
   ·have:=hfit ks hks
    rw [Nat.sub_zero] at q;omega
  have hkl:(prB (recsOf (M.changes l) ks)).length<=1000000000:=by rw [prB_len];unfold recsOf;rw [List.length_map];omega
  refine (reset_any ((h1.stay hmw').stay hmW2) (hrec2.recs (X:=No) (fun _ _ f=>f)) hkl (by omega)).mono ?_
  rw [h2,h3,hE2]
  rintro e w'' ⟨rfl,⟨he,_⟩ | ⟨_,hm2,d',e1,e2,hL⟩⟩
  ·exact absurd rfl he
  ·have hmL:Mod (LOwn p b sb mb ub) W2 w'':=hm2
   have hmW2':=hmw'.trans hmW2
   have hst2:StoAt w'' s p m n M false:=(hst'.stay hmW2).keep hmL (fun e=>hLs _ e rfl) (fun e=>hLm _ e rfl)
   have hmw:Mod O w w'':=(hmW2'.weaken fun _ _ f=>f.elim).trans (hmL.weaken fun q _ e=>h8 q (.inl e))
   have hsz2:=hmw.size
   refine ⟨rfl,hst2,fun w3 hw3=>⟨rfl,?_⟩⟩
   obtain ⟨hsto,hms⟩:=Sto.turned (w0:=w0) (w:=w) (cnt:=cnt+1) hL e1 e2 hst2 rfl (recsOf_replay hks) hmid2.short (by show L.turn+1<=cnt+1;omega) h8 h9 (((hmp.stay hm).stay hmW2).keep hmL (fun e=>hm'O _ e rfl)) h.low h.high (h.mod.then hmw (fun i hi e=>by have:=h.low i e;omega)) hm' hsz2 h0 hw3
   exact ⟨_,hsto,fun q hq e=>e.elim id fun e=>by omega,hmw.trans (hms.weaken fun q _ e=>by rw [e];exact h8 s (.inr (.inl rfl)))⟩
 ·left
  have hmL:Mod (LOwn p b sb mb ub) W w':=hm
  have hst':StoAt w' s p m n M false:=(h4.stay hmW).keep hmL (fun e=>hLs _ e rfl) (fun e=>hLm _ e rfl)
  have hmw:Mod O w w':=(hmW.weaken fun _ _ f=>f.elim).trans (hmL.weaken fun q _ e=>h8 q (.inl e))
  have hsz2:=hmw.size
  refine ⟨by rw [he],hst',fun w3 hw3=>⟨rfl,?_⟩⟩
  obtain ⟨hsto,hms⟩:=Sto.turned (w0:=w0) (w:=w) (cnt:=cnt+1) (rs:=rs++l) (M':=M.changes l) hL e1 e2 hst' (by show L.all++prB l=_;rw [h5];simp [prB]) (by rw [changes_append,h6]) (fun p hp=>(List.mem_append.1 hp).elim (hsh p) (hl.short p)) (by show L.turn<=cnt+1;omega) h8 h9 (hmp.keep hmL (fun e=>hm'O _ e rfl)) h.low h.high (h.mod.then hmw (fun i hi e=>by have:=h.low i e;omega)) hm' hsz2 h0 hw3
  exact ⟨_,hsto,fun q hq e=>e.elim id fun e=>by omega,hmw.trans (hms.weaken fun q _ e=>by rw [e];exact h8 s (.inr (.inl rfl)))⟩
theorem Sto.get {w0 w:World} {N sz b s n cnt:Nat} {O:Nat->Prop} {M:Mt} (h:Sto w0 w N sz b s O n M cnt) (k:List UInt8) (hk:k.length<=1000000000) :
  Calls prog 21 #[.pointer (some ⟨s,0,none⟩),.string ⟨k.toArray⟩] w fun e w'=>e=.returned (getV M k)/\w'=w:=by
 obtain ⟨p,m,sb,mb,ub,d,L,rs,h1,h2,h3,h4,h5⟩:=h.has
 exact sget_any h4 k hk
theorem change_norm (M:Mt) (p:Pr):M.change p.norm=M.change p:=by
 unfold Mt.change Pr.norm
 cases hg:p.gone <;> simp
theorem prs_one {w:World} {X:Nat->Prop} {g:Nat} {p:Pr} (hg:w.heap[g]? = some (.cells #[.string ⟨p.key.toArray⟩,.string ⟨p.value.toArray⟩,.bool p.gone] 33 (0,0))) (hX:¬ X g):Prs w X (some ⟨g,0,none⟩) [p] :=
 ⟨fun i hi=>by
  obtain rfl:i=0:=by simpa using hi
  exact ⟨g,0,rfl,hX,cell_of (i:=0) hg rfl,cell_of (i:=1) hg rfl,cell_of (i:=2) hg rfl⟩⟩
structure SoInv (w wr:World) (s p m i:Nat) (rs:List Pr):Prop where
 sto:StoAt wr s p m i (Mt.changes (fun _=>none) (rs.take i)) false
 mod:Mod (fun q=>q=m) w wr
set_option maxRecDepth 100000 in
set_option maxHeartbeats 4000000 in
theorem sopen_any {w:World} {b sb mb:Nat} {d:Dk} {L:Lg} {rs:List Pr} (hn:16<=d.n) (hz:128<=d.sz) (hw:Well d) (h:DkAt w No b sb mb d) (ok:LogOK d.last (d.n / 2) (d.sz - 16) L) (hrs:L.all=prB rs) (hsh:ShortP rs) (hl:rs.length<=100000000) :
  Calls prog 8 #[.pointer (some ⟨b,0,none⟩)] w fun e w'=>∃ s p m ub,e=.returned (.tuple #[.pointer (some ⟨s,0,none⟩),.int .i64 0])/\LogHas w' p b sb mb ub d L/\StoAt w' s p m rs.length (Mt.changes (fun _=>none) rs) false/\Mod No w w'/\w.heap.size<=s/\w.heap.size<=p/\w.heap.size<=ub/\w.heap.size<=m/\p < m/\ub < m/\p < s/\ub < s:=by
 have hmm:=@run_makeMap prog
 refine calls_hide fun R hR=>?_
 have HOP:=zh (open_has hn hz hw h ok)
 have HRS:=zh hrs
 have HSH:=zh hsh
 clear h hw ok hrs hsh
 go_enter func8,ntmps8
 go_wp2_with fail
 with_reducible refine HOP.out.mono ?_
 clear HOP
 rintro e w1 ⟨p,ub,v,rfl,hL1,hr1,hm1,hp1,hu1⟩
 rw [HRS.out] at hr1
 have hr1:=hr1.recs (X:=No) (fun _ _ f=>f)
 obtain ⟨va,vc,rfl⟩:=hr1.len
 have hpl:=hL1.lt (.inr (.inr rfl))
 have hul:=hL1.lt (.inr (.inl rfl))
 have HX1:=zh (And.intro hL1 (And.intro hm1 (And.intro hp1 (And.intro hu1 (And.intro hpl hul)))))
 have HR1:=zh hr1
 clear hL1 hr1 hm1 hp1 hu1 hpl hul
 obtain ⟨m,hm⟩:∃ m,m=w1.heap.size:=⟨_,rfl⟩
 obtain ⟨w2,hw2⟩:∃ w2,w2=(w1.alloc (.map #[] 0)).alloc (.cells #[.pointer (some ⟨p,0,none⟩),.map (some m),.bool false] 74):=⟨_,rfl⟩
 have hmp:SMp (w1.alloc (.map #[] 0)) m 0 (fun _=>none):=by rw [hm];exact SMp.made w1
 have hm12:Mod No w1 w2:=by rw [hw2];exact ((Mod.refl No w1).alloc _).alloc _
 have hsto:StoAt w2 (m+1) p m 0 (fun _=>none) false:=⟨by rw [hw2];exact heap_at_new _ _ (by rw [hm];simp),by rw [hw2];exact hmp.stay ((Mod.refl No _).alloc _)⟩
 have HS2:=zh hsto
 have HM12:=zh hm12
 have HPL:=zh (prB_len rs)
 have HW2:=zh hw2
 have HMS:=zh hm
 clear hmp hm12 hsto hw2 hm
 rw [HPL.out]
 go_wp2_with fail
 rw [<- HMS.out,<- HW2.out]
 obtain ⟨s,hs⟩:∃ s,s=m+1:=⟨_,rfl⟩
 rw [<- hs] at HS2 ⊢
 have HSS:=zh hs
 clear hs
 go_loopw [27] (fun q wr=>∃ i:Nat,i<=rs.length/\q=.int .i64 i/\SoInv w2 wr s p m i rs) (fun q _=>rs.length - (intOf q).toNat)
 case atStart=>exact ⟨0,by omega,rfl,HS2.out,Mod.refl _ _⟩
 case round =>
  obtain ⟨i,hi,rfl,hinv⟩:=hrel
  have hi0':(0:Int)<=(i:Int):=Int.natCast_nonneg _
  have hb2:w1.heap.size<=w2.heap.size:=HM12.out.size
  have hm12:Mod No w1 wr:=HM12.out.then hinv.mod (fun q hq e=>by have:=HMS.out;omega)
  by_cases hlt:i < rs.length
  ·have hi1:(i:Int) < (rs.length:Int):=by omega
   obtain ⟨g,o,c',u,hv,hu,hsl⟩:=(HR1.out.stay hm12).at_ (k:=i) (by rw [prB_len];exact hlt)
   rw [HPL.out] at hv
   cases hv
   have hsp:=HSH.out rs[i] (List.getElem_mem hlt)
   have hgi:(prB rs)[i]'(by rw [prB_len];exact hlt)=pairB rs[i]:=by simp [prB]
   rw [hgi] at hsl
   have HPA:=zh (pair_any rs[i] hsp.1 hsp.2 hsl)
   have HCH:=zh (show Mt.changes (fun _=>none) (rs.take (i+1))=(Mt.changes (fun _=>none) (rs.take i)).changes [rs[i].norm] by
    rw [List.take_succ_eq_append_getElem hlt,changes_append]
    exact (change_norm _ _).symm)
   have hnsh:ShortP [rs[i].norm]:=fun p hp=>by
    obtain rfl:p=rs[i].norm:=by simpa using hp
    unfold Pr.norm
    dsimp only
    refine ⟨hsp.1,?_⟩
    split
    ·exact Nat.zero_le _
    ·exact hsp.2
   have HNS:=zh hnsh
   obtain ⟨ua,uc,rfl⟩:=hsl.len
   generalize (pairB rs[i]).length=ul at *
   generalize rs[i].norm=np at *
   clear hsl hsp hgi hnsh
   obtain ⟨k,x,G⟩:=np
   have HST:=zh hinv
   clear hinv
   go_wp2_with fail
   with_reducible refine HPA.out.mono ?_
   clear HPA
   rintro e w5 ⟨rfl,hm5⟩
   unfold Pr.agg
   dsimp only
   obtain ⟨K,hK⟩:∃ K:ByteArray,K=⟨k.toArray⟩:=⟨_,rfl⟩
   obtain ⟨V,hV⟩:∃ V:ByteArray,V=⟨x.toArray⟩:=⟨_,rfl⟩
   rw [<- hK,<- hV]
   obtain ⟨pb,hpb⟩:∃ pb,pb=w5.heap.size:=⟨_,rfl⟩
   obtain ⟨w6,hw6⟩:∃ w6,w6=w5.alloc (.cells #[.string K,.string V,.bool G] 33):=⟨_,rfl⟩
   have m6:Mod No w5 w6:=by rw [hw6];exact (Mod.refl No w5).alloc _
   have h6:w6.heap[pb]? = some (.cells #[.string K,.string V,.bool G] 33 (0,0)):=by rw [hw6,hpb];exact heap_alloc_new w5 _
   have hst6:=(HST.out.sto.stay hm5).stay m6
   have hm26:=(HST.out.mod.trans ((hm5.trans m6).weaken fun _ _ f=>f.elim))
   have hS0:w6.drew.cell? ⟨s,1,none⟩=some (.map (some m))/\w6.drew.cell? ⟨pb,0,none⟩=some (.string K)/\w6.drew.cell? ⟨pb,1,none⟩=some (.string V)/\w6.drew.cell? ⟨pb,2,none⟩=some (.bool G):=⟨cell_of (i:=1) hst6.obj rfl,cell_of (i:=0) h6 rfl,cell_of (i:=1) h6 rfl,cell_of (i:=2) h6 rfl⟩
   obtain ⟨g7,hg7⟩:∃ g7,g7=w6.heap.size:=⟨_,rfl⟩
   obtain ⟨w7,hw7⟩:∃ w7,w7=(w6.alloc (.cells #[.string K,.string V,.bool G] 33)).drew:=⟨_,rfl⟩
   have m7:Mod No w6 w7:=by rw [hw7];exact ((Mod.refl No w6).alloc _).drew
   have h7:w7.heap[g7]? = some (.cells #[.string ⟨k.toArray⟩,.string ⟨x.toArray⟩,.bool G] 33 (0,0)):=by rw [hw7,hg7,<- hK,<- hV];exact heap_alloc_new w6 _
   have hS1:w7.cell? ⟨s,1,none⟩=some (.map (some m))/\w7.cell? ⟨pb,0,none⟩=some (.string K)/\w7.cell? ⟨pb,1,none⟩=some (.string V)/\w7.cell? ⟨pb,2,none⟩=some (.bool G):=⟨m7.cell (cell_of (i:=1) hst6.obj rfl) (fun f=>f),m7.cell (cell_of (i:=0) h6 rfl) (fun f=>f),m7.cell (cell_of (i:=1) h6 rfl) (fun f=>f),m7.cell (cell_of (i:=2) h6 rfl) (fun f=>f)⟩
   have hst7:=hst6.stay m7
   have hmlt:=hst7.map.lt
   have hml6:=hst6.map.lt
   have hC:=change_any (c:=1) (l:=[⟨k,x,G⟩]) hst7.map (prs_one (p:=⟨k,x,G⟩) h7 (by omega)) HNS.out (by show i+1<=_;omega)
   have hC:Calls prog 24 #[.map (some m),.slice (some ⟨g7,0,none⟩) 1 1] w7 fun e w'=>e=.returned (.tuple #[])/\SMp w' m (i+1) ((Mt.changes (fun _=>none) (rs.take i)).changes [⟨k,x,G⟩])/\Mod (fun k=>k=m) w7 w':=hC
   have HC:=zh hC
   have HST7:=zh (And.intro hst7 (hm26.trans (m7.weaken fun _ _ f=>f.elim)))
   have HX7:=zh (And.intro hw6 (And.intro hpb (And.intro hg7 hw7)))
   have hpm:¬ pb=m:=by have:=(HST.out.sto.stay hm5).map.lt;omega
   have hsm:¬ s=m:=by have:=HSS.out;omega
   clear hm5 hpb hw6 m6 h6 hst6 hm26 hg7 hw7 m7 h7 hst7 hmlt hml6 hC hK hV
   go_upto_region 11 with fail
   rw [<- HX7.out.2.1,<- HX7.out.1]
   refine wp_region_T (fun w'=>w'.cell? ⟨s,1,none⟩=some (.map (some m))/\w'.cell? ⟨pb,0,none⟩=some (.string K)/\w'.cell? ⟨pb,1,none⟩=some (.string V)/\w'.cell? ⟨pb,2,none⟩=some (.bool G)) 99 (by kernel_rfl) ?_
   refine yT 0 (some 38) ?_ hS0 ?_ ?_
   rotate_left
   ·(intro w' hSw;go_simp;try with_reducible rfl)
   simp only [Act.put,yB,yC,yD]
   refine yT 1 (some 39) ?_ hS0 ?_ ?_
   rotate_left
   ·(intro w' hSw;go_simp;try with_reducible rfl)
   simp only [Act.put,yB,yC,yD]
   refine yT 2 (some 40) ?_ hS0 ?_ ?_
   rotate_left
   ·(intro w' hSw;go_simp;try with_reducible rfl)
   simp only [Act.put,yB,yC,yD]
   refine yT 3 (some 41) ?_ hS0 ?_ ?_
   rotate_left
   ·(intro w' hSw;go_simp;try with_reducible rfl)
   simp only [Act.put,yB,yC,yD]
   refine yT 4 (some 42) (.agg #[.string K,.string V,.bool G]) hS0 ?_ ?_
   ·(intro w' hSw;obtain ⟨s0,s1,s2,s3⟩:=hSw;go_simp)
   simp only [Act.put,yB,yC,yD]
   refine wpAnyT_one 5 rfl (by kernel_rfl) rfl ?_
   intro K_ hK
   go_simp
   rw [<- HX7.out.2.2.1,<- HX7.out.2.2.2]
   show K_ _ _
   refine hK.out _ _ (fun _=>hS1) ?_
   clear hK K_
   refine wpAnyT_one 6 rfl (by kernel_rfl) rfl ?_
   intro K_ hK
   go_simp
   (go_at_call 24;with_reducible refine HC.out.mono ?_;rintro e w8 ⟨rfl,hmp8,hm8⟩)
   have hS2:w8.cell? ⟨s,1,none⟩=some (.map (some m))/\w8.cell? ⟨pb,0,none⟩=some (.string K)/\w8.cell? ⟨pb,1,none⟩=some (.string V)/\w8.cell? ⟨pb,2,none⟩=some (.bool G):=⟨hm8.cell hS1.1 hsm,hm8.cell hS1.2.1 hpm,hm8.cell hS1.2.2.1 hpm,hm8.cell hS1.2.2.2 hpm⟩
   show K_ _ _
   refine hK.out _ _ (fun _=>hS2) ?_
   clear hK K_
   refine wpAnyT_done (by kernel_rfl) ?_ _
   have HE:=zh (And.intro hmp8 hm8)
   clear hmp8 hm8 hS0 hS1 hS2
   go_wp2_with fail
   refine ⟨⟨i+1,by omega,by go_num,⟨HST7.out.1.obj |> fun h=>HE.out.2.keep h hsm,by rw [HCH.out];exact HE.out.1⟩,HST7.out.2.trans HE.out.2⟩,by go_light;simp only [intOf];omega⟩
  ·have hil:i=rs.length:=by omega
   subst hil
   have hst:=hinv.sto
   rw [List.take_length] at hst
   have HF:=zh (And.intro hst (And.intro (HX1.out.1.stay hm12) (HX1.out.2.1.trans hm12)))
   have hz:=HX1.out.2.1.size
   clear hinv hst hm12
   go_wp2_with fail
   have hh:=HX1.out
   exact fin hR ⟨s,p,m,ub,rfl,HF.out.2.1,HF.out.1,HF.out.2.2,by have:=HMS.out;have:=HSS.out;omega,hh.2.2.1,hh.2.2.2.1,by have:=HMS.out;omega,by have:=HMS.out;omega,by have:=HMS.out;omega,by have:=HMS.out;have:=HSS.out;omega,by have:=HMS.out;have:=HSS.out;omega⟩
end Go.Proofs.YtmppeipgjcjdkaaGreatDoor
