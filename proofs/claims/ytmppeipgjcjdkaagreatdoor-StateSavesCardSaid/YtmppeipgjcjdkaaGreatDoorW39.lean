/-
  Layers 0 to 14: helps of the laws of indexes. No statement is proved here; no condition.
-/
import Derived.Test.YtmppeipgjcjdkaaGreatDoorW29
import Derived.Test.YtmppeipgjcjdkaaGreatDoorW31
import Derived.Test.YtmppeipgjcjdkaaGreatDoorW38
namespace Go.Proofs.YtmppeipgjcjdkaaGreatDoor
open _root_.Go.Proofs.Tryz
open Go.RowKit Go.Maps
def StaAt (w:World) (X:Nat->Prop) (v:Value) (m l:List UInt8) (K:List (List UInt8)) (t:Tr):Prop :=
 ∃ (kv tv:Value) (ys:List FlX),v=.agg #[strV m,strV l,kv,tv]/\(∀ S ∈ K,S.length=32)/\SvX w X kv K.length (keyCells K)/\ys.map FlX.f=t/\SvX w X tv ys.length (ys.flatMap FlX.cells)/\∀ y ∈ ys,SvX w X y.v y.f.b.length (bv y.f.b)
theorem StaAt.keep {S X:Nat->Prop} {w w':World} {v:Value} {m l:List UInt8} {K:List (List UInt8)} {t:Tr} (h:StaAt w X v m l K t) (hm:Mod S w w') (hs:∀ k,S k->X k):StaAt w' X v m l K t:=by
 obtain ⟨kv,tv,ys,h1,h2,h3,h4,h5,h6⟩:=h
 exact ⟨kv,tv,ys,h1,h2,h3.keep hm (fun k _ _ a b=>b (hs k a)),h4,h5.keep hm (fun k _ _ a b=>b (hs k a)),fun y hy=>(h6 y hy).keep hm (fun k _ _ a b=>b (hs k a))⟩
theorem StaAt.stay {X:Nat->Prop} {w w':World} {v:Value} {m l:List UInt8} {K:List (List UInt8)} {t:Tr} (h:StaAt w X v m l K t) (hm:Mod No w w'):StaAt w' X v m l K t:=h.keep hm (fun _ f=>f.elim)
theorem StaAt.shrink {X Y:Nat->Prop} {w:World} {v:Value} {m l:List UInt8} {K:List (List UInt8)} {t:Tr} (h:StaAt w X v m l K t) (hy:∀ k,k < w.heap.size->Y k->X k):StaAt w Y v m l K t:=by
 obtain ⟨kv,tv,ys,h1,h2,h3,h4,h5,h6⟩:=h
 exact ⟨kv,tv,ys,h1,h2,h3.shrink hy,h4,h5.shrink hy,fun y hy'=>(h6 y hy').shrink hy⟩
theorem StaAt.no {X:Nat->Prop} {w:World} {v:Value} {m l:List UInt8} {K:List (List UInt8)} {t:Tr} (h:StaAt w X v m l K t):StaAt w No v m l K t:=h.shrink (fun _ _ f=>f.elim)
set_option maxRecDepth 100000 in
set_option maxHeartbeats 8000000 in
theorem hstate_any {w:World} {v u:Value} {m l:List UInt8} {K:List (List UInt8)} {t:Tr} {X Y:Nat->Prop} (hX:StaAt w X v m l K t) (hY:StaAt w Y u m l K t) :
  Calls prog 12 #[v,u] w fun e w'=>e=.returned (.bool true)/\Mod No w w':=by
 refine calls_hide fun R hR=>?_
 obtain ⟨kv,tv,ys,rfl,hK,h3,h4,h5,h6⟩:=hX.no
 obtain ⟨ku,tu,zs,rfl,-,g3,g4,g5,g6⟩:=hY.no
 clear hX hY
 have HKY:=zh (fun W (hm:Mod No w W)=>hkeys_any K hK kv ku W (h3.kn hm) (g3.kn hm))
 have HFL:=zh (fun W (hm:Mod No w W)=>hfiles_any ys zs (h4.trans g4.symm) tv tu W (h5.kn hm) (g5.kn hm) (fun y hy=>FlIn.no (h6 y hy) hm) (fun y hy=>FlIn.no (g6 y hy) hm))
 obtain ⟨ka,kc,rfl⟩:=h3.len
 obtain ⟨ta,tc,rfl⟩:=h5.len
 obtain ⟨kb,kd,rfl⟩:=g3.len
 obtain ⟨tb,td,rfl⟩:=g5.len
 generalize K.length=kn at *
 have e1:zs.length=ys.length:=by
  have:=congrArg List.length (h4.trans g4.symm)
  simpa using this.symm
 rw [e1] at HFL ⊢
 generalize ys.length=tn at *
 clear hK h3 h4 h5 h6 g3 g4 g5 g6 e1
 unfold strV at *
 generalize (⟨m.toArray⟩:ByteArray)=M at *
 generalize (⟨l.toArray⟩:ByteArray)=L at *
 go_enter func12,ntmps12
 go_upto_region 1 with fail
 obtain ⟨gx,hgx⟩:∃ g,g=w.heap.size:=⟨_,rfl⟩
 rw [<- hgx]
 generalize hw1:World.alloc (World.alloc w _) _=w1
 have h0:w1.heap[gx]? = some (.cells #[.string M,.string L,.slice ka kn kc,.slice ta tn tc] 38 (0,0)):=by rw [<- hw1,hgx];exact heap_alloc_old _ (heap_alloc_new w _)
 have h1:w1.heap[gx+1]? = some (.cells #[.string M,.string L,.slice kb kn kd,.slice tb tn td] 38 (0,0)):=by rw [<- hw1,hgx];exact heap_at_new _ _ (by simp)
 have hm1:Mod No w w1:=by rw [<- hw1];exact ((Mod.refl No w).alloc _).alloc _
 have HM1:=zh hm1
 have a0:=cell_ofA h0 (i:=0) rfl
 have a1:=cell_ofA h0 (i:=1) rfl
 have a2:=cell_ofA h0 (i:=2) rfl
 have a3:=cell_ofA h0 (i:=3) rfl
 have b0:=cell_ofA h1 (i:=0) rfl
 have b1:=cell_ofA h1 (i:=1) rfl
 have b2:=cell_ofA h1 (i:=2) rfl
 have b3:=cell_ofA h1 (i:=3) rfl
 have HKW:=zh (HKY.out w1 hm1)
 clear hw1 h0 h1 hm1 hgx HKY
 have A3:=zh a3
 have B3:=zh b3
 go_wp2_with fail
 with_reducible refine HKW.out.mono ?_
 rintro e w2 ⟨rfl,hm2⟩
 have HM2:=zh (HM1.out.trans hm2)
 have HFW:=zh (HFL.out w2 HM2.out)
 have a4:=hm2.cell A3.out (fun f=>f)
 have b4:=hm2.cell B3.out (fun f=>f)
 clear hm2 HKW HFL a0 a1 a2 a3 b0 b1 b2 b3
 go_wp2_with fail
 with_reducible refine HFW.out.mono ?_
 rintro e w3 ⟨rfl,hm3⟩
 have HM3:=zh (HM2.out.trans hm3)
 clear hm3 HFW a4 b4
 go_wp2_with fail
 exact fin hR ⟨rfl,HM3.out⟩
set_option maxRecDepth 100000 in
set_option maxHeartbeats 8000000 in
theorem same_any {w:World} {v u:Value} {m l:List UInt8} {K:List (List UInt8)} {t:Tr} {X Y:Nat->Prop} (hX:StaAt w X v m l K t) (hY:StaAt w Y u m l K t) :
  Calls prog 14 #[v,u] w fun e w'=>e=.returned (.bool true)/\Mod No w w':=by
 refine calls_hide fun R hR=>?_
 obtain ⟨kv,tv,ys,rfl,hK,h3,h4,h5,h6⟩:=hX.no
 obtain ⟨ku,tu,zs,rfl,-,g3,g4,g5,g6⟩:=hY.no
 clear hX hY
 have HKY:=zh (fun W (hm:Mod No w W)=>eqkeys_any K hK kv ku W (h3.kn hm) (g3.kn hm))
 have HFL:=zh (fun W (hm:Mod No w W)=>trees_any ys zs (h4.trans g4.symm) tv tu W (h5.kn hm) (g5.kn hm) (fun y hy=>FlIn.no (h6 y hy) hm) (fun y hy=>FlIn.no (g6 y hy) hm))
 obtain ⟨ka,kc,rfl⟩:=h3.len
 obtain ⟨ta,tc,rfl⟩:=h5.len
 obtain ⟨kb,kd,rfl⟩:=g3.len
 obtain ⟨tb,td,rfl⟩:=g5.len
 generalize K.length=kn at *
 have e1:zs.length=ys.length:=by
  have:=congrArg List.length (h4.trans g4.symm)
  simpa using this.symm
 rw [e1] at HFL ⊢
 generalize ys.length=tn at *
 clear hK h3 h4 h5 h6 g3 g4 g5 g6 e1
 unfold strV at *
 generalize (⟨m.toArray⟩:ByteArray)=M at *
 generalize (⟨l.toArray⟩:ByteArray)=L at *
 go_enter func14,ntmps14
 go_upto_region 1 with fail
 obtain ⟨gx,hgx⟩:∃ g,g=w.heap.size:=⟨_,rfl⟩
 rw [<- hgx]
 generalize hw1:World.alloc (World.alloc w _) _=w1
 have h0:w1.heap[gx]? = some (.cells #[.string M,.string L,.slice ka kn kc,.slice ta tn tc] 38 (0,0)):=by rw [<- hw1,hgx];exact heap_alloc_old _ (heap_alloc_new w _)
 have h1:w1.heap[gx+1]? = some (.cells #[.string M,.string L,.slice kb kn kd,.slice tb tn td] 38 (0,0)):=by rw [<- hw1,hgx];exact heap_at_new _ _ (by simp)
 have hm1:Mod No w w1:=by rw [<- hw1];exact ((Mod.refl No w).alloc _).alloc _
 have HM1:=zh hm1
 have a0:=cell_ofA h0 (i:=0) rfl
 have a1:=cell_ofA h0 (i:=1) rfl
 have a2:=cell_ofA h0 (i:=2) rfl
 have a3:=cell_ofA h0 (i:=3) rfl
 have b0:=cell_ofA h1 (i:=0) rfl
 have b1:=cell_ofA h1 (i:=1) rfl
 have b2:=cell_ofA h1 (i:=2) rfl
 have b3:=cell_ofA h1 (i:=3) rfl
 have HKW:=zh (HKY.out w1 hm1)
 clear hw1 h0 h1 hm1 hgx HKY
 have A3:=zh a3
 have B3:=zh b3
 go_wp2_with fail
 with_reducible refine HKW.out.mono ?_
 rintro e w2 ⟨rfl,hm2⟩
 have HM2:=zh (HM1.out.trans hm2)
 have HFW:=zh (HFL.out w2 HM2.out)
 have a4:=hm2.cell A3.out (fun f=>f)
 have b4:=hm2.cell B3.out (fun f=>f)
 clear hm2 HKW HFL a0 a1 a2 a3 b0 b1 b2 b3
 go_wp2_with fail
 with_reducible refine HFW.out.mono ?_
 rintro e w3 ⟨rfl,hm3⟩
 have HM3:=zh (HM2.out.trans hm3)
 clear hm3 HFW a4 b4
 go_wp2_with fail
 exact fin hR ⟨rfl,HM3.out⟩
end Go.Proofs.YtmppeipgjcjdkaaGreatDoor
