/-
  Layers 0 to 14: helps of the laws of indexes. No statement is proved here; no condition.
-/
import Derived.Test.YtmppeipgjcjdkaaGreatDoorX32
import Derived.Test.YtmppeipgjcjdkaaGreatDoorX34
import Derived.Test.YtmppeipgjcjdkaaGreatDoorX38
import Derived.Test.YtmppeipgjcjdkaaGreatDoorX05
import Derived.Test.YtmppeipgjcjdkaaGreatDoorX04
namespace Go.Proofs.YtmppeipgjcjdkaaGreatDoor
open _root_.Go.Proofs.Tryz
open Go.RowKit Go.Maps
def StaAt (w:World) (X:Nat->Prop) (v:Value) (m l:List UInt8) (K:List (List UInt8)) (t:Tr):Prop :=
 ∃ (kv tv:Value) (ys:List FlX),v=.agg #[strV m,strV l,kv,tv]/\(∀ S ∈ K,S.length=32)/\SvX w X kv K.length (keyCells K)/\ys.map FlX.f=t/\SvX w X tv ys.length (ys.flatMap FlX.cells)/\∀ y ∈ ys,SvX w X y.v y.f.b.length (bv y.f.b)
theorem StaAt.keep {S X:Nat->Prop} {w w':World} {v:Value} {m l:List UInt8} {K:List (List UInt8)} {t:Tr} (h:StaAt w X v m l K t) (hm:Mod S w w') (hs:∀ k,S k->X k):StaAt w' X v m l K t:=by
 obtain ⟨kv,tv,ys,h1,h2,h3,h4,h5,h6⟩:=h
 exact ⟨kv,tv,ys,h1,h2,h3.keep hm (fun k _ _ a b=>b (hs k a)),h4,h5.keep hm (fun k _ _ a b=>b (hs k a)),fun y hy=>(h6 y hy).keep hm (fun k _ _ a b=>b (hs k a))⟩
theorem StaAt.stay {X:Nat->Prop} {w w':World} {v:Value} {m l:List UInt8} {K:List (List UInt8)} {t:Tr} (h:StaAt w X v m l K t) (hm:Mod No w w'):StaAt w' X v m l K t:=h.keep hm (fun _ f=>f.elim)
theorem StaAt.shrink {X Y:Nat->Prop} {w:World} {v:Value} {m l:List UInt8} {K:List (List UInt8)} {t:Tr} (h:StaAt w X v m l K t) (hy:∀ k,k < w.heap.size->Y k->X k):StaAt w Y v m l K t:=by
 obtain ⟨kv,tv,ys,h1,h2,h3,h4,h5,h6⟩:=h
 exact ⟨kv,tv,ys,h1,h2,h3.shrink hy,h4,h5.shrink hy,fun y hy'=>(h6 y hy').shrink hy⟩
theorem StaAt.no {X:Nat->Prop} {w:World} {v:Value} {m l:List UInt8} {K:List (List UInt8)} {t:Tr} (h:StaAt w X v m l K t):StaAt w No v m l K t:=h.shrink (fun _ _ f=>f.elim)
set_option maxRecDepth 100000 in
set_option maxHeartbeats 8000000 in
theorem same_any {w:World} {v u:Value} {m l:List UInt8} {K:List (List UInt8)} {t:Tr} {X Y:Nat->Prop} (hX:StaAt w X v m l K t) (hY:StaAt w Y u m l K t) :
  Calls prog 14 #[v,u] w fun e w'=>e=.returned (.bool true)/\Mod No w w':=by
 refine calls_hide fun R hR=>?_
 obtain ⟨kv,tv,ys,rfl,hK,h3,h4,h5,h6⟩:=hX.no
 obtain ⟨ku,tu,zs,rfl,-,g3,g4,g5,g6⟩:=hY.no
 clear hX hY
 have HKY:=zh (fun W (hm:Mod No w W)=>eqkeys_any K hK kv ku W (h3.kn hm) (g3.kn hm))
 have HFL:=zh (fun W (hm:Mod No w W)=>trees_any ys zs (h4.trans g4.symm) tv tu W (h5.kn hm) (g5.kn hm) (fun y hy=>FlIn.no (h6 y hy) hm) (fun y hy=>FlIn.no (g6 y hy) hm))
 obtain ⟨ka,kc,rfl⟩:=h3.len
 obtain ⟨ta,tc,rfl⟩:=h5.len
 obtain ⟨kb,kd,rfl⟩:=g3.len
 obtain ⟨tb,td,rfl⟩:=g5.len
 generalize K.length=kn at *
 have e1:zs.length=ys.length:=by
  have:=congrArg List.length (h4.trans g4.symm)
  simpa using this.symm
 rw [e1] at HFL ⊢
 generalize ys.length=tn at *
 clear hK h3 h4 h5 h6 g3 g4 g5 g6 e1
 unfold strV at *
 generalize (⟨m.toArray⟩:ByteArray)=M at *
 generalize (⟨l.toArray⟩:ByteArray)=L at *
 go_enter func14,ntmps14
 go_upto_region 1 with fail
 obtain ⟨gx,hgx⟩:∃ g,g=w.heap.size:=⟨_,rfl⟩
 rw [<- hgx]
 generalize hw1:World.alloc (World.alloc w _) _=w1
 have h0:w1.heap[gx]? = some (.cells #[.string M,.string L,.slice ka kn kc,.slice ta tn tc] 38 (0,0)):=by rw [<- hw1,hgx];exact heap_alloc_old _ (heap_alloc_new w _)
 have h1:w1.heap[gx+1]? = some (.cells #[.string M,.string L,.slice kb kn kd,.slice tb tn td] 38 (0,0)):=by rw [<- hw1,hgx];exact heap_at_new _ _ (by simp)
 have hm1:Mod No w w1:=by rw [<- hw1];exact ((Mod.refl No w).alloc _).alloc _
 have HM1:=zh hm1
 have a0:=cell_ofA h0 (i:=0) rfl
 have a1:=cell_ofA h0 (i:=1) rfl
 have a2:=cell_ofA h0 (i:=2) rfl
 have a3:=cell_ofA h0 (i:=3) rfl
 have b0:=cell_ofA h1 (i:=0) rfl
 have b1:=cell_ofA h1 (i:=1) rfl
 have b2:=cell_ofA h1 (i:=2) rfl
 have b3:=cell_ofA h1 (i:=3) rfl
 have HKW:=zh (HKY.out w1 hm1)
 clear hw1 h0 h1 hm1 hgx HKY
 have A3:=zh a3
 have B3:=zh b3
 go_wp2_with fail
 with_reducible refine HKW.out.mono ?_
 rintro e w2 ⟨rfl,hm2⟩
 have HM2:=zh (HM1.out.trans hm2)
 have HFW:=zh (HFL.out w2 HM2.out)
 have a4:=hm2.cell A3.out (fun f=>f)
 have b4:=hm2.cell B3.out (fun f=>f)
 clear hm2 HKW HFL a0 a1 a2 a3 b0 b1 b2 b3
 go_wp2_with fail
 with_reducible refine HFW.out.mono ?_
 rintro e w3 ⟨rfl,hm3⟩
 have HM3:=zh (HM2.out.trans hm3)
 clear hm3 HFW a4 b4
 go_wp2_with fail
 exact fin hR ⟨rfl,HM3.out⟩
set_option maxRecDepth 100000 in
set_option maxHeartbeats 4000000 in
theorem lparse_nosuf (s:List UInt8) (hs:s.length<=65536) (hn:Lib.hasSuffix s [10]=false) (w:World) :
  Calls prog 45 #[strV s] w fun e w'=>e=.returned (.tuple #[.slice none 0 0,.int .i64 0,.int .i64 63])/\Mod No w w':=by
 refine calls_hide fun R hR=>?_
 have hmf:∀ (fn:Fn) (first cap:Array Value) (w:World),(Instr.makeFunc fn first cap).run prog w=.ok (.func fn first cap) w:=fun _ _ _ _=>rfl
 have hz:=str_len3 s
 have HSF:=zh (show ∀ W,Calls prog 105 #[strV s,.string ⟨#[10]⟩] W fun e w'=>e=.returned (.bool false)/\w'=W from fun W=>by
  have h:=Tryz.strings_HasSuffix ⟨s.toArray⟩ ⟨#[10]⟩ W (by rw [str_len3];omega)
  rw [show Lib.hasSuffix (⟨s.toArray⟩:ByteArray).data.toList (⟨#[10]⟩:ByteArray).data.toList=false from hn] at h
  exact h)
 have hsI:(s.length:Int)<=65536:=by omega
 obtain ⟨w1,hw1⟩:∃ w1,w1=((w.alloc (.cells #[.slice none 0 0] 42)).alloc (.cells #[.int .i64 0] 3)).alloc (.cells #[.int .i64 0] 26):=⟨_,rfl⟩
 have m1:Mod No w w1:=by rw [hw1];exact (((Mod.refl No w).alloc _).alloc _).alloc _
 have hp:w1.heap[w.heap.size]? = some (.cells #[.slice none 0 0] 42 (0,0)):=by
  rw [hw1];exact heap_alloc_old _ (heap_alloc_old _ (heap_alloc_new w _))
 have hq:w1.heap[w.heap.size+1]? = some (.cells #[.int .i64 0] 3 (0,0)):=by
  rw [hw1];exact heap_alloc_old _ (heap_at_new _ _ (by simp))
 have hr:w1.heap[w.heap.size+2]? = some (.cells #[.int .i64 0] 26 (0,0)):=by
  rw [hw1];exact heap_at_new _ _ (by simp)
 unfold strV at *
 generalize (⟨s.toArray⟩:ByteArray)=Z at *
 have HW1:=zh hw1
 have M1:=zh m1
 have HP:=zh hp
 have HQ:=zh hq
 have HR:=zh hr
 clear hw1 m1 hp hq hr hn
 go_enter_defers func45,ntmps45
 go_wp2_with fail
 rw [<- HW1.out]
 with_reducible refine (HSF.out _).mono ?_
 rintro e w2 ⟨rfl,rfl⟩
 clear HSF HW1
 go_wp2_with fail
 with_reducible refine (lmust_no 0 _).mono ?_
 rintro e w3 ⟨rfl,rfl⟩
 go_wp2_with fail
 refine leaves_cons (f:=103) (args:=#[.pointer (some ⟨w.heap.size,0,none⟩),.pointer (some ⟨w.heap.size+1,0,none⟩),.pointer (some ⟨w.heap.size+2,0,none⟩)]) (by simp) (by simp [go_sem]) ?_
 refine (lstop_caught _ _ _ 0 0 _ 0 _ HP.out HQ.out HR.out).mono ?_
 rintro e u' w'' ⟨rfl,rfl,r1,r2,r3,hm⟩
 have r1:=cell_ofA r1 (i:=0) rfl
 have r2:=cell_ofA r2 (i:=0) rfl
 have r3:=cell_ofA r3 (i:=0) rfl
 refine ⟨.tuple #[.slice none 0 0,.int .i64 0,.int .i64 63],?_,?_⟩
 ·simp [results,results45,go_sem,r1,r2,r3]
 ·exact fin hR ⟨rfl,M1.out.then hm (fun i hi e=>by omega)⟩
def mft0:List Value:=[.string ⟨#[]⟩,.int .i64 0,.int .i64 0,.int .i64 0,.slice none 0 0,.slice none 0 0]
set_option maxRecDepth 100000 in
set_option maxHeartbeats 4000000 in
theorem mline_m (mb:Nat) (w:World) (h:w.heap[mb]? = some (.cells #[.string ⟨#[]⟩,.int .i64 0,.int .i64 0,.int .i64 0,.slice none 0 0,.slice none 0 0] 104 (0,0))) :
  Calls prog 100 #[.pointer (some ⟨mb,0,none⟩),.int .i64 0,.string ⟨#[109]⟩] w fun e w'=>e=.returned (.bool false)/\Mod (fun k=>k=mb) w w':=by
 refine calls_hide fun R hR=>?_
 have c0:w.cell? ⟨mb,0,none⟩=some (.string ⟨#[]⟩):=cell_ofA h rfl
 have f0:=frozen_of 0 h
 have HCP:=zh (show ∀ w,Calls prog 156 #[.string ⟨#[109]⟩,.string ⟨#[110,97,109,101,32]⟩] w fun e w'=>e=.returned (.tuple #[.string ⟨#[109]⟩,.bool false])/\w'=w from fun w=>Tryz.strings_CutPrefix ⟨#[109]⟩ ⟨#[110,97,109,101,32]⟩ w)
 clear h
 go_enter func100,ntmps100
 go_wp2_with fail
 with_reducible refine (HCP.out _).mono ?_
 rintro e w1 ⟨rfl,rfl⟩
 go_wp2_with fail
 exact fin hR ⟨rfl,(Mod.refl (fun k=>k=mb) w1).setCell (fun _=>rfl) _⟩
set_option maxRecDepth 100000 in
set_option maxHeartbeats 4000000 in
theorem mparse_m (w:World) (hgl:Gl w) :
  Calls prog 44 #[.string ⟨#[109]⟩] w fun e w'=>e=.returned (.tuple #[.agg mft0.toArray,.int .i64 1,.int .i64 62])/\Mod No w w':=by
 refine calls_hide fun R hR=>?_
 obtain ⟨w1,hw1⟩:∃ w1,w1=(w.alloc (.cells #[.string ⟨#[]⟩,.int .i64 0,.int .i64 0,.int .i64 0,.slice none 0 0,.slice none 0 0] 104)).alloc (.cells #[.string ⟨#[]⟩,.int .i64 0,.int .i64 0,.int .i64 0,.slice none 0 0,.slice none 0 0] 104):=⟨_,rfl⟩
 have m1:Mod No w w1:=by rw [hw1];exact ((Mod.refl No w).alloc _).alloc _
 have ha:w1.heap[w.heap.size]? = some (.cells #[.string ⟨#[]⟩,.int .i64 0,.int .i64 0,.int .i64 0,.slice none 0 0,.slice none 0 0] 104 (0,0)):=by rw [hw1];exact heap_alloc_old _ (heap_alloc_new w _)
 have hb:w1.heap[w.heap.size+1]? = some (.cells #[.string ⟨#[]⟩,.int .i64 0,.int .i64 0,.int .i64 0,.slice none 0 0,.slice none 0 0] 104 (0,0)):=by rw [hw1];exact heap_at_new _ _ (by simp)
 have HLN:=zh (show Calls prog 98 #[.string ⟨#[109]⟩] w1 fun e w'=>∃ v,e=.returned v/\Sl w' No 9 v 1 [.string ⟨#[109]⟩]/\Mod No w1 w' from lines_any [109] (by decide) w1 (hgl.stay m1 (fun f=>f)))
 have HSI:=zh (show ∀ w,Calls prog 99 #[.string ⟨#[109]⟩] w fun e w'=>e=.returned (.bool false)/\w'=w from fun w=>silent_any [109] w)
 obtain ⟨ga,hga⟩:∃ g,g=w.heap.size:=⟨_,rfl⟩
 obtain ⟨gb,hgb⟩:∃ g,g=w.heap.size+1:=⟨_,rfl⟩
 rw [<- hga] at ha
 rw [<- hgb] at hb
 have HA:=zh ha
 have HB:=zh hb
 have HW1:=zh hw1
 have HM1:=zh m1
 have HGA:=zh (And.intro hga hgb)
 have HNE:=zh (show ga ≠ gb by omega)
 have HLO:=zh (show w.heap.size<=ga/\w.heap.size<=gb by omega)
 clear ha hb hw1 m1 hga hgb hgl
 go_enter func44,ntmps44
 go_upto_region 5 with fail
 rw [<- HW1.out,<- HGA.out.2,<- HGA.out.1]
 go_wp2_with fail
 with_reducible refine HLN.out.mono ?_
 rintro e w2 ⟨v,rfl,hsl,hm2⟩
 have HM2:=zh (HM1.out.trans hm2)
 have HA2:=zh (hm2.keep HA.out (fun f=>f))
 have HB2:=zh (hm2.keep HB.out (fun f=>f))
 obtain ⟨b,o,c,rfl,-⟩:=hsl.shape (by omega)
 have HC:=zh (show w2.cell? ⟨b,o,none⟩=some (.string ⟨#[109]⟩) from hsl.cellN (i:=0) (by simp))
 clear hsl hm2 HLN HA HB HM1
 go_wp2_with fail
 go_loopw [6,16] (fun n q wr=>n=.int .i64 0/\q=.int .i64 0/\wr=w2) (fun _ _ _=>0)
 case atStart=>exact ⟨rfl,rfl,rfl⟩
 case round =>
  obtain ⟨rfl,rfl,rfl⟩:=hrel
  have c0:=HC.out
  have HLI:=zh (mline_m gb wr HB2.out)
  go_wp2_with fail
  with_reducible refine (HSI.out _).mono ?_
  rintro e w3 ⟨rfl,rfl⟩
  go_wp2_with fail
  with_reducible refine HLI.out.mono ?_
  rintro e w4 ⟨rfl,hm4⟩
  have ha4:=hm4.keep HA2.out HNE.out
  have HM4:=zh (HM2.out.then hm4 (fun i hi e=>by have e:i=gb:=e;have:=HLO.out;omega))
  have k0:w4.cell? ⟨ga,0,none⟩=some (.string ⟨#[]⟩):=cell_ofA ha4 rfl
  have k1:w4.cell? ⟨ga,1,none⟩=some (.int .i64 0):=cell_ofA ha4 rfl
  have k2:w4.cell? ⟨ga,2,none⟩=some (.int .i64 0):=cell_ofA ha4 rfl
  have k3:w4.cell? ⟨ga,3,none⟩=some (.int .i64 0):=cell_ofA ha4 rfl
  have k4:w4.cell? ⟨ga,4,none⟩=some (.slice none 0 0):=cell_ofA ha4 rfl
  have k5:w4.cell? ⟨ga,5,none⟩=some (.slice none 0 0):=cell_ofA ha4 rfl
  have z0:=frozen_of 0 ha4
  have z1:=frozen_of 1 ha4
  have z2:=frozen_of 2 ha4
  have z3:=frozen_of 3 ha4
  have z4:=frozen_of 4 ha4
  have z5:=frozen_of 5 ha4
  have HA4:=zh ha4
  clear hm4 ha4 c0 HLI HA2 HB2
  go_wp2_with fail
  have hf8:((((((w4.setCell ⟨ga,0,none⟩ (.string ⟨#[]⟩)).setCell ⟨ga,1,none⟩ (.int .i64 0)).setCell ⟨ga,2,none⟩ (.int .i64 0)).setCell ⟨ga,3,none⟩ (.int .i64 0)).setCell ⟨ga,4,none⟩ (.slice none 0 0)).setCell ⟨ga,5,none⟩ (.slice none 0 0)).heap[ga]? = some (.cells #[.string ⟨#[]⟩,.int .i64 0,.int .i64 0,.int .i64 0,.slice none 0 0,.slice none 0 0] 104 (0,0)):=by
   rw [heap_setCell (heap_setCell (heap_setCell (heap_setCell (heap_setCell (heap_setCell HA4.out _) _) _) _) _) _]
   rfl
  have hm8:Mod No w ((((((w4.setCell ⟨ga,0,none⟩ (.string ⟨#[]⟩)).setCell ⟨ga,1,none⟩ (.int .i64 0)).setCell ⟨ga,2,none⟩ (.int .i64 0)).setCell ⟨ga,3,none⟩ (.int .i64 0)).setCell ⟨ga,4,none⟩ (.slice none 0 0)).setCell ⟨ga,5,none⟩ (.slice none 0 0)):=HM4.out.then (((((((Mod.refl (fun k=>k=ga) w4).setCell (fun _=>rfl) _).setCell (fun _=>rfl) _).setCell (fun _=>rfl) _).setCell (fun _=>rfl) _).setCell (fun _=>rfl) _).setCell (fun _=>rfl) _) (fun i hi e=>by have e:i=ga:=e;have:=HLO.out;omega)
  generalize ((((((w4.setCell ⟨ga,0,none⟩ (.string ⟨#[]⟩)).setCell ⟨ga,1,none⟩ (.int .i64 0)).setCell ⟨ga,2,none⟩ (.int .i64 0)).setCell ⟨ga,3,none⟩ (.int .i64 0)).setCell ⟨ga,4,none⟩ (.slice none 0 0)).setCell ⟨ga,5,none⟩ (.slice none 0 0))=w8 at *
  have hl9:=run_loadVar_row (P:=prog) w8 ga 104 104 #[.string ⟨#[]⟩,.int .i64 0,.int .i64 0,.int .i64 0,.slice none 0 0,.slice none 0 0] (0,0) _ hf8 underlying104 rfl (by kernel_rfl)
  exact bodyPost_ret (v:=.tuple #[.agg mft0.toArray,.int .i64 1,.int .i64 62]) (by simp [results,results44,asAddr,hl9,mft0]) rfl (fin hR ⟨rfl,hm8⟩)
set_option maxRecDepth 100000 in
set_option maxHeartbeats 4000000 in
theorem held_none (w:World) :
  Calls prog 16 #[.agg #[.string ⟨#[]⟩,.string ⟨#[]⟩,.slice none 0 0,.slice none 0 0]] w fun e w'=>e=.returned (.bool true)/\Mod No w w':=by
 refine calls_hide fun R hR=>?_
 go_enter func16,ntmps16
 go_wp2_with fail
 exact fin hR ⟨rfl,(Mod.refl No w).alloc _⟩
set_option maxRecDepth 100000 in
set_option maxHeartbeats 4000000 in
theorem held_ml {w:World} {X:Nat->Prop} {v:Value} {K:List (List UInt8)} {t:Tr} (h:StaAt w X v [109] [108] K t) (hgl:Gl w) :
  Calls prog 16 #[v] w fun e w'=>e=.returned (.bool false)/\Mod No w w':=by
 refine calls_hide fun R hR=>?_
 obtain ⟨kv,tv,ys,rfl,-,h3,-,h5,-⟩:=h
 obtain ⟨ka,kc,rfl⟩:=h3.len
 obtain ⟨ta,tc,rfl⟩:=h5.len
 generalize K.length=kn at *
 generalize ys.length=tn at *
 clear h3 h5
 rw [show strV [109]=.string ⟨#[109]⟩ from rfl,show strV [108]=.string ⟨#[108]⟩ from rfl]
 have HMP:=zh (fun W (hm:Mod No w W)=>mparse_m W (hgl.stay hm (fun f=>f)))
 have HLP:=zh (show ∀ W,Calls prog 45 #[.string ⟨#[108]⟩] W fun e w'=>e=.returned (.tuple #[.slice none 0 0,.int .i64 0,.int .i64 63])/\Mod No W w' from fun W=>lparse_nosuf [108] (by decide) (by decide) W)
 clear hgl
 go_enter func16,ntmps16
 go_upto_region 1 with fail
 obtain ⟨gx,hgx⟩:∃ g,g=w.heap.size:=⟨_,rfl⟩
 rw [<- hgx]
 generalize hw1:World.alloc w _=w1
 have h0:w1.heap[gx]? = some (.cells #[.string ⟨#[109]⟩,.string ⟨#[108]⟩,.slice ka kn kc,.slice ta tn tc] 38 (0,0)):=by rw [<- hw1,hgx];exact heap_alloc_new w _
 have hm1:Mod No w w1:=by rw [<- hw1];exact (Mod.refl No w).alloc _
 have H0:=zh h0
 have HM1:=zh hm1
 have a0:w1.cell? ⟨gx,0,none⟩=some (.string ⟨#[109]⟩):=cell_ofA h0 rfl
 have a1:w1.cell? ⟨gx,1,none⟩=some (.string ⟨#[108]⟩):=cell_ofA h0 rfl
 have HMW:=zh (HMP.out w1 hm1)
 clear hw1 h0 hm1 hgx HMP
 go_wp2_with fail
 with_reducible refine HMW.out.mono ?_
 rintro e w2 ⟨rfl,hm2⟩
 have HM2:=zh (HM1.out.trans hm2)
 unfold mft0
 obtain ⟨w3,hw3⟩:∃ w3,w3=w2.alloc (.cells #[.string ⟨#[]⟩,.int .i64 0,.int .i64 0,.int .i64 0,.slice none 0 0,.slice none 0 0] 104):=⟨_,rfl⟩
 have m3:Mod No w2 w3:=by rw [hw3];exact (Mod.refl No w2).alloc _
 have HW3:=zh hw3
 have HM3:=zh (HM2.out.trans m3)
 have b1:w3.cell? ⟨gx,1,none⟩=some (.string ⟨#[108]⟩):=cell_ofA (m3.keep (hm2.keep H0.out (fun f=>f)) (fun f=>f)) rfl
 have HLW:=zh (HLP.out w3)
 clear hm2 m3 hw3 HMW HLP a0 a1
 go_upto_region 4 with fail
 rw [<- HW3.out]
 go_wp2_with fail
 with_reducible refine HLW.out.mono ?_
 rintro e w4 ⟨rfl,hm4⟩
 have HM4:=zh ((HM3.out.trans hm4).alloc (.cells #[.slice none 0 0] 42))
 clear hm4 HLW b1
 go_wp2_with fail
 exact fin hR ⟨rfl,HM4.out⟩
end Go.Proofs.YtmppeipgjcjdkaaGreatDoor
