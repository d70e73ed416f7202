/-
  Layers 0 to 14: helps of the laws of indexes. No statement is proved here; no condition.
-/
import Derived.Test.YtmppeipgjcjdkaaGreatDoorW42
import Derived.Test.YtmppeipgjcjdkaaGreatDoorW44
namespace Go.Proofs.YtmppeipgjcjdkaaGreatDoor
open _root_.Go.Proofs.Tryz
open Go.RowKit Go.Maps
theorem no_ltS (w:World):∀ k,No k->k < w.heap.size:=fun _ f=>f.elim
def flK:Fl:=⟨[97,47,98],false,[120]⟩
def trK:Tr:=[⟨[97],true,[]⟩,⟨[97,47,98],false,[120]⟩]
def kyX:List UInt8:=[120,47,121]
theorem ofK:ofT [flK]=.inl trK:=by decide +kernel
def prK:Pr:=⟨kyX,[49],false⟩
def mpK:Mt:=Mt.changes (fun _=>none) (savP [109] [108] trK++[prK])
theorem trK_len:(treeB trK).length<=1000:=by decide +kernel
theorem mpK_sm:SM mpK [kyX] 1000 [109] [108] (treeB trK):=by
 unfold mpK
 rw [changes_append]
 refine SM.changes (SM.save (SM.first (by decide) (by decide) 1000) [109] [108] trK (by decide) (by decide) trK_len) (fun p hp=>?_)
 rw [List.mem_singleton.1 hp]
 exact ⟨by decide,by decide⟩
theorem mpK_x:mpK kyX=some [49]:=by decide +kernel
theorem mpK_tree:filesD ((mpK kyT).getD [])=trK:=by decide +kernel
set_option maxRecDepth 100000 in
set_option maxHeartbeats 8000000 in
theorem known_any (w:World) (hgl:Gl w):Calls prog 6 #[] w fun e w'=>e=.returned (.bool true)/\Mod No w w':=by
 refine calls_hide fun R hR=>?_
 have HGL:=zh hgl
 clear hgl
 go_enter func6,ntmps6
 go_wp2_with fail
 with_reducible refine (disk_new No 400 512 w (no_ltS w)).mono ?_
 rintro e w1 ⟨b,sb,mb,rfl,hb1,hb2,hb3,hd1,hm1⟩
 have HD1:=zh (And.intro hd1 (And.intro (And.intro hb1 (And.intro hb2 hb3)) hm1))
 clear hb1 hb2 hb3 hd1 hm1
 go_wp2_with fail
 with_reducible refine (Sto.first (w0:=w) (n:=400) (z:=512) (N:=400) (sz:=512) (by decide) (by decide) (by decide) (by decide) HD1.out.1 HD1.out.2.1 HD1.out.2.2).mono ?_
 rintro e w2 ⟨s,O,rfl,hs2,-,hm2⟩
 have HS2:=zh hs2
 clear hs2 HD1 hm2
 go_upto_region 5 with fail
 have kc:=Lib.run_convert_bytes_const (P:=prog) w2 41 5 #[.int .u8 120] 1 1 underlying41 underlying5
 go_wp2_with fail
 obtain ⟨g,hg⟩:∃ g,g=w2.heap.size:=⟨_,rfl⟩
 rw [<- hg]
 obtain ⟨w3,hw3⟩:∃ y,y=((w2.alloc (.cells #[.int .u8 120] 5 (1,2))).alloc (.cells #[.string ⟨#[97,47,98]⟩,.bool false,.slice (some ⟨g,0,none⟩) 1 1] 51)).alloc (.cells #[.string ⟨#[120,47,121]⟩,.string ⟨#[49]⟩,.bool false] 33):=⟨_,rfl⟩
 have h0:w3.heap[g]? = some (.cells #[.int .u8 120] 5 (1,2)):=by rw [hw3,hg];exact heap_alloc_old _ (heap_alloc_old _ (heap_alloc_new w2 _))
 have h1:w3.heap[g+1]? = some (.cells #[.string ⟨#[97,47,98]⟩,.bool false,.slice (some ⟨g,0,none⟩) 1 1] 51 (0,0)):=by rw [hw3,hg];exact heap_alloc_old _ (heap_at_new _ _ (by simp))
 have h2:w3.heap[g+1+1]? = some (.cells #[.string ⟨#[120,47,121]⟩,.string ⟨#[49]⟩,.bool false] 33 (0,0)):=by rw [hw3,hg];exact heap_at_new _ _ (by simp)
 have m3:Mod No w2 w3:=by rw [hw3];exact (((Mod.refl No w2).alloc _).alloc _).alloc _
 rw [<- hw3]
 have HS3:=zh (HS2.out.stay m3)
 have hm03:Mod No w w3:=HS3.out.mod
 have HSV:=zh (show Calls prog 10 #[.pointer (some ⟨s,0,none⟩),.string ⟨#[109]⟩,.string ⟨#[108]⟩,.slice (some ⟨g+1,0,none⟩) 1 1,.slice (some ⟨g+1+1,0,none⟩) 1 1] w3 fun e w'=>SavPost w w3 w' 400 512 b s O 0 (fun _=>none) 0 [109] [108] [flK] [prK] e from
  save_any HS3.out [109] [108] (by decide) (by decide) [⟨flK,.slice (some ⟨g,0,none⟩) 1 1⟩] _ ⟨⟨_,_,rfl⟩,.inr ⟨51,.inr ⟨g+1,0,1,_,_,rfl,Nat.le_refl _,by unfold maxLen;omega,fun f=>f,h1,Nat.le_refl _,fun i hi=>by
   match i,hi with
   | 0,_=>rfl
   | 1,_=>rfl
   | 2,_=>rfl
   | k+3,h=>exact absurd h (by simp [FlX.cells])⟩⟩⟩ (fun x hx=>by
   rw [List.mem_singleton.1 hx]
   exact ⟨⟨_,_,rfl⟩,.inr ⟨5,.inr ⟨g,0,1,_,_,rfl,Nat.le_refl _,by unfold maxLen;omega,fun f=>f,h0,Nat.le_refl _,fun i hi=>by
    match i,hi with
    | 0,_=>rfl
    | k+1,h=>exact absurd h (by simp [flK])⟩⟩⟩) (by simp) (fun x hx=>by
   rw [List.mem_singleton.1 hx]
   exact ⟨by show (3:Nat)<=300;decide,by show (1:Nat)<=500;decide⟩) [prK] _ (by decide) (.inr ⟨g+1+1,0,1,_,_,rfl,Nat.le_refl _,by unfold maxLen;omega,fun f=>f,h2,by decide,fun i hi=>by
    match i,hi with
    | 0,_=>rfl
    | 1,_=>rfl
    | 2,_=>rfl
    | k+3,h=>exact absurd h (by simp [prCells])⟩) (fun p hp=>by rw [List.mem_singleton.1 hp];decide) (by decide) (by decide) (HGL.out.stay hm03 (fun f=>f)) (fun t ht=>by
   have h9:=ofK
   have h8:ofT [flK]=.inl t:=ht
   rw [h9] at h8
   cases h8
   exact ⟨mpK_sm.mid (by decide),mpK_sm.fits (by decide) (by decide)⟩))
 clear hg hw3 h0 h1 h2 m3 kc HS2 hm03
 with_reducible refine HSV.out.mono ?_
 rintro e w4 hsp
 unfold SavPost at hsp
 rw [ofK] at hsp
 obtain ⟨rfl,O4,hs4,-,-⟩:=hsp
 have HS4:=zh (show Sto w w4 400 512 b s O4 4 mpK 1 from hs4)
 clear hs4 HSV HS3
 go_wp2_with fail
 with_reducible refine (HS4.out.reopen [kyM,kyL,kyT,kyX] mpK_sm.only).mono ?_
 rintro e w5 ⟨t,O5,rfl,hs5,-,-⟩
 have HS5:=zh (show Sto w w5 400 512 b t O5 4 mpK 1 from hs5)
 have HLD:=zh (load_any HS5.out (mpK_sm.cak (by decide)) (by decide) (fun ks hk=>by have:=mpK_sm.keysLen hk;omega) (by rw [mpK_sm.t];have:=trK_len;omega))
 clear hs5 HS4
 go_wp2_with fail
 with_reducible refine HLD.out.mono ?_
 rintro e w6 ⟨⟨v,L,rfl,-,hL,hst⟩,hm6⟩
 obtain rfl:L=[]:=List.eq_nil_iff_forall_not_mem.2 fun S hS=>by have:=(hL S).1 hS;cases this
 rw [mpK_sm.m,mpK_sm.l,mpK_tree] at hst
 have HS6:=zh (HS5.out.stay hm6)
 have HST6:=zh hst
 obtain ⟨kv,tv,ys,rfl,-,hk3,hys,hk5,hk6⟩:=hst.no
 obtain ⟨ka,kc,rfl⟩:=hk3.len
 have hyl:ys.length=2:=by
  have:=congrArg List.length hys
  rw [List.length_map] at this
  exact this
 obtain ⟨tb,tf,tc,rfl,-⟩:=hk5.shape (by omega)
 have hdir:w6.cell? ⟨tb,tf+1,none⟩=some (.bool true):=by
  obtain ⟨-,q1,-⟩:=fls_cells hk5 (k:=0) (by omega)
  have e:ys[0].f.dir=true:=by
   have h9:(ys.map FlX.f)[0]? = trK[0]?:=by rw [hys]
   rw [List.getElem?_map,List.getElem?_eq_getElem (by omega)] at h9
   have h8:=Option.some.inj h9
   rw [h8]
  rw [e] at q1
  simpa using q1
 rw [hyl] at HST6 ⊢
 clear hL hm6 HLD HS5 hk3 hk5 hk6 hys hyl
 obtain ⟨gs,hgs⟩:∃ g,g=w6.heap.size:=⟨_,rfl⟩
 obtain ⟨w7,hw7⟩:∃ y,y=w6.alloc (.cells #[.string ⟨#[109]⟩,.string ⟨#[108]⟩,.slice ka 0 kc,.slice (some ⟨tb,tf,none⟩) 2 tc] 38):=⟨_,rfl⟩
 have m7:Mod No w6 w7:=by rw [hw7];exact (Mod.refl No w6).alloc _
 have h7:w7.heap[gs]? = some (.cells #[.string ⟨#[109]⟩,.string ⟨#[108]⟩,.slice ka 0 kc,.slice (some ⟨tb,tf,none⟩) 2 tc] 38 (0,0)):=by rw [hw7,hgs];exact heap_alloc_new w6 _
 have HS7:=zh (HS6.out.stay m7)
 have HST7:=zh (show StaAt w7 (fun q=>q < w5.heap.size) (.agg #[.string ⟨#[109]⟩,.string ⟨#[108]⟩,.slice ka 0 kc,.slice (some ⟨tb,tf,none⟩) 2 tc]) [109] [108] [] trK from HST6.out.stay m7)
 have HD7:=zh (m7.cell hdir (fun f=>f))
 have HW7:=zh hw7
 have HGS:=zh hgs
 have H7:=zh h7
 have HGX:=zh (show Calls prog 21 #[.pointer (some ⟨t,0,none⟩),.string ⟨#[120,47,121]⟩] w7 fun e w'=>e=.returned (.tuple #[.string ⟨#[49]⟩,.bool true])/\w'=w7 from by
  have h9:=HS7.out.get kyX (by decide)
  unfold getV at h9
  rw [mpK_x] at h9
  exact h9)
 have hs7:=HS7.out.mod
 have HGL7:=zh (HGL.out.stay hs7 (fun f=>f))
 clear hdir m7 h7 hw7 hgs HS6 HST6 HGL hs7
 go_upto_region 10 with fail
 rw [show strV [109]=.string ⟨#[109]⟩ from rfl,show strV [108]=.string ⟨#[108]⟩ from rfl]
 (try simp only [List.length_nil])
 rw [<- HGS.out,<- HW7.out]
 go_wp2_with fail
 with_reducible refine HGX.out.mono ?_
 rintro e w8 ⟨rfl,rfl⟩
 have a0:w8.cell? ⟨gs,0,none⟩=some (.string ⟨#[109]⟩):=cell_ofA H7.out rfl
 have a1:w8.cell? ⟨gs,1,none⟩=some (.string ⟨#[108]⟩):=cell_ofA H7.out rfl
 have a2:w8.cell? ⟨gs,2,none⟩=some (.slice ka 0 kc):=cell_ofA H7.out rfl
 have a3:w8.cell? ⟨gs,3,none⟩=some (.slice (some ⟨tb,tf,none⟩) 2 tc):=cell_ofA H7.out rfl
 have a4:=HD7.out
 clear HGX
 go_wp2_with fail
 with_reducible refine (same_any HST7.out HST7.out).mono ?_
 rintro e w9 ⟨rfl,hm9⟩
 have HM9:=zh (HS7.out.mod.trans hm9)
 have h9:=hm9.keep H7.out (fun f=>f)
 have b0:w9.cell? ⟨gs,0,none⟩=some (.string ⟨#[109]⟩):=cell_ofA h9 rfl
 have b1:w9.cell? ⟨gs,1,none⟩=some (.string ⟨#[108]⟩):=cell_ofA h9 rfl
 have b2:w9.cell? ⟨gs,2,none⟩=some (.slice ka 0 kc):=cell_ofA h9 rfl
 have b3:w9.cell? ⟨gs,3,none⟩=some (.slice (some ⟨tb,tf,none⟩) 2 tc):=cell_ofA h9 rfl
 have HHE:=zh (held_ml (HST7.out.stay hm9) (HGL7.out.stay hm9 (fun f=>f)))
 clear hm9 h9 a0 a1 a2 a3 a4
 go_wp2_with fail
 with_reducible refine HHE.out.mono ?_
 rintro e w10 ⟨rfl,hm10⟩
 have HM10:=zh (HM9.out.trans hm10)
 clear hm10 b0 b1 b2 b3 HHE
 go_wp2_with fail
 with_reducible refine (held_none w10).mono ?_
 rintro e w11 ⟨rfl,hm11⟩
 have HM11:=zh (HM10.out.trans hm11)
 clear hm11
 go_wp2_with fail
 exact fin hR ⟨rfl,HM11.out⟩
end Go.Proofs.YtmppeipgjcjdkaaGreatDoor
