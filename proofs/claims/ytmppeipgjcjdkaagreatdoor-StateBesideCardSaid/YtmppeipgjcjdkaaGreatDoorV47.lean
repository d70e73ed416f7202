/-
  Layers 0 to 14: helps of the laws of indexes. No statement is proved here; no condition.
-/
import Derived.Test.YtmppeipgjcjdkaaGreatDoorV44
import Derived.Test.YtmppeipgjcjdkaaGreatDoorV46
import Derived.Test.YtmppeipgjcjdkaaGreatDoorV39
namespace Go.Proofs.YtmppeipgjcjdkaaGreatDoor
open _root_.Go.Proofs.Tryz
open Go.RowKit Go.Maps
theorem no_ltS (w:World):∀ k,No k->k < w.heap.size:=fun _ f=>f.elim
def flK:Fl:=⟨[97,47,98],false,[120]⟩
def trK:Tr:=[⟨[97],true,[]⟩,⟨[97,47,98],false,[120]⟩]
def kyX:List UInt8:=[120,47,121]
theorem ofK:ofT [flK]=.inl trK:=by decide +kernel
def prK:Pr:=⟨kyX,[49],false⟩
def mpK:Mt:=Mt.changes (fun _=>none) (savP [109] [108] trK++[prK])
theorem trK_len:(treeB trK).length<=1000:=by decide +kernel
theorem mpK_sm:SM mpK [kyX] 1000 [109] [108] (treeB trK):=by
 unfold mpK
 rw [changes_append]
 refine SM.changes (SM.save (SM.first (by decide) (by decide) 1000) [109] [108] trK (by decide) (by decide) trK_len) (fun p hp=>?_)
 rw [List.mem_singleton.1 hp]
 exact ⟨by decide,by decide⟩
theorem mpK_x:mpK kyX=some [49]:=by decide +kernel
theorem mpK_tree:filesD ((mpK kyT).getD [])=trK:=by decide +kernel
set_option maxRecDepth 100000 in
set_option maxHeartbeats 8000000 in
theorem known_any (w:World) (hgl:Gl w):Calls prog 6 #[] w fun e w'=>e=.returned (.bool true)/\Mod No w w':=by
 refine calls_hide fun R hR=>?_
 have HGL:=zh hgl
 clear hgl
 go_enter func6,ntmps6
 go_wp2_with fail
 with_reducible refine (disk_new No 400 512 w (no_ltS w)).mono ?_
 rintro e w1 ⟨b,sb,mb,rfl,hb1,hb2,hb3,hd1,hm1⟩
 have HD1:=zh (And.intro hd1 (And.intro (And.intro hb1 (And.intro hb2 hb3)) hm1))
 clear hb1 hb2 hb3 hd1 hm1
 go_wp2_with fail
 with_reducible refine (Sto.first (w0:=w) (n:=400) (z:=512) (N:=400) (sz:=512) (by decide) (by decide) (by decide) (by decide) HD1.out.1 HD1.out.2.1 HD1.out.2.2).mono ?_
 rintro e w2 ⟨s,O,rfl,hs2,-,hm2⟩
 have HS2:=zh hs2
 clear hs2 HD1 hm2
 go_upto_region 5 with fail
 have kc:=Lib.run_convert_bytes_const (P:=prog) w2 41 5 #[.int .u8 120] 1 1 underlying41 underlying5
 go_wp2_with fail
 obtain ⟨g,hg⟩:∃ g,g=w2.heap.size:=⟨_,rfl⟩
 rw [<- hg]
 obtain ⟨w3,hw3⟩:∃ y,y=((w2.alloc (.cells #[.int .u8 120] 5 (1,2))).alloc (.cells #[.string ⟨#[97,47,98]⟩,.bool false,.slice (some ⟨g,0,none⟩) 1 1] 51)).alloc (.cells #[.string ⟨#[120,47,121]⟩,.string ⟨#[49]⟩,.bool false] 33):=⟨_,rfl⟩
 have h0:w3.heap[g]? = some (.cells #[.int .u8 120] 5 (1,2)):=by rw [hw3,hg];exact heap_alloc_old _ (heap_alloc_old _ (heap_alloc_new w2 _))
 have h1:w3.heap[g+1]? = some (.cells #[.string ⟨#[97,47,98]⟩,.bool false,.slice (some ⟨g,0,none⟩) 1 1] 51 (0,0)):=by rw [hw3,hg];exact heap_alloc_old _ (heap_at_new _ _ (by simp))
 have h2:w3.heap[g+1+1]? = some (.cells #[.string ⟨#[120,47,121]⟩,.string ⟨#[49]⟩,.bool false] 33 (0,0)):=by rw [hw3,hg];exact heap_at_new _ _ (by simp)
 have m3:Mod No w2 w3:=by rw [hw3];exact (((Mod.refl No w2).alloc _).alloc _).alloc _
 rw [<- hw3]
 have HS3:=zh (HS2.out.stay m3)
 have hm03:Mod No w w3:=HS3.out.mod
 have HSV:=zh (show Calls prog 10 #[.pointer (some ⟨s,0,none⟩),.string ⟨#[109]⟩,.string ⟨#[108]⟩,.slice (some ⟨g+1,0,none⟩) 1 1,.slice (some ⟨g+1+1,0,none⟩) 1 1] w3 fun e w'=>SavPost w w3 w' 400 512 b s O 0 (fun _=>none) 0 [109] [108] [flK] [prK] e from
  save_any HS3.out [109] [108] (by decide) (by decide) [⟨flK,.slice (some ⟨g,0,none⟩) 1 1⟩] _ ⟨⟨_,_,rfl⟩,.inr ⟨51,.inr ⟨g+1,0,1,_,_,rfl,Nat.le_refl _,by unfold maxLen;omega,fun f=>f,h1,Nat.le_refl _,fun i hi=>by
   match i,hi with
   | 0,_=>rfl
   | 1,_=>rfl
   | 2,_=>rfl
   | k+3,h=>exact absurd h (by simp [FlX.cells])⟩⟩⟩ (fun x hx=>by
   rw [List.mem_singleton.1 hx]
   exact ⟨⟨_,_,rfl⟩,.inr ⟨5,.inr ⟨g,0,1,_,_,rfl,Nat.le_refl _,by unfold maxLen;omega,fun f=>f,h0,Nat.le_refl _,fun i hi=>by
    match i,hi with
    | 0,_=>rfl
    | k+1,h=>exact absurd h (by simp [flK])⟩⟩⟩) (by simp) (fun x hx=>by
   rw [List.mem_singleton.1 hx]
   exact ⟨by show (3:Nat)<=300;decide,by show (1:Nat)<=500;decide⟩) [prK] _ (by decide) (.inr ⟨g+1+1,0,1,_,_,rfl,Nat.le_refl _,by unfold maxLen;omega,fun f=>f,h2,by decide,fun i hi=>by
    match i,hi with
    | 0,_=>rfl
    | 1,_=>rfl
    | 2,_=>rfl
    | k+3,h=>exact absurd h (by simp [prCells])⟩) (fun p hp=>by rw [List.mem_singleton.1 hp];decide) (by decide) (by decide) (HGL.out.stay hm03 (fun f=>f)) (fun t ht=>by
   have h9:=ofK
   have h8:ofT [flK]=.inl t:=ht
   rw [h9] at h8
   cases h8
   exact ⟨mpK_sm.mid (by decide),mpK_sm.fits (by decide) (by decide)⟩))
 clear hg hw3 h0 h1 h2 m3 kc HS2 hm03
 with_reducible refine HSV.out.mono ?_
 rintro e w4 hsp
 unfold SavPost at hsp
 rw [ofK] at hsp
 obtain ⟨rfl,O4,hs4,-,-⟩:=hsp
 have HS4:=zh (show Sto w w4 400 512 b s O4 4 mpK 1 from hs4)
 clear hs4 HSV HS3
 go_wp2_with fail
 with_reducible refine (HS4.out.reopen [kyM,kyL,kyT,kyX] mpK_sm.only).mono ?_
 rintro e w5 ⟨t,O5,rfl,hs5,-,-⟩
 have HS5:=zh (show Sto w w5 400 512 b t O5 4 mpK 1 from hs5)
 have HLD:=zh (load_any HS5.out (mpK_sm.cak (by decide)) (by decide) (fun ks hk=>by have:=mpK_sm.keysLen hk;omega) (by rw [mpK_sm.t];have:=trK_len;omega))
 clear hs5 HS4
 go_wp2_with fail
 with_reducible refine HLD.out.mono ?_
 rintro e w6 ⟨⟨v,L,rfl,-,hL,hst⟩,hm6⟩
 obtain rfl:L=[]:=List.eq_nil_iff_forall_not_mem.2 fun S hS=>by have:=(hL S).1 hS;cases this
 rw [mpK_sm.m,mpK_sm.l,mpK_tree] at hst
 have HS6:=zh (HS5.out.stay hm6)
 have HST6:=zh hst
 obtain ⟨kv,tv,ys,rfl,-,hk3,hys,hk5,hk6⟩:=hst.no
 obtain ⟨ka,kc,rfl⟩:=hk3.len
 have hyl:ys.length=2:=by
  have:=congrArg List.length hys
  rw [List.length_map] at this
  exact this
 obtain ⟨tb,tf,tc,rfl,-⟩:=hk5.shape (by omega)
 have hdir:w6.cell? ⟨tb,tf+1,none⟩=some (.bool true):=by
  obtain ⟨-,q1,-⟩:=fls_cells hk5 (k:=0) (by omega)
  have e:ys[0].f.dir=true:=by
   have h9:(ys.map FlX.f)[0]? = trK[0]?:=by rw [hys]
   rw [List.getElem?_map,List.getElem?_eq_getElem (by omega)] at h9
   have h8:=Option.some.inj h9
   rw [h8]
  rw [e] at q1
  simpa using q1
 rw [hyl] at HST6 ⊢
 clear hL hm6 HLD HS5 hk3 hk5 hk6 hys hyl
 obtain ⟨gs,hgs⟩:∃ g,g=w6.heap.size:=⟨_,rfl⟩
 obtain ⟨w7,hw7⟩:∃ y,y=w6.alloc (.cells #[.string ⟨#[109]⟩,.string ⟨#[108]⟩,.slice ka 0 kc,.slice (some ⟨tb,tf,none⟩) 2 tc] 38):=⟨_,rfl⟩
 have m7:Mod No w6 w7:=by rw [hw7];exact (Mod.refl No w6).alloc _
 have h7:w7.heap[gs]? = some (.cells #[.string ⟨#[109]⟩,.string ⟨#[108]⟩,.slice ka 0 kc,.slice (some ⟨tb,tf,none⟩) 2 tc] 38 (0,0)):=by rw [hw7,hgs];exact heap_alloc_new w6 _
 have HS7:=zh (HS6.out.stay m7)
 have HST7:=zh (show StaAt w7 (fun q=>q < w5.heap.size) (.agg #[.string ⟨#[109]⟩,.string ⟨#[108]⟩,.slice ka 0 kc,.slice (some ⟨tb,tf,none⟩) 2 tc]) [109] [108] [] trK from HST6.out.stay m7)
 have HD7:=zh (m7.cell hdir (fun f=>f))
 have HW7:=zh hw7
 have HGS:=zh hgs
 have H7:=zh h7
 have HGX:=zh (show Calls prog 21 #[.pointer (some ⟨t,0,none⟩),.string ⟨#[120,47,121]⟩] w7 fun e w'=>e=.returned (.tuple #[.string ⟨#[49]⟩,.bool true])/\w'=w7 from by
  have h9:=HS7.out.get kyX (by decide)
  unfold getV at h9
  rw [mpK_x] at h9
  exact h9)
 have hs7:=HS7.out.mod
 have HGL7:=zh (HGL.out.stay hs7 (fun f=>f))
 clear hdir m7 h7 hw7 hgs HS6 HST6 HGL hs7
 go_upto_region 10 with fail
 rw [show strV [109]=.string ⟨#[109]⟩ from rfl,show strV [108]=.string ⟨#[108]⟩ from rfl]
 (try simp only [List.length_nil])
 rw [<- HGS.out,<- HW7.out]
 go_wp2_with fail
 with_reducible refine HGX.out.mono ?_
 rintro e w8 ⟨rfl,rfl⟩
 have a0:w8.cell? ⟨gs,0,none⟩=some (.string ⟨#[109]⟩):=cell_ofA H7.out rfl
 have a1:w8.cell? ⟨gs,1,none⟩=some (.string ⟨#[108]⟩):=cell_ofA H7.out rfl
 have a2:w8.cell? ⟨gs,2,none⟩=some (.slice ka 0 kc):=cell_ofA H7.out rfl
 have a3:w8.cell? ⟨gs,3,none⟩=some (.slice (some ⟨tb,tf,none⟩) 2 tc):=cell_ofA H7.out rfl
 have a4:=HD7.out
 clear HGX
 go_wp2_with fail
 with_reducible refine (same_any HST7.out HST7.out).mono ?_
 rintro e w9 ⟨rfl,hm9⟩
 have HM9:=zh (HS7.out.mod.trans hm9)
 have h9:=hm9.keep H7.out (fun f=>f)
 have b0:w9.cell? ⟨gs,0,none⟩=some (.string ⟨#[109]⟩):=cell_ofA h9 rfl
 have b1:w9.cell? ⟨gs,1,none⟩=some (.string ⟨#[108]⟩):=cell_ofA h9 rfl
 have b2:w9.cell? ⟨gs,2,none⟩=some (.slice ka 0 kc):=cell_ofA h9 rfl
 have b3:w9.cell? ⟨gs,3,none⟩=some (.slice (some ⟨tb,tf,none⟩) 2 tc):=cell_ofA h9 rfl
 have HHE:=zh (held_ml (HST7.out.stay hm9) (HGL7.out.stay hm9 (fun f=>f)))
 clear hm9 h9 a0 a1 a2 a3 a4
 go_wp2_with fail
 with_reducible refine HHE.out.mono ?_
 rintro e w10 ⟨rfl,hm10⟩
 have HM10:=zh (HM9.out.trans hm10)
 clear hm10 b0 b1 b2 b3 HHE
 go_wp2_with fail
 with_reducible refine (held_none w10).mono ?_
 rintro e w11 ⟨rfl,hm11⟩
 have HM11:=zh (HM10.out.trans hm11)
 clear hm11
 go_wp2_with fail
 exact fin hR ⟨rfl,HM11.out⟩
set_option maxRecDepth 100000 in
set_option maxHeartbeats 16000000 in
theorem beside_walk (m l key val:List UInt8) (xs:List FlX) (v:Value) (w:World) (hv:SvX w No v xs.length (xs.flatMap FlX.cells)) (hx:∀ x ∈ xs,FlIn w x) (hgl:Gl w) :
  Calls prog 3 #[strV m,strV l,v,strV key,strV val] w fun e w'=>e=.returned (.bool true)/\Mod No w w':=by
 refine calls_hide fun R hR=>?_
 have HV:=zh hv
 have HX:=zh hx
 have HGL:=zh hgl
 have HKN:=zh (known_any w hgl)
 obtain ⟨va,vc,rfl⟩:=hv.1
 have z1:=str_len3 m
 have z2:=str_len3 l
 have z3:=str_len3 key
 have z4:=str_len3 val
 obtain ⟨PM,hPM⟩:∃ P:ByteArray,P=⟨m.toArray⟩:=⟨_,rfl⟩
 obtain ⟨PL,hPL⟩:∃ P:ByteArray,P=⟨l.toArray⟩:=⟨_,rfl⟩
 obtain ⟨PK,hPK⟩:∃ P:ByteArray,P=⟨key.toArray⟩:=⟨_,rfl⟩
 obtain ⟨PV,hPV⟩:∃ P:ByteArray,P=⟨val.toArray⟩:=⟨_,rfl⟩
 unfold strV
 rw [<- hPM] at z1 ⊢
 rw [<- hPL] at z2 ⊢
 rw [<- hPK] at z3 ⊢
 rw [<- hPV] at z4 ⊢
 have HPP:=zh (And.intro hPM (And.intro hPL (And.intro hPK hPV)))
 clear hv hx hgl hPM hPL hPK hPV
 go_enter func3,ntmps3
 go_wp2_with fail
 with_reducible refine HKN.out.mono ?_
 rintro e w1 ⟨rfl,hm1⟩
 have HM1:=zh hm1
 have HLF:=zh (lightfiles_any xs (.slice va xs.length vc) w1 (HV.out.kn hm1) (fun x hx=>(HX.out x hx).no hm1))
 clear hm1 HKN
 have t1:(200:Int) < (m.length:Int)\/¬ (200:Int) < (m.length:Int):=Decidable.em _
 have t2:(200:Int) < (l.length:Int)\/¬ (200:Int) < (l.length:Int):=Decidable.em _
 have t3:(50:Int) < (key.length:Int)\/¬ (50:Int) < (key.length:Int):=Decidable.em _
 have t4:(100:Int) < (val.length:Int)\/¬ (100:Int) < (val.length:Int):=Decidable.em _
 rcases t1 with t1 | t1
 ·clear t2 t3 t4
  go_wp2_with fail
  exact fin hR ⟨rfl,HM1.out⟩
 rcases t2 with t2 | t2
 ·clear t3 t4
  go_wp2_with fail
  exact fin hR ⟨rfl,HM1.out⟩
 go_wp2_with fail
 with_reducible refine HLF.out.mono ?_
 rintro e w2 ⟨⟨bl,rfl,hbl⟩,hm2⟩
 have HM2:=zh (HM1.out.trans hm2)
 clear hm2 HLF
 cases bl with
 | false =>
  clear hbl t3 t4
  go_wp2_with fail
  exact fin hR ⟨rfl,HM2.out⟩
 | true =>
  have HBL:=zh (hbl.1 rfl)
  clear hbl
  rcases t3 with t3 | t3
  ·clear t4
   go_wp2_with fail
   exact fin hR ⟨rfl,HM2.out⟩
  rcases t4 with t4 | t4
  ·go_wp2_with fail
   exact fin hR ⟨rfl,HM2.out⟩
  have HLN:=zh (show m.length<=1000/\l.length<=1000/\key.length<=50/\val.length<=100 by omega)
  go_wp2_with fail
  with_reducible refine (disk_new No 1000 512 w2 (no_ltS w2)).mono ?_
  rintro e w3 ⟨b1,sb1,mb1,rfl,hb1,hb2,hb3,hd1,hm3⟩
  have hmw3:Mod No w w3:=HM2.out.trans hm3
  have hle2:=HM2.out.size
  have HD1:=zh (And.intro hd1 (And.intro (show w.heap.size<=b1/\w.heap.size<=sb1/\w.heap.size<=mb1 by omega) hmw3))
  clear hb1 hb2 hb3 hd1 hm3 hmw3 hle2
  go_wp2_with fail
  with_reducible refine (Sto.first (w0:=w) (n:=1000) (z:=512) (N:=1000) (sz:=512) (by decide) (by decide) (by decide) (by decide) HD1.out.1 HD1.out.2.1 HD1.out.2.2).mono ?_
  rintro e w4 ⟨s1,O1,rfl,hs1,-,-⟩
  have H1:=zh hs1
  clear hs1 HD1
  go_wp2_with fail
  with_reducible refine (disk_new No 1000 512 w4 (no_ltS w4)).mono ?_
  rintro e w5 ⟨b2,sb2,mb2,rfl,hb1,hb2,hb3,hd1,hm5⟩
  have hmw5:Mod No w w5:=H1.out.mod.trans hm5
  have hle4:=H1.out.mod.size
  have H15:=zh (H1.out.stay hm5)
  have HD2:=zh (And.intro hd1 (And.intro (show w.heap.size<=b2/\w.heap.size<=sb2/\w.heap.size<=mb2 by omega) hmw5))
  have HHI:=zh (show w4.heap.size<=b2/\w4.heap.size<=sb2/\w4.heap.size<=mb2 from ⟨hb1,hb2,hb3⟩)
  have HSZ5:=zh hm5.size
  clear hb1 hb2 hb3 hd1 hm5 hmw5 hle4
  go_wp2_with fail
  with_reducible refine (Sto.first (w0:=w) (n:=1000) (z:=512) (N:=1000) (sz:=512) (by decide) (by decide) (by decide) (by decide) HD2.out.1 HD2.out.2.1 HD2.out.2.2).mono ?_
  rintro e w6 ⟨s2,O2,rfl,hs2,ho2,hm6⟩
  have HDJ:=zh (show ∀ q,O1 q->¬ O2 q from fun q h1 h2=>by
   have h3:=H1.out.high q h1
   have h4:=ho2 q (Nat.lt_of_lt_of_le h3 HSZ5.out) h2
   have h5:=HHI.out
   rcases h4 with h4 | h4 | h4 <;> omega)
  have HA:=zh (H15.out.stay hm6)
  have HB:=zh hs2
  obtain ⟨xk,hxk⟩:∃ x,x=[120,47]++key:=⟨_,rfl⟩
  obtain ⟨xk2,hxk2⟩:∃ x,x=xk++[50]:=⟨_,rfl⟩
  have HKK:=zh (show ∀ k ∈ [xk,xk2],k.length<=100/\k ≠ kyM/\k ≠ kyL/\k ≠ kyT/\pref [99,47] k=false from fun k hk=>by
   have h1:=HLN.out
   have e1:∃ r:List UInt8,k=120 :: 47 :: r/\r.length<=51:=by
    simp only [List.mem_cons,List.not_mem_nil,or_false] at hk
    rcases hk with rfl | rfl
    ·exact ⟨key,by rw [hxk];rfl,by omega⟩
    ·exact ⟨key++[50],by rw [hxk2,hxk];rfl,by rw [List.length_append];simp;omega⟩
   obtain ⟨r,rfl,hr⟩:=e1
   refine ⟨by simp;omega,?_,?_,?_,?_⟩
   ·intro e;cases e
   ·intro e;cases e
   ·intro e;cases e
   ·simp [pref])
  have HSM0:=zh (SM.first (K:=[xk,xk2]) (by simp) (fun k hk=>by have:=HKK.out k hk;exact ⟨this.1,this.2.1,this.2.2.1,this.2.2.2.1⟩) 180000)
  clear hs2 ho2 hm6 H1 H15 HD2 HHI HSZ5
  obtain ⟨fl,hfl⟩:∃ fl,fl=xs.map FlX.f:=⟨_,rfl⟩
  have HSV1:=zh (show Calls prog 10 #[.pointer (some ⟨s1,0,none⟩),.string PM,.string PL,.slice va xs.length vc,.slice none 0 0] w6 _ from by
   have h9:=save_uni (old:=([],[],[])) HA.out HB.out HDJ.out HSM0.out (by decide) (by decide) (by decide) m l HLN.out.1 HLN.out.2.1 xs (.slice va xs.length vc) (HV.out.kn HA.out.mod) (fun x hx=>(HX.out x hx).no HA.out.mod) HBL.out.1 HBL.out.2 [] (.slice none 0 0) (by decide) (.inl ⟨rfl,rfl,rfl⟩) (fun p hp=>by cases hp) (by decide) (by decide) (HGL.out.stay HA.out.mod (fun f=>f))
   rw [HPP.out.1,HPP.out.2.1]
   rw [<- hfl] at h9
   exact h9)
  go_wp2_with fail
  with_reducible refine HSV1.out.mono ?_
  rintro e w7 ⟨rfl,P1,n1,M1,c1,ha7,hb7,hd7,hm7,hs7,hn7,hc7⟩
  have HA7:=zh ha7
  have HB7:=zh hb7
  have HD7:=zh hd7
  have HS7:=zh hs7
  have HN7:=zh (show n1<=3/\c1<=1 from ⟨hn7,hc7⟩)
  clear ha7 hb7 hd7 hm7 hs7 hn7 hc7 HSV1 HA HB HDJ
  obtain ⟨XK,hXK⟩:∃ X:ByteArray,X=⟨xk.toArray⟩:=⟨_,rfl⟩
  obtain ⟨XK2,hXK2⟩:∃ X:ByteArray,X=⟨xk2.toArray⟩:=⟨_,rfl⟩
  have ec1:(⟨#[120,47]⟩:ByteArray)++PK=XK:=by
   rw [hXK,hxk,HPP.out.2.2.1]
   apply ByteArray.ext
   rw [ByteArray.data_append]
   simp
  have ec2:XK++(⟨#[50]⟩:ByteArray)=XK2:=by
   rw [hXK2,hxk2,hXK]
   apply ByteArray.ext
   rw [ByteArray.data_append]
   simp
  have zk:XK.size=xk.length:=by rw [hXK];exact str_len3 xk
  have zk2:xk.length<=52:=by rw [hxk];simp;omega
  have HXK:=zh (And.intro hXK hXK2)
  clear hXK hXK2 hxk hxk2
  obtain ⟨w8,hw8⟩:∃ y,y=w7.alloc (.cells #[.string XK,.string PV,.bool false,.string XK2,.string ⟨#[]⟩,.bool true] 33):=⟨_,rfl⟩
  have m8:Mod No w7 w8:=by rw [hw8];exact (Mod.refl No w7).alloc _
  have h8:w8.heap[w7.heap.size]? = some (.cells #[.string XK,.string PV,.bool false,.string XK2,.string ⟨#[]⟩,.bool true] 33 (0,0)):=by rw [hw8];exact heap_alloc_new w7 _
  have HA8:=zh (HA7.out.stay m8)
  have HB8:=zh (HB7.out.stay m8)
  have HW8:=zh hw8
  have HPS:=zh (show prCells [⟨xk,val,false⟩,⟨xk2,[],true⟩]=[.string XK,.string PV,.bool false,.string XK2,.string ⟨#[]⟩,.bool true] from by rw [HXK.out.1,HXK.out.2,HPP.out.2.2.2];rfl)
  have HSV2:=zh (show Calls prog 10 #[.pointer (some ⟨s2,0,none⟩),.string PM,.string PL,.slice va xs.length vc,.slice (some ⟨w7.heap.size,0,none⟩) 2 2] w8 _ from by
   have h9:=save_uni (old:=([],[],[])) HB8.out HA8.out (fun q e f=>HD7.out q f e) HSM0.out (by decide) (by decide) (by decide) m l HLN.out.1 HLN.out.2.1 xs (.slice va xs.length vc) (HV.out.kn HA8.out.mod) (fun x hx=>(HX.out x hx).no HA8.out.mod) HBL.out.1 HBL.out.2 [⟨xk,val,false⟩,⟨xk2,[],true⟩] (.slice (some ⟨w7.heap.size,0,none⟩) 2 2) (by simp) (by
    rw [HPS.out]
    exact .inr ⟨w7.heap.size,0,2,_,_,rfl,Nat.le_refl _,by unfold maxLen;omega,fun f=>f,h8,by simp,fun i hi=>by simp⟩) (fun p hp=>by
     have h3:=HLN.out
     simp only [List.mem_cons,List.not_mem_nil,or_false] at hp
     rcases hp with rfl | rfl
     ·exact ⟨by simp,by show val.length<=1000;omega⟩
     ·exact ⟨by simp,by simp⟩) (by simp) (by decide) (HGL.out.stay HA8.out.mod (fun f=>f))
   rw [HPP.out.1,HPP.out.2.1]
   rw [<- hfl] at h9
   exact h9)
  clear hw8 m8 h8 HA7 HB7
  go_wp2_with fail
  rw [<- HW8.out]
  with_reducible refine HSV2.out.mono ?_
  rintro e w9 ⟨rfl,P2,n2,M2,c2,hb9,ha9,hd9,hm9,hs9,hn9,hc9⟩
  have HA9:=zh ha9
  have HB9:=zh hb9
  have HD9:=zh hd9
  have HS9:=zh hs9
  have HN9:=zh (show n2<=5/\c2<=1 from ⟨hn9,hc9⟩)
  clear ha9 hb9 hd9 hm9 hs9 hn9 hc9 HSV2 HA8 HB8 HD7 HW8 HPS ec2
  obtain ⟨w10,hw10⟩:∃ y,y=w9.alloc (.cells #[.string XK,.string PV,.bool false] 33):=⟨_,rfl⟩
  have m10:Mod No w9 w10:=by rw [hw10];exact (Mod.refl No w9).alloc _
  have h10:w10.heap[w9.heap.size]? = some (.cells #[.string XK,.string PV,.bool false] 33 (0,0)):=by rw [hw10];exact heap_alloc_new w9 _
  have HA10:=zh (HA9.out.stay m10)
  have HB10:=zh (HB9.out.stay m10)
  have HW10:=zh hw10
  have hsc:SM (M1.changes [⟨xk,val,false⟩]) [xk,xk2] 180000 _ _ _:=SM.changes HS7.out (fun p hp=>by
   rw [List.mem_singleton.1 hp]
   exact ⟨by simp,by show val.length<=1000;have:=HLN.out;omega⟩)
  have HAP:=zh (show Calls prog 11 #[.pointer (some ⟨s1,0,none⟩),.slice (some ⟨w9.heap.size,0,none⟩) 1 1] w10 _ from
   apply_two (c:=1) (l:=[⟨xk,val,false⟩]) HA10.out HB10.out (fun q e f=>HD9.out q f e) (prs_one (X:=No) (by rw [h10,HXK.out.1,HPP.out.2.2.2]) (fun f=>f)) (fun p hp=>by
    rw [List.mem_singleton.1 hp]
    have h3:=HLN.out
    exact ⟨by show xk.length<=_;omega,by show val.length<=_;omega⟩) (hsc.mid (by decide)) (hsc.fits (by decide) (by decide)) (by simp) (by have:=HN7.out.1;simp;omega) (by have:=HN7.out.2;omega))
  have HSC:=zh hsc
  clear hw10 m10 h10 hsc HA9 HB9
  go_wp2_with fail
  rw [<- HW10.out]
  with_reducible refine HAP.out.mono ?_
  rintro e w11 ⟨rfl,P3,ha11,hb11,hd11,hm11⟩
  have HA11:=zh ha11
  have HB11:=zh hb11
  have HD11:=zh hd11
  have HN11:=zh (show n1 + [(⟨xk,val,false⟩:Pr)].length<=4 from by have:=HN7.out.1;simp;omega)
  clear ha11 hb11 hd11 hm11 HAP HA10 HB10 HD9 HW10 ec1 zk zk2
  have hq1:∀ k ∈ [xk,xk2],pref [99,47] k=false:=fun k hk=>(HKK.out k hk).2.2.2.2
  have HL1:=zh (load_sm HA11.out HSC.out (by decide) hq1 (by have:=HN11.out;omega))
  have HL2:=zh (fun W (hm:Mod No w11 W)=>load_sm (HB11.out.stay hm) HS9.out (by decide) hq1 (by have:=HN9.out;omega))
  obtain ⟨m1,hm1⟩:∃ x,x=(resT fl m l ([],[],[])).1:=⟨_,rfl⟩
  obtain ⟨l1,hl1⟩:∃ x,x=(resT fl m l ([],[],[])).2.1:=⟨_,rfl⟩
  obtain ⟨tb1,htb1⟩:∃ x,x=(resT fl m l ([],[],[])).2.2:=⟨_,rfl⟩
  rw [<- hm1,<- hl1,<- htb1] at HL1 HL2
  have HRS:=zh (show resT fl m l ([],[],[])=(m1,l1,tb1) by rw [hm1,hl1,htb1])
  clear hm1 hl1 htb1 hq1
  go_wp2_with fail
  with_reducible refine HL1.out.mono ?_
  rintro e w12 ⟨⟨v12,rfl,hst12⟩,hm12⟩
  have HST12:=zh hst12.no
  have HM12:=zh hm12
  have HL2w:=zh (HL2.out w12 hm12)
  clear hst12 hm12 HL1
  go_wp2_with fail
  with_reducible refine HL2w.out.mono ?_
  rintro e w13 ⟨⟨v13,rfl,hst13⟩,hm13⟩
  have HEQ:=zh (hstate_any (HST12.out.stay hm13) hst13)
  have HM13:=zh (HM12.out.trans hm13)
  clear hst13 hm13 HL2w
  go_wp2_with fail
  with_reducible refine HEQ.out.mono ?_
  rintro e w14 ⟨rfl,hm14⟩
  have HM14:=zh (HM13.out.trans hm14)
  have HA14:=zh (HA11.out.stay HM14.out)
  have HB14:=zh (HB11.out.stay HM14.out)
  clear hm14 HEQ HST12
  have HL3:=zh (load_sm HA14.out HSC.out (by decide) (fun k hk=>(HKK.out k hk).2.2.2.2) (by have:=HN11.out;omega))
  rw [HRS.out] at HL3
  have HSC1:=zh (show SM _ [xk,xk2] 180000 m1 l1 tb1 from by have h9:=HSC.out;rw [HRS.out] at h9;exact h9)
  have HS91:=zh (show SM M2 [xk,xk2] 180000 m1 l1 tb1 from by have h9:=HS9.out;rw [HRS.out] at h9;exact h9)
  clear HSC HS9 HS7 HL2 HA11 HB11
  go_wp2_with fail
  with_reducible refine HL3.out.mono ?_
  rintro e w15 ⟨⟨v15,rfl,hst15⟩,hm15⟩
  have HST15:=zh hst15
  have HM15:=zh hm15
  obtain ⟨kv,tv,ys,rfl,-,hk3,-,hk5,-⟩:=hst15
  obtain ⟨ka,kc,rfl⟩:=hk3.len
  obtain ⟨ta,tc,rfl⟩:=hk5.len
  obtain ⟨kn,hkn⟩:∃ kn,kn=([]:List (List UInt8)).length:=⟨_,rfl⟩
  rw [<- hkn] at HST15 ⊢
  generalize ys.length=tn at *
  clear hk3 hk5 hm15 hkn HL3
  obtain ⟨gs,hgs⟩:∃ g,g=w15.heap.size:=⟨_,rfl⟩
  obtain ⟨w16,hw16⟩:∃ y,y=w15.alloc (.cells #[strV m1,strV l1,.slice ka kn kc,.slice ta tn tc] 38):=⟨_,rfl⟩
  have m16:Mod No w15 w16:=by rw [hw16];exact (Mod.refl No w15).alloc _
  have HG16:=zh (show w16.heap[gs]? = some (.cells #[strV m1,strV l1,.slice ka kn kc,.slice ta tn tc] 38 (0,0)) by rw [hw16,hgs];exact heap_alloc_new w15 _)
  have HM16:=zh (HM15.out.trans m16)
  have HA16:=zh (HA14.out.stay HM16.out)
  have HB16:=zh (HB14.out.stay HM16.out)
  have HST16:=zh (HST15.out.stay m16)
  have HLT:=zh (show ∀ q,P3 q->q < w14.heap.size/\q ≠ gs from fun q h=>by
   have h1:=HA14.out.high q h
   have h2:=HM15.out.size
   omega)
  have HW16:=zh hw16
  have HGS:=zh hgs
  have HSV3:=zh (show Calls prog 10 #[.pointer (some ⟨s1,0,none⟩),.string PM,.string PL,.slice va xs.length vc,.slice none 0 0] w16 _ from by
   have h9:=save_uni (old:=(m1,l1,tb1)) HA16.out HB16.out HD11.out HSC1.out (by decide) (by decide) (by decide) m l HLN.out.1 HLN.out.2.1 xs (.slice va xs.length vc) (HV.out.kn HA16.out.mod) (fun x hx=>(HX.out x hx).no HA16.out.mod) HBL.out.1 HBL.out.2 [] (.slice none 0 0) (by decide) (.inl ⟨rfl,rfl,rfl⟩) (fun p hp=>by cases hp) (by have:=HN11.out;simp only [List.length_nil];omega) (by have:=HN7.out.2;omega) (HGL.out.stay HA16.out.mod (fun f=>f))
   rw [HPP.out.1,HPP.out.2.1]
   rw [<- hfl,show resT fl m l (m1,l1,tb1)=(m1,l1,tb1) by rw [<- HRS.out];exact resT_twice fl m l _] at h9
   exact h9)
  clear hw16 m16 hgs HA14 HB14 HST15
  go_upto_region 13 with fail
  rw [<- HGS.out]
  (try unfold strV at *)
  rw [<- HW16.out]
  go_wp2_with fail
  with_reducible refine HSV3.out.mono ?_
  rintro e w17 ⟨rfl,P4,n4,M4,c4,ha17,hb17,-,hm17,hs17,hn17,-⟩
  have HG17:=zh (hm17.keep HG16.out (fun h=>(HLT.out gs h).2 rfl))
  have HST17:=zh (HST16.out.keep hm17 (fun q h=>(HLT.out q h).1))
  have HA17:=zh ha17
  have HB17:=zh hb17
  have HS17:=zh hs17
  have HN17:=zh (show n4<=100 from by have:=HN11.out;simp only [List.length_nil] at hn17;omega)
  clear ha17 hb17 hm17 hs17 hn17 HSV3 HA16 HB16 HST16 HG16
  go_upto_region 14 with fail
  obtain ⟨wD,hwD⟩:∃ y,y=w17.drew:=⟨_,rfl⟩
  have hmD:Mod No w17 wD:=by rw [hwD];exact (Mod.refl No w17).drew
  have HLA:=zh (load_sm (HA17.out.stay hmD) HS17.out (by decide) (fun k hk=>(HKK.out k hk).2.2.2.2) (by have:=HN17.out;omega))
  have HLB:=zh (fun W (hm:Mod No wD W)=>load_sm ((HB17.out.stay hmD).stay hm) HS91.out (by decide) (fun k hk=>(HKK.out k hk).2.2.2.2) (by have:=HN9.out;omega))
  have HWAS:=zh (HST17.out.stay hmD)
  have HMD0:=zh (HA17.out.mod.trans hmD)
  have hS0:=hmD.keep HG17.out (fun f=>f)
  have HWD:=zh hwD
  clear hwD hmD HA17 HB17 HST17 HG17
  refine wp_region_T (fun w'=>w'.heap[gs]? = some (.cells #[.string ⟨m1.toArray⟩,.string ⟨l1.toArray⟩,.slice ka kn kc,.slice ta tn tc] 38 (0,0))) 99 (by kernel_rfl) ?_
  rw [<- HWD.out]
  refine yT 0 (some 97) ?_ hS0 ?_ ?_
  rotate_left
  ·(intro w' hSw;go_simp;try with_reducible rfl)
  simp only [Act.put,yB,yC,yD]
  refine yT 2 (some 99) (.agg #[.string ⟨m1.toArray⟩,.string ⟨l1.toArray⟩,.slice ka kn kc,.slice ta tn tc]) hS0 ?_ ?_
  ·(intro w' hSw;apply yloadv (by have h9:=run_loadVar_row (P:=prog) w' gs 38 38 #[.string ⟨m1.toArray⟩,.string ⟨l1.toArray⟩,.slice ka kn kc,.slice ta tn tc] (0,0) _ hSw underlying38 rfl (by kernel_rfl);exact h9) (.tmp 17) <;> rfl)
  simp only [Act.put,yB,yC,yD]
  refine wpAnyT_one 1 rfl (by kernel_rfl) rfl ?_
  intro K hK
  go_simp
  with_reducible refine (HLA.out).mono ?_
  rintro e wE ⟨⟨va,rfl,hsa⟩,hmE⟩
  have HSA:=zh hsa
  have HME:=zh hmE
  clear hsa hmE HLA
  show K _ _
  have hS1:=(HME.out.keep hS0 (fun f=>f))
  refine hK.out _ _ (fun _=>hS1) ?_
  clear hK K
  refine wpAnyT_one 3 rfl (by kernel_rfl) rfl ?_
  intro K hK
  go_simp
  with_reducible refine (hstate_any HSA.out (HWAS.out.stay HME.out)).mono ?_
  rintro e wF ⟨rfl,hmF⟩
  have HMF:=zh (HME.out.trans hmF)
  clear hmF
  show K _ _
  have hS2:=(HMF.out.keep hS0 (fun f=>f))
  refine hK.out _ _ (fun _=>hS2) ?_
  clear hK K
  refine yT 4 (some 101) ?_ hS2 ?_ ?_
  rotate_left
  ·(intro w' hSw;go_simp;try with_reducible rfl)
  simp only [Act.put,yB,yC,yD]
  refine yT 5 (some 102) (.agg #[.string ⟨m1.toArray⟩,.string ⟨l1.toArray⟩,.slice ka kn kc,.slice ta tn tc]) hS2 ?_ ?_
  ·(intro w' hSw;apply yloadv (by have h9:=run_loadVar_row (P:=prog) w' gs 38 38 #[.string ⟨m1.toArray⟩,.string ⟨l1.toArray⟩,.slice ka kn kc,.slice ta tn tc] (0,0) _ hSw underlying38 rfl (by kernel_rfl);exact h9) (.tmp 17) <;> rfl)
  simp only [Act.put,yB,yC,yD]
  refine yT 6 (some 103) ?_ hS2 ?_ ?_
  rotate_left
  ·(intro w' hSw;go_simp;try with_reducible rfl)
  simp only [Act.put,yB,yC,yD]
  refine wpAnyT_oneW 7 rfl (by kernel_rfl) (by rfl) ?_
  intro K hK
  go_simp
  with_reducible refine (HLB.out wF HMF.out).mono ?_
  rintro e wG ⟨⟨vb,rfl,hsb⟩,hmG⟩
  have HSB:=zh hsb
  have HMG:=zh (HMF.out.trans hmG)
  clear hsb hmG HLB
  show K _ _
  have hS3:=(HMG.out.keep hS0 (fun f=>f))
  refine hK.out _ _ (fun _=>hS3) ?_
  clear hK K
  refine wpAnyT_oneW 8 rfl (by kernel_rfl) (by rfl) ?_
  intro K hK
  go_simp
  with_reducible refine (same_any (HWAS.out.stay HMG.out) HSB.out).mono ?_
  rintro e wH ⟨rfl,hmH⟩
  have HMH:=zh (HMG.out.trans hmH)
  clear hmH
  show K _ _
  have hS4:=(HMH.out.keep hS0 (fun f=>f))
  refine hK.out _ _ (fun _=>hS4) ?_
  clear hK K
  refine yT 9 (some 106) ?_ hS4 ?_ ?_
  rotate_left
  ·(intro w' hSw;go_simp;try with_reducible rfl)
  simp only [Act.put,yB,yC,yD]
  refine yT 10 (some 10) ?_ hS4 ?_ ?_
  rotate_left
  ·(intro w' hSw;go_simp;try with_reducible rfl)
  simp only [Act.put]
  refine wpAnyT_done (by kernel_rfl) ?_ _
  clear hS0 hS1 hS2 hS3 hS4
  go_wp2_with fail
  exact fin hR ⟨rfl,HMD0.out.trans HMH.out⟩
theorem strV_of (s:ByteArray):strV s.data.toList=.string s:=rfl
theorem beside_top {w:World} (pm:ByteArray) (_:pm.size<=maxLen) (pl:ByteArray) (_:pl.size<=maxLen) (a:Option Addr) (len cap:Nat) (xs:List FlX) (h:FlsIn w a len xs) (hc:len<=cap/\cap<=maxLen\/len=0) (pk:ByteArray) (_:pk.size<=maxLen) (pv:ByteArray) (_:pv.size<=maxLen) (hgl:Gl w) :
  Calls prog 3 #[.string pm,.string pl,.slice a len cap,.string pk,.string pv] w fun e w'=>e=.returned (.bool true)/\Mod No w w':=by
 obtain ⟨h1,h2,h3⟩:=h
 have h4:=beside_walk pm.data.toList pl.data.toList pk.data.toList pv.data.toList xs (.slice a len cap) w (by rw [h1];exact h3 cap hc) h2 hgl
 rw [strV_of,strV_of,strV_of,strV_of] at h4
 exact h4
end Go.Proofs.YtmppeipgjcjdkaaGreatDoor
