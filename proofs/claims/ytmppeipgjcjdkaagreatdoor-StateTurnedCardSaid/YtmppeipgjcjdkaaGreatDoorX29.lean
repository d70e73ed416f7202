/-
  Layers 0 to 14: helps of the laws of indexes. No statement is proved here; no condition.
-/
import Derived.Test.YtmppeipgjcjdkaaGreatDoorX28
import Derived.Test.YtmppeipgjcjdkaaGreatDoorX24
namespace Go.Proofs.YtmppeipgjcjdkaaGreatDoor
open _root_.Go.Proofs.Tryz
open Go.RowKit
def wrE (H m at_:Nat) (rs:List (List UInt8)):Int:=if rs.any isLong=true then 42 else if (H - at_)*m < 32+(bodyB rs).length then 40 else 0
theorem Recs.mem_short {rs:List (List UInt8)} (h:rs.any isLong=false):∀ r ∈ rs,r.length<=1048576:=fun r hr=>by
 have h1:=List.any_eq_false.1 h r hr
 unfold isLong at h1
 simp only [decide_eq_true_eq] at h1
 omega
set_option maxRecDepth 100000 in
set_option maxHeartbeats 4000000 in
theorem wwrite_any {b sb mb p ub:Nat} {d:Dk} {w:World} {v:Value} {rs:List (List UInt8)} {turn0 next0 at0 c0:Nat} (turn next at_ m H F:Nat) (hm:d.sz=m+16) (hH:d.n / 2=H) (hF:F=turn % 2*H+at_) (hz:112<=m) (hw:Well d) (h:DkAt w No b sb mb d)
  (hp:w.heap[p]? = some (LgObj b ub turn0 next0 at0 c0)) (hub:Mp w 3 ub (.map [])) (hne:ub ≠ mb) (hv:Recs w No v rs) (hl:rs.length<=1000000000) (ha:at_<=H) (ht:turn < 4611686018427387904) (hn:next+1 < 4611686018427387904) :
  Calls prog 86 #[.pointer (some ⟨p,0,none⟩),.int .u64 (turn:Int),.int .u64 (next:Int),.int .i64 (at_:Int),v] w fun e w' =>
   (wrE H m at_ rs ≠ 0/\e=.returned (.tuple #[.int .i64 0,.int .i64 (wrE H m at_ rs)])/\Mod No w w') ∨
   (wrE H m at_ rs=0/\at_+secs m (32+(bodyB rs).length)<=H/\e=.returned (.tuple #[.int .i64 ((at_+secs m (32+(bodyB rs).length):Nat):Int),.int .i64 0]) ∧
    (∃ d',d'.n=d.n/\d'.sz=d.sz/\Well d'/\DkAt w' No b sb mb d'/\Laid d.last d'.last m turn next F (secs m (32+(bodyB rs).length)) (frameB turn next rs))/\Mp w' 3 ub (.map [])/\Mod (fun q=>Own3 b sb mb q\/q=ub) w w'):=by
 refine calls_hide fun R hR=>?_
 obtain ⟨a,c,rfl⟩:=hv.len
 have hn2:d.n<=4096:=h.n2
 have hz2:d.sz<=4096:=h.s2
 have HC:=zh (contains_any hv hl)
 have c00:=cell_of (i:=0) hp rfl
 have HH:=zh (And.intro hm (And.intro hH hF))
 have HD:=zh (And.intro hw (And.intro h (And.intro hp (And.intro hub hv))))
 have hH2:H<=2048:=by omega
 have hm2:m<=4080:=by omega
 have hM:(H - at_)*m<=2048*4080:=Nat.mul_le_mul (by omega) hm2
 have hMD:(H - at_)*m<=d.n*d.sz:=Nat.mul_le_mul (by omega) (by omega)
 cases hlong:rs.any isLong with
 | true =>
  rw [hlong] at HC
  have HE:=zh (show wrE H m at_ rs=42 by unfold wrE;rw [if_pos hlong])
  clear hw h hp hub hv c00 hm hH hF hlong hMD
  go_enter func86,ntmps86
  go_wp2_with fail
  with_reducible refine HC.out.mono ?_
  rintro e w' ⟨rfl,h2⟩
  subst h2
  go_wp2_with fail
  exact fin hR (.inl ⟨by rw [HE.out];decide,by rw [HE.out];rfl,Mod.refl _ _⟩)
 | false =>
  rw [hlong] at HC
  have hsh:=Recs.mem_short hlong
  have HB:=bytes_any hv (fun r hr=>by have:=hsh r hr;omega) hl h c00
  obtain ⟨N,hN⟩:∃ N,N=min (32+(bodyB rs).length) (d.n*d.sz+1):=⟨_,rfl⟩
  obtain ⟨A,hA⟩:∃ A,A=(H - at_)*m:=⟨_,rfl⟩
  rw [<- hN] at HB
  rw [<- hA] at hM hMD
  have HB:=zh HB
  by_cases hgt:A < 32+(bodyB rs).length
  ·have HE:=zh (show wrE H m at_ rs=40 by unfold wrE;rw [if_neg (by rw [hlong];decide),if_pos (by rw [<- hA];exact hgt)])
   have hAN:(A:Int) < (N:Int):=by omega
   have HA:=zh hA
   clear hw h hp hub hv hm hH hF hlong hMD hsh hN hgt hA c00
   go_enter func86,ntmps86
   go_wp2_with fail
   with_reducible refine HC.out.mono ?_
   rintro e w' ⟨rfl,h2⟩
   subst h2
   go_wp2_with fail
   with_reducible refine HB.out.mono ?_
   rintro e w1 ⟨rfl,hm1⟩
   have HMO:=most_any at_ (by rw [HH.out.2.1];exact ha) (HD.out.2.1.stay hm1) (hm1.cell (cell_of (i:=0) HD.out.2.2.1 rfl) (fun f=>f))
   rw [HH.out.2.1,show d.sz - 16=m by have:=HH.out.1;omega,<- HA.out] at HMO
   have HMO:=zh HMO
   have M1:=zh hm1
   clear hm1
   go_wp2_with fail
   with_reducible refine HMO.out.mono ?_
   rintro e w2 ⟨rfl,h2⟩
   subst h2
   go_wp2_with fail
   exact fin hR (.inl ⟨by rw [HE.out];decide,by rw [HE.out];rfl,M1.out⟩)
  ·have HE:=zh (show wrE H m at_ rs=0 by unfold wrE;rw [if_neg (by rw [hlong];decide),if_neg (by rw [<- hA];exact hgt)])
   have hNB:N=32+(bodyB rs).length:=by omega
   have hNA:(N:Int)<=(A:Int):=by omega
   have hK:secs m (32+(bodyB rs).length)<=H - at_:=secs_le (by omega) (by omega)
   have HA:=zh hA
   have HNB:=zh hNB
   have HSH:=zh hsh
   have HK:=zh hK
   have hN8:N<=2048*4080:=by omega
   have hkI:((secs m N:Nat):Int)<=2048:=by rw [hNB];omega
   have haI:(at_:Int)<=2048:=by omega
   clear hw h hp hub hv hm hH hF hlong hMD hsh hN hgt hA c00 hNB hK
   go_enter func86,ntmps86
   go_wp2_with fail
   with_reducible refine HC.out.mono ?_
   rintro e w' ⟨rfl,h2⟩
   subst h2
   clear HC
   go_wp2_with fail
   with_reducible refine HB.out.mono ?_
   clear HB
   rintro e w1 ⟨rfl,hm1⟩
   have HMO:=most_any at_ (by rw [HH.out.2.1];exact ha) (HD.out.2.1.stay hm1) (hm1.cell (cell_of (i:=0) HD.out.2.2.1 rfl) (fun f=>f))
   rw [HH.out.2.1,show d.sz - 16=m by have:=HH.out.1;omega,<- HA.out] at HMO
   have HMO:=zh HMO
   have HS:=lsecs_any N (by omega) (HD.out.2.1.stay hm1) (hm1.cell (cell_of (i:=0) HD.out.2.2.1 rfl) (fun f=>f))
   rw [show d.sz - 16=m by have:=HH.out.1;omega] at HS
   have HS:=zh HS
   have M1:=zh hm1
   clear hm1
   go_wp2_with fail
   with_reducible refine HMO.out.mono ?_
   clear HMO
   rintro e w2 ⟨rfl,h2⟩
   subst h2
   go_wp2_with fail
   with_reducible refine HS.out.mono ?_
   clear HS
   rintro e w2 ⟨rfl,hm2'⟩
   have m2:=M1.out.trans hm2'
   have HFR:=zh (frame_any turn next (HD.out.2.2.2.2.stay m2) (fun r hr=>by have:=HSH.out r hr;omega) (by have:=HNB.out;omega) hl)
   have M2:=zh m2
   clear hm2' m2 M1
   go_wp2_with fail
   with_reducible refine HFR.out.mono ?_
   clear HFR
   rintro e w3 ⟨v',rfl,hown,hm3⟩
   have m3:=M2.out.trans hm3
   have hfl:=frameB_len turn next rs
   have hLY:=lay_any (v:=v') (B:=frameB turn next rs) turn next at_ m H F (secs m (32+(bodyB rs).length)) (m+16) HH.out.1 rfl HH.out.2.1 HH.out.2.2 (by rw [hfl]) hz HD.out.1 (HD.out.2.1.stay m3) (m3.keep HD.out.2.2.1 (fun f=>f)) (HD.out.2.2.2.1.keep m3 (fun f=>f)) hne (Sl.of_own hown (fun _ _ f=>f)) (by omega) (by have:=HNB.out;omega) (by have:=HK.out;omega) ht hn
   have HLY:=zh hLY
   have M3:=zh m3
   obtain ⟨fa,fc,rfl⟩:=own_len hown
   clear hown hm3 m3 hfl hLY M2
   go_wp2_with fail
   with_reducible refine HLY.out.mono ?_
   clear HLY
   rintro e w4 ⟨rfl,hdk,hmp,hm4⟩
   have HF:=zh (And.intro hdk (And.intro hmp hm4))
   clear hdk hmp hm4
   go_wp2_with fail
   refine fin hR (.inr ⟨HE.out,by have:=HK.out;omega,?_,HF.out.1,HF.out.2.1,(M3.out.weaken fun _ _ f=>f.elim).trans HF.out.2.2⟩)
   rw [<- HNB.out]
   rfl
structure LogHas (w:World) (p b sb mb ub:Nat) (d:Dk) (L:Lg):Prop where
 disk:DkAt w No b sb mb d
 at_:LogAt w p b ub L
 ne:ub ≠ mb
 well:Well d
 n:16<=d.n
 sz:128<=d.sz
 ok:LogOK d.last (d.n / 2) (d.sz - 16) L
theorem LogHas.stay {w w':World} {p b sb mb ub:Nat} {d:Dk} {L:Lg} (h:LogHas w p b sb mb ub d L) (hm:Mod No w w'):LogHas w' p b sb mb ub d L :=
 ⟨h.disk.stay hm,⟨hm.keep h.at_.obj (fun f=>f),h.at_.undone.keep hm (fun f=>f)⟩,h.ne,h.well,h.n,h.sz,h.ok⟩
theorem LogHas.bounds {w:World} {p b sb mb ub:Nat} {d:Dk} {L:Lg} (h:LogHas w p b sb mb ub d L):L.next<=L.at_/\L.at_<=d.n / 2/\d.n / 2<=2048/\d.sz - 16<=4080/\L.all.length<=2048*4080:=by
 have h1:=h.ok.chain.bounds (by have:=h.sz;omega)
 have h2:=h.ok.chain.le (by have:=h.sz;omega)
 have h3:=h.disk.n2
 have h4:=h.disk.s2
 refine ⟨h1.1,h2,by omega,by omega,Nat.le_trans h1.2 (Nat.mul_le_mul (by omega) (by omega))⟩
theorem wrE_ok {H m at_:Nat} {rs:List (List UInt8)} (h:wrE H m at_ rs=0):(∀ r ∈ rs,r.length<=1048576)/\32+(bodyB rs).length<=(H - at_)*m:=by
 unfold wrE at h
 cases hl:rs.any isLong with
 | true=>rw [if_pos hl] at h;exact absurd h (by decide)
 | false =>
  rw [if_neg (by rw [hl];decide)] at h
  refine ⟨Recs.mem_short hl,?_⟩
  split at h
  ·exact absurd h (by decide)
  ·omega
set_option maxRecDepth 100000 in
set_option maxHeartbeats 4000000 in
theorem commit_any {w:World} {p b sb mb ub:Nat} {d:Dk} {L:Lg} {v:Value} {rs:List (List UInt8)} (h:LogHas w p b sb mb ub d L) (hv:Recs w No v rs) (hl:rs.length<=1000000000) :
  Calls prog 33 #[.pointer (some ⟨p,0,none⟩),v] w fun e w'=>e=.returned (.int .i64 (wrE (d.n / 2) (d.sz - 16) L.at_ rs)) ∧
   ((wrE (d.n / 2) (d.sz - 16) L.at_ rs ≠ 0/\Mod No w w')\/(wrE (d.n / 2) (d.sz - 16) L.at_ rs=0/\Mod (fun q=>Own3 b sb mb q\/q=ub\/q=p) w w' ∧
    ∃ d',d'.n=d.n/\d'.sz=d.sz/\LogHas w' p b sb mb ub d' ⟨L.turn,L.next+1,L.at_+secs (d.sz - 16) (32+(bodyB rs).length),L.all++rs⟩)):=by
 refine calls_hide fun R hR=>?_
 obtain ⟨a,c,rfl⟩:=hv.len
 obtain ⟨hb1,hb2,hb3,hb4,hb5⟩:=h.bounds
 have hT:=h.ok.bT
 obtain ⟨m,hm⟩:∃ m,m=d.sz - 16:=⟨_,rfl⟩
 obtain ⟨H,hH⟩:∃ H,H=d.n / 2:=⟨_,rfl⟩
 have hp0:=h.at_.obj
 have hS0:w.drew.cell? ⟨p,1,none⟩=some (.int .u64 (L.turn:Int))/\w.drew.cell? ⟨p,2,none⟩=some (.int .u64 (L.next:Int))/\w.drew.cell? ⟨p,3,none⟩=some (.int .i64 (L.at_:Int)):=⟨cell_of (i:=1) hp0 rfl,cell_of (i:=2) hp0 rfl,cell_of (i:=3) hp0 rfl⟩
 have HWR:=wwrite_any (w:=w.drew) (rs:=rs) (v:=.slice a rs.length c) L.turn L.next L.at_ m H (L.turn % 2*H+L.at_) (by have:=h.sz;omega) hH.symm rfl (by have:=h.sz;omega) h.well (h.disk.stay (Mod.refl No w).drew) hp0 (h.at_.undone.keep (S:=No) (Mod.refl No w).drew (fun f=>f)) h.ne (hv.stay (Mod.refl No w).drew) hl (by omega) hT (by omega)
 have HWR:=zh HWR
 have HL:=zh (And.intro h (And.intro hm hH))
 have hpo:=obj_not_own h.disk hp0 (by decide) (by decide)
 have hpu:p ≠ ub:=fun e=>by subst e;exact mp_not_cells h.at_.undone _ _ _ hp0
 have HPO:=zh (And.intro hpo hpu)
 rw [<- hm,<- hH] at hR
 clear h hv hm hH hp0 hpo hpu
 go_enter func33,ntmps33
 go_upto_region 1 with fail
 refine wp_region_T (fun w'=>w'.cell? ⟨p,1,none⟩=some (.int .u64 (L.turn:Int))/\w'.cell? ⟨p,2,none⟩=some (.int .u64 (L.next:Int))/\w'.cell? ⟨p,3,none⟩=some (.int .i64 (L.at_:Int))) 99 (by kernel_rfl) ?_
 refine yS 0 8 hS0 ?_
 refine yS 1 9 hS0 ?_
 refine yS 2 10 hS0 ?_
 refine yS 3 11 hS0 ?_
 refine yS 4 12 hS0 ?_
 refine yS 5 13 hS0 ?_
 refine yS 6 14 hS0 ?_
 refine yS 7 15 hS0 ?_
 refine yS 8 16 hS0 ?_
 refine yS 9 17 hS0 ?_
 refine yS 10 18 hS0 ?_
 refine yS 11 19 hS0 ?_
 refine yS 12 20 hS0 ?_
 refine yS 13 21 hS0 ?_
 refine wpAnyT_one 14 rfl (by kernel_rfl) rfl ?_
 intro K hK
 go_simp
 go_at_call 86
 with_reducible refine HWR.out.mono ?_
 clear HWR
 rintro e w1 (⟨he,rfl,hm1⟩ | ⟨he,hk,rfl,hdk,hmp,hm1⟩)
 ·have hS1:w1.cell? ⟨p,1,none⟩=some (.int .u64 (L.turn:Int))/\w1.cell? ⟨p,2,none⟩=some (.int .u64 (L.next:Int))/\w1.cell? ⟨p,3,none⟩=some (.int .i64 (L.at_:Int)):=⟨hm1.cell hS0.1 (fun f=>f),hm1.cell hS0.2.1 (fun f=>f),hm1.cell hS0.2.2 (fun f=>f)⟩
  have HE:=zh he
  have M1:=zh hm1
  clear he hm1
  show K _ _
  refine hK.out _ _ (fun _=>hS1) ?_
  clear hK K hS0
  refine yS 15 7 hS1 ?_
  refine yS 16 23 hS1 ?_
  refine yS 17 24 hS1 ?_
  refine yS 18 5 hS1 ?_
  refine yS 19 6 hS1 ?_
  refine wpAnyT_done (by kernel_rfl) ?_ _
  clear hS1
  generalize wrE H m L.at_ rs=x at *
  have hx:=HE.out
  have hx2:(x == 0)=false:=by simpa using hx
  go_wp2_with fail
  exact fin hR ⟨rfl,.inl ⟨HE.out,(Mod.refl No w).drew.trans M1.out⟩⟩
 ·have hpw:=hm1.keep (show w.drew.heap[p]? = some (LgObj b ub L.turn L.next L.at_ L.all.length) from HL.out.1.at_.obj) (fun e=>e.elim HPO.out.1 HPO.out.2)
  have hS1:w1.cell? ⟨p,1,none⟩=some (.int .u64 (L.turn:Int))/\w1.cell? ⟨p,2,none⟩=some (.int .u64 (L.next:Int))/\w1.cell? ⟨p,3,none⟩=some (.int .i64 (L.at_:Int)):=⟨cell_of (i:=1) hpw rfl,cell_of (i:=2) hpw rfl,cell_of (i:=3) hpw rfl⟩
  have HE:=zh he
  have HX:=zh (And.intro hk (And.intro hdk (And.intro hmp hm1)))
  have HPW:=zh hpw
  have k1:((L.at_+secs m (32+(bodyB rs).length):Nat):Int)<=2048:=by have:=HL.out.2.2;omega
  have k0:(0:Int)<=((L.at_+secs m (32+(bodyB rs).length):Nat):Int):=Int.natCast_nonneg _
  obtain ⟨at2,hat2⟩:∃ at2,at2=L.at_+secs m (32+(bodyB rs).length):=⟨_,rfl⟩
  rw [<- hat2] at k0 k1
  rw [<- hat2]
  have HA:=zh hat2
  clear he hk hdk hmp hm1 hpw hat2
  show K _ _
  refine hK.out _ _ (fun _=>hS1) ?_
  clear hK K hS0
  refine yS 15 7 hS1 ?_
  refine yS 16 23 hS1 ?_
  refine yS 17 24 hS1 ?_
  refine yS 18 5 hS1 ?_
  refine yS 19 6 hS1 ?_
  refine wpAnyT_done (by kernel_rfl) ?_ _
  obtain ⟨c1,c2,c3⟩:=hS1
  have c4:=cell_of (i:=4) HPW.out rfl
  have f2:=frozen_of 2 HPW.out
  have f3:=frozen_of 3 HPW.out
  have f4:=frozen_of 4 HPW.out
  go_wp2_with fail
  obtain ⟨hk,⟨d',e1,e2,e3,hdk,hlaid⟩,hmp,hm1⟩:=HX.out
  obtain ⟨w2,hw2⟩:∃ w2,w2=((w1.setCell ⟨p,3,none⟩ (.int .i64 (at2:Int))).setCell ⟨p,2,none⟩ (.int .u64 ((L.next:Int)+1))).setCell ⟨p,4,none⟩ (.int .i64 ((L.all.length:Int)+(rs.length:Int))):=⟨_,rfl⟩
  have hm2:Mod (fun q=>q=p) w1 w2:=by rw [hw2];exact (((Mod.refl (fun q=>q=p) w1).setCell (fun _=>rfl) _).setCell (fun _=>rfl) _).setCell (fun _=>rfl) _
  have hp2:w2.heap[p]? = some (LgObj b ub L.turn (L.next+1) at2 (L.all++rs).length):=by
   rw [hw2,heap_setCell (heap_setCell (heap_setCell HPW.out _) _) _,List.length_append];rfl
  have hwe:=wrE_ok HE.out
  obtain ⟨hL,hm,hH⟩:=HL.out
  refine fin hR ⟨by rw [HE.out];rfl,.inr ⟨HE.out,?_,d',e1,e2,?_⟩⟩
  ·show Mod _ w _
   rw [<- hw2]
   exact (((Mod.refl _ w).drew).trans (hm1.weaken fun _ _ e=>e.elim .inl fun e=>.inr (.inl e))).trans (hm2.weaken fun _ _ e=>.inr (.inr e))
  ·rw [<- hw2,<- HA.out]
   refine ⟨hdk.keep hm2 (fun e=>HPO.out.1 (.inl e.symm)) (fun e=>HPO.out.1 (.inr (.inl e.symm))) (fun e=>HPO.out.1 (.inr (.inr e.symm))) (fun q e=>.inr fun cur fz hx=>by
    subst e;rw [HPW.out] at hx;cases hx),⟨hp2,hmp.keep hm2 fun e=>HPO.out.2 e.symm⟩,hL.ne,e3,by rw [e1];exact hL.n,by rw [e2];exact hL.sz,?_⟩
   rw [e1,e2,HA.out,<- hm,<- hH]
   refine LogOK.commit (by have:=hL.sz;omega) (by rw [hm,hH];exact hL.ok) (fun r hr=>by have:=hwe.1 r hr;omega) ?_ hk (by omega) hlaid
   have h1:=hwe.2
   have h2:(H - L.at_)*m<=2048*4080:=Nat.mul_le_mul (by omega) (by omega)
   omega
set_option maxRecDepth 100000 in
set_option maxHeartbeats 4000000 in
theorem reset_any {w:World} {p b sb mb ub:Nat} {d:Dk} {L:Lg} {v:Value} {rs:List (List UInt8)} (h:LogHas w p b sb mb ub d L) (hv:Recs w No v rs) (hl:rs.length<=1000000000) (hT:L.turn+1 < 4611686018427387904) :
  Calls prog 89 #[.pointer (some ⟨p,0,none⟩),v] w fun e w'=>e=.returned (.int .i64 (wrE (d.n / 2) (d.sz - 16) 0 rs)) ∧
   ((wrE (d.n / 2) (d.sz - 16) 0 rs ≠ 0/\Mod No w w')\/(wrE (d.n / 2) (d.sz - 16) 0 rs=0/\Mod (fun q=>Own3 b sb mb q\/q=ub\/q=p) w w' ∧
    ∃ d',d'.n=d.n/\d'.sz=d.sz/\LogHas w' p b sb mb ub d' ⟨L.turn+1,1,secs (d.sz - 16) (32+(bodyB rs).length),rs⟩)):=by
 refine calls_hide fun R hR=>?_
 obtain ⟨a,c,rfl⟩:=hv.len
 obtain ⟨hb1,hb2,hb3,hb4,hb5⟩:=h.bounds
 obtain ⟨m,hm⟩:∃ m,m=d.sz - 16:=⟨_,rfl⟩
 obtain ⟨H,hH⟩:∃ H,H=d.n / 2:=⟨_,rfl⟩
 have hp0:=h.at_.obj
 have c1:=cell_of (i:=1) hp0 rfl
 have HWR:=wwrite_any (w:=w) (rs:=rs) (v:=.slice a rs.length c) (L.turn+1) 0 0 m H ((L.turn+1) % 2*H) (by have:=h.sz;omega) hH.symm rfl (by have:=h.sz;omega) h.well h.disk hp0 h.at_.undone h.ne hv hl (by omega) hT (by omega)
 rw [show ((L.turn+1:Nat):Int)=(L.turn:Int)+1 from rfl,show (((0:Nat)):Int)=0 from rfl,Nat.zero_add] at HWR
 have HWR:=zh HWR
 have HL:=zh (And.intro h (And.intro hm hH))
 have hpo:=obj_not_own h.disk hp0 (by decide) (by decide)
 have hpu:p ≠ ub:=fun e=>by subst e;exact mp_not_cells h.at_.undone _ _ _ hp0
 have HPO:=zh (And.intro hpo hpu)
 rw [<- hm,<- hH] at hR
 clear h hv hm hH hp0 hpo hpu
 have hT2:(L.turn:Int)<=9223372036854775807:=by omega
 have HT:=zh hT
 clear hT
 go_enter func89,ntmps89
 go_wp2_with fail
 with_reducible refine HWR.out.mono ?_
 clear HWR
 rintro e w1 (⟨he,rfl,hm1⟩ | ⟨he,hk,rfl,hdk,hmp,hm1⟩)
 ·have HE:=zh he
  have M1:=zh hm1
  clear he hm1 c1 hT2
  generalize wrE H m 0 rs=x at *
  have hx:=HE.out
  have hx2:(x == 0)=false:=by simpa using hx
  go_wp2_with fail
  exact fin hR ⟨rfl,.inl ⟨HE.out,M1.out⟩⟩
 ·have hpw:=hm1.keep (show w.heap[p]? = some (LgObj b ub L.turn L.next L.at_ L.all.length) from HL.out.1.at_.obj) (fun e=>e.elim HPO.out.1 HPO.out.2)
  have HE:=zh he
  have HX:=zh (And.intro hk (And.intro hdk (And.intro hmp hm1)))
  have HPW:=zh hpw
  obtain ⟨at2,hat2⟩:∃ at2,at2=secs m (32+(bodyB rs).length):=⟨_,rfl⟩
  have k1:(at2:Int)<=2048:=by have:=HL.out.2.2;omega
  have k0:(0:Int)<=(at2:Int):=Int.natCast_nonneg _
  rw [<- hat2]
  have HA:=zh hat2
  have c1:=cell_of (i:=1) hpw rfl
  have c2:=cell_of (i:=2) hpw rfl
  have c3:=cell_of (i:=3) hpw rfl
  have c4:=cell_of (i:=4) hpw rfl
  have f1:=frozen_of 1 hpw
  have f2:=frozen_of 2 hpw
  have f3:=frozen_of 3 hpw
  have f4:=frozen_of 4 hpw
  clear he hk hdk hmp hm1 hpw hat2
  go_wp2_with fail
  obtain ⟨hk,⟨d',e1,e2,e3,hdk,hlaid⟩,hmp,hm1⟩:=HX.out
  obtain ⟨w2,hw2⟩:∃ w2,w2=(((w1.setCell ⟨p,1,none⟩ (.int .u64 ((L.turn:Int)+1))).setCell ⟨p,2,none⟩ (.int .u64 1)).setCell ⟨p,3,none⟩ (.int .i64 (at2:Int))).setCell ⟨p,4,none⟩ (.int .i64 (rs.length:Int)):=⟨_,rfl⟩
  have hm2:Mod (fun q=>q=p) w1 w2:=by rw [hw2];exact ((((Mod.refl (fun q=>q=p) w1).setCell (fun _=>rfl) _).setCell (fun _=>rfl) _).setCell (fun _=>rfl) _).setCell (fun _=>rfl) _
  have hp2:w2.heap[p]? = some (LgObj b ub (L.turn+1) 1 at2 rs.length):=by
   rw [hw2,heap_setCell (heap_setCell (heap_setCell (heap_setCell HPW.out _) _) _) _];rfl
  have hwe:=wrE_ok HE.out
  obtain ⟨hL,hm,hH⟩:=HL.out
  refine fin hR ⟨by rw [HE.out];rfl,.inr ⟨HE.out,?_,d',e1,e2,?_⟩⟩
  ·show Mod _ w _
   rw [<- hw2]
   exact (hm1.weaken fun _ _ e=>e.elim .inl fun e=>.inr (.inl e)).trans (hm2.weaken fun _ _ e=>.inr (.inr e))
  ·rw [<- hw2,<- HA.out]
   refine ⟨hdk.keep hm2 (fun e=>HPO.out.1 (.inl e.symm)) (fun e=>HPO.out.1 (.inr (.inl e.symm))) (fun e=>HPO.out.1 (.inr (.inr e.symm))) (fun q e=>.inr fun cur fz hx=>by
    subst e;rw [HPW.out] at hx;cases hx),⟨hp2,hmp.keep hm2 fun e=>HPO.out.2 e.symm⟩,hL.ne,e3,by rw [e1];exact hL.n,by rw [e2];exact hL.sz,?_⟩
   rw [e1,e2,HA.out,<- hm,<- hH]
   refine LogOK.reset (by have:=hL.sz;omega) (by rw [hm,hH];exact hL.ok) (fun r hr=>by have:=hwe.1 r hr;omega) ?_ hk HT.out hlaid
   have h1:=hwe.2
   have h2:(H - 0)*m<=2048*4080:=Nat.mul_le_mul (by omega) (by omega)
   omega
theorem open_has {b sb mb:Nat} {d:Dk} {L:Lg} {w:World} (hn:16<=d.n) (hz:128<=d.sz) (hw:Well d) (h:DkAt w No b sb mb d) (ok:LogOK d.last (d.n / 2) (d.sz - 16) L) :
  Calls prog 22 #[.pointer (some ⟨b,0,none⟩)] w fun e w'=>∃ (p ub:Nat) (v:Value),e=.returned (.tuple #[.pointer (some ⟨p,0,none⟩),v,.int .i64 0])/\LogHas w' p b sb mb ub d L/\OwnRecs w' w.heap.size v L.all/\Mod No w w'/\w.heap.size<=p/\w.heap.size<=ub:=by
 refine (wopen_any hn hz hw h).mono ?_
 rintro e w' ⟨p,ub,v,L',rfl,hat,hown,ht,hc,hs,hm,hp,hu⟩
 rw [ok.turnOf (by omega) (by omega)] at ht
 have hs2:=ok.stop (by omega)
 rw [ht] at hc hs
 obtain ⟨e1,e2,e3⟩:=hc.unique ok.chain hs hs2
 have eL:L'=L:=by
  cases L';cases L
  simp only at ht e1 e2 e3
  subst ht e1 e2 e3
  rfl
 subst eL
 exact ⟨p,ub,v,rfl,⟨h.stay hm,hat,fun e=>by have:=h.lt (q:=mb) (.inr (.inr rfl));omega,hw,hn,hz,ok⟩,hown,hm,hp,hu⟩
theorem new_log (n:Int) (sz:Int):LogOK (Dk.new n sz).last ((Dk.new n sz).n / 2) ((Dk.new n sz).sz - 16) ⟨0,0,0,[]⟩:=by
 have hl:∀ i,(Dk.new n sz).last i=List.replicate (min (max sz 64) 4096).toNat 0:=fun i=>rfl
 refine ⟨.zero,fun j _ _ _=>?_,fun i _=>?_,.inl rfl,by decide,by decide⟩
 ·unfold tlN;rw [hl,List.drop_replicate,List.drop_replicate,getN_zeros];exact Nat.le_refl _
 ·unfold tlT;rw [hl,List.drop_replicate,List.take_replicate,getN_zeros];exact Nat.le_refl _
theorem new_well (n:Int) (sz:Int):Well (Dk.new n sz):=⟨rfl,rfl⟩
def LOwn (p b sb mb ub:Nat) (q:Nat):Prop:=Own3 b sb mb q\/q=ub\/q=p
theorem LogHas.lt {w:World} {p b sb mb ub:Nat} {d:Dk} {L:Lg} (h:LogHas w p b sb mb ub d L) {q:Nat} (hq:LOwn p b sb mb ub q):q < w.heap.size:=by
 obtain ⟨es,cc,hx⟩:=h.at_.undone.heap
 rcases hq with hq | hq | hq
 ·exact h.disk.lt hq
 ·subst hq;exact lt_of_heap hx
 ·subst hq;exact lt_of_heap h.at_.obj
end Go.Proofs.YtmppeipgjcjdkaaGreatDoor
namespace Go.Proofs.YtmppeipgjcjdkaaGreatDoor
open _root_.Go.Proofs.Tryz
open Go.RowKit Go.Maps Go.Shelf
structure StoAt (w:World) (s p m n:Nat) (M:Mt) (down:Bool):Prop where
 obj:w.heap[s]? = some (.cells #[.pointer (some ⟨p,0,none⟩),.map (some m),.bool down] 74 (0,0))
 map:SMp w m n M
theorem StoAt.keep {S:Nat->Prop} {w w':World} {s p m n:Nat} {M:Mt} {down:Bool} (h:StoAt w s p m n M down) (hm:Mod S w w') (h1:¬ S s) (h2:¬ S m):StoAt w' s p m n M down :=
 ⟨hm.keep h.obj h1,h.map.keep hm h2⟩
theorem StoAt.stay {w w':World} {s p m n:Nat} {M:Mt} {down:Bool} (h:StoAt w s p m n M down) (hm:Mod No w w'):StoAt w' s p m n M down:=h.keep hm (fun f=>f) (fun f=>f)
theorem zero_str (w:World):(zeroValue 9).run prog w=.ok (.string ⟨#[]⟩) w:=zero_of (by kernel_rfl)
def getV (M:Mt) (k:List UInt8):Value:=.tuple #[.string ⟨((M k).getD []).toArray⟩,.bool (M k).isSome]
theorem SMp.look {w:World} {m n:Nat} {M:Mt} (h:SMp w m n M) (k:List UInt8) (hk:k.length<=1000000000):(Instr.lookup 72 (.map (some m)) (.string ⟨k.toArray⟩) true).run prog w=.ok (getV M k) w:=by
 obtain ⟨D,d1,d2,d3⟩:=h.row
 cases hM:M k with
 | none =>
  have:=d1.look_miss key_str (t:=72) underlying72 (zero_str w) (keyOf_str k hk) ((d3 k).1 hM)
  rw [this];unfold getV;rw [hM];rfl
 | some v =>
  have:=d1.look_hit key_str (t:=72) underlying72 (zero_str w) (keyOf_str k hk) ((d3 k).2 v hM).1 ((d3 k).2 v hM).2
  rw [this];unfold getV;rw [hM];rfl
theorem SMp.get {w:World} {m n:Nat} {M:Mt} (h:SMp w m n M) (k:List UInt8) (hk:k.length<=1000000000):(Instr.lookup 72 (.map (some m)) (.string ⟨k.toArray⟩) false).run prog w=.ok (.string ⟨((M k).getD []).toArray⟩) w:=by
 obtain ⟨D,d1,d2,d3⟩:=h.row
 cases hM:M k with
 | none=>exact d1.get_miss key_str (t:=72) underlying72 (zero_str w) (keyOf_str k hk) ((d3 k).1 hM)
 | some v=>exact d1.get_hit key_str (t:=72) underlying72 (zero_str w) (keyOf_str k hk) ((d3 k).2 v hM).2
theorem sget_any {w:World} {s p m n:Nat} {M:Mt} {down:Bool} (h:StoAt w s p m n M down) (k:List UInt8) (hk:k.length<=1000000000) :
  Calls prog 21 #[.pointer (some ⟨s,0,none⟩),.string ⟨k.toArray⟩] w fun e w'=>e=.returned (getV M k)/\w'=w:=by
 refine calls_hide fun R hR=>?_
 have c1:=cell_of (i:=1) h.obj rfl
 have hl:=h.map.look k hk
 clear h
 unfold getV at hl hR
 go_enter func21,ntmps21
 go_wp2_with fail
 exact fin hR ⟨rfl,rfl⟩
theorem noted_any {s:Nat} {e:Int} {w:World} (he:e ≠ 32) :
  Calls prog 32 #[.pointer (some ⟨s,0,none⟩),.int .i64 e] w fun x w'=>x=.returned (.int .i64 e)/\w'=w:=by
 refine calls_hide fun R hR=>?_
 have hb:(e == 32)=false:=by simpa using he
 go_enter func32,ntmps32
 go_wp2_with fail
 exact fin hR ⟨rfl,rfl⟩
def prB (l:List Pr):List (List UInt8):=l.map pairB
def ShortM (M:Mt):Prop:=∀ k v,M k=some v->k.length<=10000000/\v.length<=10000000
theorem prB_len (l:List Pr):(prB l).length=l.length:=by simp [prB]
set_option maxRecDepth 100000 in
set_option maxHeartbeats 4000000 in
theorem sreset_part {w:World} {s p m n n':Nat} {M M':Mt} {down:Bool} {E:Int} {Post:World->Prop} (h:StoAt w s p m n M down) (m':Nat) (hm':SMp w m' n' M') (hn:n'<=100000) (hsh:ShortM M') (hE:E ≠ 32)
  (hlog:∀ ks v W,KeysOfM M' ks->ks.length<=100000->Mod No w W->OwnRecs W w.heap.size v (prB (recsOf M' ks))->Calls prog 89 #[.pointer (some ⟨p,0,none⟩),v] W fun e w'=>e=.returned (.int .i64 E)/\Post w') :
  Calls prog 34 #[.pointer (some ⟨s,0,none⟩),.map (some m')] w fun e w'=>e=.returned (.int .i64 E)/\Post w':=by
 obtain ⟨i0,hi0,hz0,hz1,hz2⟩:=info_parts info_bs
 refine calls_hide fun R hR=>?_
 have H:=zh h
 have HM':=zh hm'
 have HSH:=zh hsh
 have HLOG:=zh hlog
 clear h hm' hsh hlog
 go_enter func34,ntmps34
 go_wp2_with fail
 with_reducible refine (keysS_any (some m') w).mono ?_
 rintro e w' ⟨rfl,h2⟩
 subst h2
 have HSK:=zh (sorted_keys HM'.out (by omega))
 go_wp2_with fail
 with_reducible refine HSK.out.mono ?_
 clear HSK
 rintro e w2 ⟨v2,ks,rfl,hks,hkl,ho,hm2⟩
 obtain ⟨va,vc,rfl⟩:=own_len ho
 have HKS:=zh hks
 have HO:=zh ho
 have HM2:=zh hm2
 have hkb:ks.length<=100000:=by omega
 obtain ⟨base,hbase⟩:∃ base,base=w2.heap.size:=⟨_,rfl⟩
 have HBASE:=zh hbase
 clear hks hkl ho hm2 hbase
 go_wp2_with fail
 go_loopw [5,12] (fun u q wr=>∃ i:Nat,i<=ks.length/\q=.int .i64 i/\OwnRecs wr base u ((prB (recsOf M' ks)).take i)/\Mod No w2 wr) (fun _ q _=>ks.length - (intOf q).toNat)
 case atStart=>exact ⟨0,by omega,rfl,OwnRecs.nil _ _,Mod.refl _ _⟩
 case round =>
  obtain ⟨i,hi,rfl,hown,hmod⟩:=hrel
  have hi0':(0:Int)<=(i:Int):=Int.natCast_nonneg _
  by_cases hlt:i < ks.length
  ·have hi1:(i:Int) < (ks.length:Int):=by omega
   obtain ⟨g,gc,hv,hgb⟩:=own_shape HO.out (by omega)
   cases hv
   have hc:=(HO.out.cells (g:=g) rfl i (.string ⟨ks[i].toArray⟩) (by rw [List.getElem?_map,List.getElem?_eq_getElem hlt];rfl))
   have hc:w2.cell? ⟨g,i,none⟩=some (.string ⟨ks[i].toArray⟩):=by simpa [Addr.add_lit] using hc
   have hc:=hmod.cell hc (fun f=>f)
   have hks:=(HKS.out.mem ks[i]).1 (List.getElem_mem hlt)
   obtain ⟨val,hval⟩:=Option.isSome_iff_exists.1 hks
   have hlen:=HSH.out _ _ hval
   have hgt:=(HM'.out.keep (HM2.out.trans hmod) (fun f=>f)).get ks[i] (by omega)
   rw [hval] at hgt
   have HSUC:=zh (show (prB (recsOf M' ks)).take (i+1)=(prB (recsOf M' ks)).take i++[pairB ⟨ks[i],val,false⟩] by
    rw [List.take_succ_eq_append_getElem (by rw [prB_len];unfold recsOf;rw [List.length_map];exact hlt)]
    congr 2
    simp [prB,recsOf,hval])
   have HDL:=zh (show ((prB (recsOf M' ks)).take i).length<=1000000 by rw [List.length_take];omega)
   have HB:=zh (show Calls prog 30 #[.agg #[.string ⟨ks[i].toArray⟩,.string ⟨val.toArray⟩,.bool false]] wr fun e w'=>∃ v,e=.returned v/\w'.ownsRow wr.heap.size 5 1 v (pairB ⟨ks[i],val,false⟩).length (bv (pairB ⟨ks[i],val,false⟩))/\Mod No wr w' from pbytes_any ⟨ks[i],val,false⟩ wr hlen.1 hlen.2)
   generalize (prB (recsOf M' ks)).take i=done at *
   generalize pairB ⟨ks[i],val,false⟩=rec_ at *
   generalize hK:(⟨ks[i].toArray⟩:ByteArray)=K at *
   clear hK
   dsimp only [Option.getD_some] at hgt
   generalize hV:(⟨val.toArray⟩:ByteArray)=V at *
   clear hV
   have HOWN:=zh hown
   have HMOD:=zh hmod
   clear hown hmod hval hlen hks
   go_wp2_with fail
   with_reducible refine HB.out.mono ?_
   clear HB
   rintro e w5 ⟨v5,rfl,ho5,hm5⟩
   obtain ⟨ua,uc,rfl⟩:=own_len ho5
   have HREC:=zh (HOWN.out.stay hm5)
   have HU0:=zh (Sl.of_own (X:=fun q=>q < base) ho5 (fun q h1 h2=>by have:=HMOD.out.size;have:=HBASE.out;omega))
   have HMW:=zh (HMOD.out.trans hm5)
   generalize hul:rec_.length=ul at *
   have HUL:=zh hul
   clear ho5 hm5
   have hm5:Mod No w5 (w5.alloc (.cells #[.slice ua ul uc] 41)):=(Mod.refl No w5).alloc _
   obtain ⟨vs,e1,e2,e3⟩:=HREC.out.row
   have HU:=zh (HU0.out.keep hm5 (fun q _ _ (f:No q)=>f.elim))
   have HO5:=zh (own_keepM e2 hm5 (fun _ _ f=>f))
   have HE1:=zh e1
   have HE3:=zh (show ∀ (y:Nat) (u':Value) (r:List UInt8),vs[y]? = some u'->(done)[y]? = some r->Sl (w5.alloc (.cells #[.slice ua ul uc] 41)) (fun q=>q < base) 5 u' r.length (bv r) from fun y u' r h1 h2=>(e3 y u' r h1 h2).keep hm5 (fun q _ _ (f:No q)=>f.elim))
   have HBX:=zh (show Sl (w5.alloc (.cells #[.slice ua ul uc] 41)) No 41 (.slice (some ⟨w5.heap.size,0,none⟩) 1 1) 1 [.slice ua ul uc] from
    .inr ⟨w5.heap.size,0,1,#[.slice ua ul uc],(0,0),rfl,Nat.le_refl _,by unfold maxLen;omega,fun f=>f,heap_alloc_new w5 _,Nat.le_refl _,fun i hi=>by simp⟩)
   have HM5:=zh (HMW.out.trans hm5)
   have hb5:base<=(w5.alloc (.cells #[.slice ua ul uc] 41)).heap.size:=by have:=HM5.out.size;have:=HBASE.out;omega
   have h1c:∀ y ∈ [Value.slice ua ul uc],y.oneCell'=true:=by
    intro y hy
    simp at hy
    subst hy
    rfl
   have H1C:=zh h1c
   have hdl:=HDL.out
   clear e1 e2 e3 h1c hm5
   go_wp2_with (at_builtin;refine app_sl _ rfl _ _ 69 rfl base 41 i0 (.slice none 0 0) 1 24 underlying69 hi0 hz0 hz1 hz2 rfl (by decide) _ _ _ rfl HO5.out No 41 _ _ _ rfl HBX.out rfl H1C.out ?_ ?_ hb5 ?_)
   ·unfold maxLen;omega
   ·omega
   intro v' w6 hown6 hg6 _
   have HR6:=zh (OwnRecs.push (r:=rec_) HE1.out HO5.out HE3.out (by rw [HUL.out];exact HU.out) hg6 hown6)
   have HM6:=zh (HM5.out.then (Mod.of_grown (S:=fun q=>base<=q) hg6 (fun q e _=>(HO5.out.lt _ e).1)) (fun q hq e=>by have:=HBASE.out;omega))
   clear hown6 hg6 HO5 HE1 HE3 HU HBX HM5 H1C hdl
   go_wp2_with fail
   exact ⟨⟨i+1,by omega,by go_num,by rw [HSUC.out];exact HR6.out,HM6.out⟩,by go_light;simp only [intOf];omega⟩
  ·have hil:i=ks.length:=by omega
   subst hil
   rw [List.take_of_length_le (by rw [prB_len];unfold recsOf;rw [List.length_map];exact Nat.le_refl _)] at hown
   have hmw:=HM2.out.trans hmod
   have c0:=cell_of (i:=0) (H.out.stay hmw).obj rfl
   have HR:=zh (HLOG.out ks _ wr HKS.out hkb hmw (hown.lower (by rw [HBASE.out];exact HM2.out.size)))
   clear hown hmod hmw
   go_wp2_with fail
   with_reducible refine HR.out.mono ?_
   clear HR
   rintro e w3 ⟨rfl,hp⟩
   have HP:=zh hp
   clear hp
   go_wp2_with fail
   with_reducible refine (noted_any hE).mono ?_
   rintro e w4 ⟨rfl,h2⟩
   subst h2
   go_wp2_with fail
   exact fin hR ⟨rfl,HP.out⟩
structure Sto (w0 w:World) (N sz b s:Nat) (O:Nat->Prop) (n:Nat) (M:Mt) (cnt:Nat):Prop where
 has:∃ p m sb mb ub d L rs,LogHas w p b sb mb ub d L/\d.n=N/\d.sz=sz/\StoAt w s p m n M false/\L.all=prB rs/\Mt.changes (fun _=>none) rs=M/\ShortP rs/\L.turn<=cnt ∧
  (∀ q,LOwn p b sb mb ub q\/q=s\/q=m->O q)/\¬ LOwn p b sb mb ub s/\¬ LOwn p b sb mb ub m
 low:∀ q,O q->w0.heap.size<=q
 high:∀ q,O q->q < w.heap.size
 mod:Mod No w0 w
theorem Sto.stay {w0 w w':World} {N sz b s n cnt:Nat} {O:Nat->Prop} {M:Mt} (h:Sto w0 w N sz b s O n M cnt) (hm:Mod No w w'):Sto w0 w' N sz b s O n M cnt:=by
 obtain ⟨p,m,sb,mb,ub,d,L,rs,h1,h2,h3,h4,h5⟩:=h.has
 exact ⟨⟨p,m,sb,mb,ub,d,L,rs,h1.stay hm,h2,h3,h4.stay hm,h5⟩,h.low,fun q hq=>Nat.lt_of_lt_of_le (h.high q hq) hm.size,h.mod.trans hm⟩
def MidP (l:List Pr):Prop:=∀ p ∈ l,p.key.length<=500000/\p.value.length<=500000
theorem MidP.short {l:List Pr} (h:MidP l):ShortP l:=fun p hp=>by have:=h p hp;omega
theorem pairB_mid {p:Pr} (h:p.key.length<=500000/\p.value.length<=500000):(pairB p).length<=1000021:=by
 have:=pairB_len p (by omega) (by omega);omega
theorem prB_short {l:List Pr} (h:MidP l):(prB l).any isLong=false:=by
 rw [List.any_eq_false]
 intro r hr
 obtain ⟨p,hp,rfl⟩:=List.mem_map.1 hr
 have:=pairB_mid (h p hp)
 unfold isLong
 simp;omega
theorem Prs.avoid {w:World} {X:Nat->Prop} {a:Option Addr} {l:List Pr} (h:Prs w X a l):Prs w (fun q=>X q\/w.heap.size<=q) a l :=
 ⟨fun i hi=>by
  obtain ⟨b,o,h1,hx,h2,h3,h4⟩:=h.at_ i hi
  have:=lt_of_cell h2
  dsimp only at this
  exact ⟨b,o,h1,fun e=>e.elim hx (fun e=>by omega),h2,h3,h4⟩⟩
theorem Prs.weak {w:World} {X Y:Nat->Prop} {a:Option Addr} {l:List Pr} (h:Prs w X a l) (hy:∀ q,Y q->X q):Prs w Y a l :=
 ⟨fun i hi=>by
  obtain ⟨b,o,h1,hx,h⟩:=h.at_ i hi
  exact ⟨b,o,h1,fun e=>hx (hy _ e),h⟩⟩
set_option maxRecDepth 100000 in
set_option maxHeartbeats 4000000 in
theorem sapply_part {w:World} {s p m n:Nat} {M:Mt} {a:Option Addr} {c:Nat} {l:List Pr} {Post:Ending->World->Prop} (h:StoAt w s p m n M false) (hp:Prs w No a l) (hl:MidP l) (hn:l.length<=100000) (hnn:n<=100000)
  (hlog:∀ v W m',Mod No w W->OwnRecs W w.heap.size v (prB l)->SMp W m' (n+l.length) (M.changes l)->w.heap.size<=m'->Calls prog 33 #[.pointer (some ⟨p,0,none⟩),v] W fun e w' =>
   (e=.returned (.int .i64 0)/\StoAt w' s p m n M false/\(∀ w'',w''=w'.setCell ⟨s,1,none⟩ (.map (some m'))->Post (.returned (.int .i64 0)) w'')) ∨
   (e=.returned (.int .i64 40)/\StoAt w' s p m n M false/\SMp w' m' (n+l.length) (M.changes l)/\Calls prog 34 #[.pointer (some ⟨s,0,none⟩),.map (some m')] w' fun e w'' =>
    e=.returned (.int .i64 0)/\StoAt w'' s p m n M false/\(∀ w3,w3=w''.setCell ⟨s,1,none⟩ (.map (some m'))->Post (.returned (.int .i64 0)) w3))) :
  Calls prog 11 #[.pointer (some ⟨s,0,none⟩),.slice a l.length c] w Post:=by
 obtain ⟨i0,hi0,hz0,hz1,hz2⟩:=info_parts info_bs
 refine calls_hide fun R hR=>?_
 have H:=zh h
 have HP:=zh hp
 have HL:=zh hl
 have HLOG:=zh hlog
 have c2:=cell_of (i:=2) h.obj rfl
 obtain ⟨base,hbase⟩:∃ base,base=w.heap.size:=⟨_,rfl⟩
 have HBASE:=zh hbase
 clear h hp hl hlog hbase
 go_enter func11,ntmps11
 go_wp2_with fail
 go_loopw [5,16] (fun u q wr=>∃ i:Nat,i<=l.length/\q=.int .i64 i/\OwnRecs wr base u ((prB l).take i)/\Mod No w wr) (fun _ q _=>l.length - (intOf q).toNat)
 case atStart=>exact ⟨0,by omega,rfl,OwnRecs.nil _ _,Mod.refl _ _⟩
 case round =>
  obtain ⟨i,hi,rfl,hown,hmod⟩:=hrel
  have hi0':(0:Int)<=(i:Int):=Int.natCast_nonneg _
  by_cases hlt:i < l.length
  ·have hi1:(i:Int) < (l.length:Int):=by omega
   obtain ⟨g,o,rfl,-,c0,c1,c2⟩:=HP.out.at_ i hlt
   have c0:=hmod.cell c0 (fun f=>f)
   have c1:=hmod.cell c1 (fun f=>f)
   have c2:=hmod.cell c2 (fun f=>f)
   have hmid:=HL.out l[i] (List.getElem_mem hlt)
   have HSUC:=zh (show (prB l).take (i+1)=(prB l).take i++[pairB l[i]] by
    rw [List.take_succ_eq_append_getElem (by rw [prB_len];exact hlt)]
    congr 2
    simp [prB])
   have HDL:=zh (show ((prB l).take i).length<=1000000 by rw [List.length_take];omega)
   generalize l[i]=pr at *
   generalize (prB l).take i=done at *
   obtain ⟨k,x,gn⟩:=pr
   dsimp only at c0 c1 c2 hmid
   have hksz:=str_size_list k
   have hxsz:=str_size_list x
   have hk5:(k.length:Int)<=500000:=by omega
   have hx5:(x.length:Int)<=500000:=by omega
   obtain ⟨w4,hw4⟩:∃ w4,w4=wr.alloc (.cells #[.string ⟨k.toArray⟩,.string ⟨x.toArray⟩,.bool gn] 33):=⟨_,rfl⟩
   have m4:Mod No wr w4:=by rw [hw4];exact (Mod.refl No wr).alloc _
   have h4:w4.heap[wr.heap.size]? = some (.cells #[.string ⟨k.toArray⟩,.string ⟨x.toArray⟩,.bool gn] 33 (0,0)):=by rw [hw4];exact heap_alloc_new wr _
   have p0:=cell_of (i:=0) h4 rfl
   have p1:=cell_of (i:=1) h4 rfl
   have p2:=cell_of (i:=2) h4 rfl
   have HB:=zh (show Calls prog 30 #[.agg #[.string ⟨k.toArray⟩,.string ⟨x.toArray⟩,.bool gn]] w4 fun e w'=>∃ v,e=.returned v/\w'.ownsRow w4.heap.size 5 1 v (pairB ⟨k,x,gn⟩).length (bv (pairB ⟨k,x,gn⟩))/\Mod No w4 w' from pbytes_any ⟨k,x,gn⟩ w4 (by show k.length<=_;omega) (by show x.length<=_;omega))
   have HW4:=zh hw4
   have HOWN:=zh (hown.stay m4)
   have HMOD:=zh (hmod.trans m4)
   clear hown hmod m4 h4 hw4 hmid
   generalize pairB ⟨k,x,gn⟩=rec_ at *
   generalize hK:(⟨k.toArray⟩:ByteArray)=K at *
   generalize hV:(⟨x.toArray⟩:ByteArray)=V at *
   have hKI:(K.size:Int)<=500000:=by omega
   have hVI:(V.size:Int)<=500000:=by omega
   clear hK hV hksz hxsz hk5 hx5
   cases gn with
   | true =>
    go_upto_region 7 with fail
    rw [<- HW4.out]
    go_wp2_with fail
    with_reducible refine HB.out.mono ?_
    clear HB
    rintro e w5 ⟨v5,rfl,ho5,hm5⟩
    obtain ⟨ua,uc,rfl⟩:=own_len ho5
    have HREC:=zh (HOWN.out.stay hm5)
    have HU0:=zh (Sl.of_own (X:=fun q=>q < base) ho5 (fun q h1 h2=>by have:=HMOD.out.size;have:=HBASE.out;omega))
    have HMW:=zh (HMOD.out.trans hm5)
    generalize hul:rec_.length=ul at *
    have HUL:=zh hul
    clear ho5 hm5
    have hm5:Mod No w5 (w5.alloc (.cells #[.slice ua ul uc] 41)):=(Mod.refl No w5).alloc _
    obtain ⟨vs,e1,e2,e3⟩:=HREC.out.row
    have HU:=zh (HU0.out.keep hm5 (fun q _ _ (f:No q)=>f.elim))
    have HO5:=zh (own_keepM e2 hm5 (fun _ _ f=>f))
    have HE1:=zh e1
    have HE3:=zh (show ∀ (y:Nat) (u':Value) (r:List UInt8),vs[y]? = some u'->(done)[y]? = some r->Sl (w5.alloc (.cells #[.slice ua ul uc] 41)) (fun q=>q < base) 5 u' r.length (bv r) from fun y u' r h1 h2=>(e3 y u' r h1 h2).keep hm5 (fun q _ _ (f:No q)=>f.elim))
    have HBX:=zh (show Sl (w5.alloc (.cells #[.slice ua ul uc] 41)) No 41 (.slice (some ⟨w5.heap.size,0,none⟩) 1 1) 1 [.slice ua ul uc] from
     .inr ⟨w5.heap.size,0,1,#[.slice ua ul uc],(0,0),rfl,Nat.le_refl _,by unfold maxLen;omega,fun f=>f,heap_alloc_new w5 _,Nat.le_refl _,fun i hi=>by simp⟩)
    have HM5:=zh (HMW.out.trans hm5)
    have hb5:base<=(w5.alloc (.cells #[.slice ua ul uc] 41)).heap.size:=by have:=HM5.out.size;have:=HBASE.out;omega
    have h1c:∀ y ∈ [Value.slice ua ul uc],y.oneCell'=true:=by
     intro y hy
     simp at hy
     subst hy
     rfl
    have H1C:=zh h1c
    have hdl:=HDL.out
    clear e1 e2 e3 h1c hm5
    go_wp2_with (at_builtin;refine app_sl _ rfl _ _ 69 rfl base 41 i0 (.slice none 0 0) 1 24 underlying69 hi0 hz0 hz1 hz2 rfl (by decide) _ _ _ rfl HO5.out No 41 _ _ _ rfl HBX.out rfl H1C.out ?_ ?_ hb5 ?_)
    ·unfold maxLen;omega
    ·omega
    intro v' w6 hown6 hg6 _
    have HR6:=zh (OwnRecs.push (r:=rec_) HE1.out HO5.out HE3.out (by rw [HUL.out];exact HU.out) hg6 hown6)
    have HM6:=zh (HM5.out.then (Mod.of_grown (S:=fun q=>base<=q) hg6 (fun q e _=>(HO5.out.lt _ e).1)) (fun q hq e=>by have:=HBASE.out;omega))
    clear hown6 hg6 HO5 HE1 HE3 HU HBX HM5 H1C hdl
    go_wp2_with fail
    exact ⟨⟨i+1,by omega,by go_num,by rw [HSUC.out];exact HR6.out,HM6.out⟩,by go_light;simp only [intOf];omega⟩
   | false =>
    go_upto_region 7 with fail
    rw [<- HW4.out]
    go_wp2_with fail
    with_reducible refine HB.out.mono ?_
    clear HB
    rintro e w5 ⟨v5,rfl,ho5,hm5⟩
    obtain ⟨ua,uc,rfl⟩:=own_len ho5
    have HREC:=zh (HOWN.out.stay hm5)
    have HU0:=zh (Sl.of_own (X:=fun q=>q < base) ho5 (fun q h1 h2=>by have:=HMOD.out.size;have:=HBASE.out;omega))
    have HMW:=zh (HMOD.out.trans hm5)
    generalize hul:rec_.length=ul at *
    have HUL:=zh hul
    clear ho5 hm5
    have hm5:Mod No w5 (w5.alloc (.cells #[.slice ua ul uc] 41)):=(Mod.refl No w5).alloc _
    obtain ⟨vs,e1,e2,e3⟩:=HREC.out.row
    have HU:=zh (HU0.out.keep hm5 (fun q _ _ (f:No q)=>f.elim))
    have HO5:=zh (own_keepM e2 hm5 (fun _ _ f=>f))
    have HE1:=zh e1
    have HE3:=zh (show ∀ (y:Nat) (u':Value) (r:List UInt8),vs[y]? = some u'->(done)[y]? = some r->Sl (w5.alloc (.cells #[.slice ua ul uc] 41)) (fun q=>q < base) 5 u' r.length (bv r) from fun y u' r h1 h2=>(e3 y u' r h1 h2).keep hm5 (fun q _ _ (f:No q)=>f.elim))
    have HBX:=zh (show Sl (w5.alloc (.cells #[.slice ua ul uc] 41)) No 41 (.slice (some ⟨w5.heap.size,0,none⟩) 1 1) 1 [.slice ua ul uc] from
     .inr ⟨w5.heap.size,0,1,#[.slice ua ul uc],(0,0),rfl,Nat.le_refl _,by unfold maxLen;omega,fun f=>f,heap_alloc_new w5 _,Nat.le_refl _,fun i hi=>by simp⟩)
    have HM5:=zh (HMW.out.trans hm5)
    have hb5:base<=(w5.alloc (.cells #[.slice ua ul uc] 41)).heap.size:=by have:=HM5.out.size;have:=HBASE.out;omega
    have h1c:∀ y ∈ [Value.slice ua ul uc],y.oneCell'=true:=by
     intro y hy
     simp at hy
     subst hy
     rfl
    have H1C:=zh h1c
    have hdl:=HDL.out
    clear e1 e2 e3 h1c hm5
    go_wp2_with (at_builtin;refine app_sl _ rfl _ _ 69 rfl base 41 i0 (.slice none 0 0) 1 24 underlying69 hi0 hz0 hz1 hz2 rfl (by decide) _ _ _ rfl HO5.out No 41 _ _ _ rfl HBX.out rfl H1C.out ?_ ?_ hb5 ?_)
    ·unfold maxLen;omega
    ·omega
    intro v' w6 hown6 hg6 _
    have HR6:=zh (OwnRecs.push (r:=rec_) HE1.out HO5.out HE3.out (by rw [HUL.out];exact HU.out) hg6 hown6)
    have HM6:=zh (HM5.out.then (Mod.of_grown (S:=fun q=>base<=q) hg6 (fun q e _=>(HO5.out.lt _ e).1)) (fun q hq e=>by have:=HBASE.out;omega))
    clear hown6 hg6 HO5 HE1 HE3 HU HBX HM5 H1C hdl
    go_wp2_with fail
    exact ⟨⟨i+1,by omega,by go_num,by rw [HSUC.out];exact HR6.out,HM6.out⟩,by go_light;simp only [intOf];omega⟩
  ·have hil:i=l.length:=by omega
   subst hil
   rw [List.take_of_length_le (by rw [prB_len];exact Nat.le_refl _)] at hown
   have hst:=H.out.stay hmod
   have c1:=cell_of (i:=1) hst.obj rfl
   have HC:=zh (clone_map hst.map)
   have HOWN:=zh hown
   have HMOD:=zh hmod
   have HST:=zh hst
   clear hown hmod hst
   go_wp2_with fail
   with_reducible refine HC.out.mono ?_
   clear HC
   rintro e w3 ⟨rfl,hmp,hm3⟩
   have hp3:=((HP.out.avoid.keep (HMOD.out.trans hm3) (fun _ f=>f.elim)).weak (Y:=fun k=>k=wr.heap.size) (fun q e=>.inr (by subst e;exact HMOD.out.size)))
   have HCH:=zh (change_any (c:=c) hmp hp3 HL.out.short (by omega))
   have HM3:=zh hm3
   clear hmp hm3 hp3
   go_wp2_with fail
   with_reducible refine HCH.out.mono ?_
   clear HCH
   rintro e w4 ⟨rfl,hmp,hm4⟩
   have hm34:=HM3.out.then hm4 (fun q hq e=>by omega)
   have hst4:=HST.out.stay hm34
   have c0:=cell_of (i:=0) hst4.obj rfl
   have HREC:=zh (HOWN.out.stay hm34)
   have HLG:=zh (HLOG.out _ w4 wr.heap.size (HMOD.out.trans hm34) (by rw [<- HBASE.out];exact HREC.out) hmp HMOD.out.size)
   obtain ⟨ua,uc,hu⟩:=(HREC.out.recs (X:=No) (fun _ _ f=>f)).len
   subst hu
   clear hmp hm4 hm34 hst4 HST
   generalize (prB l).length=rl at *
   go_wp2_with fail
   with_reducible refine HLG.out.mono ?_
   clear HLG
   rintro e w5 (⟨rfl,hst5,hpost⟩ | ⟨rfl,hst5,hmp5,hreset⟩)
   ·have cs1:=cell_of (i:=1) hst5.obj rfl
    have fs1:=frozen_of 1 hst5.obj
    have HPO:=zh hpost
    clear hst5 hpost
    go_wp2_with fail
    with_reducible refine (noted_any (by decide)).mono ?_
    rintro e w6 ⟨rfl,h2⟩
    subst h2
    go_wp2_with fail
    exact fin hR (HPO.out _ rfl)
   ·have HRS:=zh hreset
    clear hst5 hmp5 hreset
    go_wp2_with fail
    with_reducible refine (noted_any (by decide)).mono ?_
    rintro e w6 ⟨rfl,h2⟩
    subst h2
    go_wp2_with fail
    with_reducible refine HRS.out.mono ?_
    clear HRS
    rintro e w7 ⟨rfl,hst7,hpost⟩
    have cs1:=cell_of (i:=1) hst7.obj rfl
    have fs1:=frozen_of 1 hst7.obj
    have HPO:=zh hpost
    clear hst7 hpost
    go_wp2_with fail
    exact fin hR (HPO.out _ rfl)
theorem SMp.stay {w w':World} {b n:Nat} {M:Mt} (h:SMp w b n M) (hm:Mod No w w'):SMp w' b n M:=h.keep hm (fun f=>f)
theorem LogHas.keepS {S:Nat->Prop} {w w':World} {p b sb mb ub:Nat} {d:Dk} {L:Lg} (h:LogHas w p b sb mb ub d L) (hm:Mod S w w') (hn:∀ q,LOwn p b sb mb ub q->¬ S q) (hs:∀ q cur fz,S q->w.heap[q]? ≠ some (.cells cur 5 fz)):LogHas w' p b sb mb ub d L :=
 ⟨h.disk.keep hm (hn _ (.inl (.inl rfl))) (hn _ (.inl (.inr (.inl rfl)))) (hn _ (.inl (.inr (.inr rfl)))) (fun q e=>.inr fun cur fz=>hs q cur fz e),
  ⟨hm.keep h.at_.obj (hn _ (.inr (.inr rfl))),h.at_.undone.keep hm (hn _ (.inr (.inl rfl)))⟩,h.ne,h.well,h.n,h.sz,h.ok⟩
def MidM (M:Mt):Prop:=∀ k v,M k=some v->k.length<=500000/\v.length<=500000
theorem MidM.short {M:Mt} (h:MidM M):ShortM M:=fun k v e=>by have:=h k v e;omega
theorem MidM.recs {M:Mt} (h:MidM M) {ks:List (List UInt8)} (hk:KeysOfM M ks):MidP (recsOf M ks):=fun p hp=>by
 obtain ⟨k,hkm,rfl⟩:=List.mem_map.1 hp
 obtain ⟨v,hv⟩:=Option.isSome_iff_exists.1 ((hk.mem k).1 hkm)
 have:=h k v hv
 dsimp only
 rw [hv]
 exact this
def Fits (N sz:Nat) (M:Mt):Prop:=∀ ks,KeysOfM M ks->32+(bodyB (prB (recsOf M ks))).length<=(N / 2)*(sz - 16)
theorem wrE_mid {H m at_:Nat} {l:List Pr} (h:MidP l):(wrE H m at_ (prB l)=0/\32+(bodyB (prB l)).length<=(H - at_)*m)\/(wrE H m at_ (prB l)=40/\(H - at_)*m < 32+(bodyB (prB l)).length):=by
 unfold wrE
 rw [if_neg (by rw [prB_short h];decide)]
 by_cases h:(H - at_)*m < 32+(bodyB (prB l)).length
 ·rw [if_pos h];exact .inr ⟨rfl,h⟩
 ·rw [if_neg h];exact .inl ⟨rfl,by omega⟩
theorem Sto.turned {w0 w w' w'':World} {N sz b s n n' cnt m':Nat} {O:Nat->Prop} {M M':Mt} {p m sb mb ub:Nat} {d:Dk} {L:Lg} {rs:List Pr} (h1:LogHas w' p b sb mb ub d L) (h2:d.n=N) (h3:d.sz=sz) (h4:StoAt w' s p m n M false) (h5:L.all=prB rs)
  (h6:Mt.changes (fun _=>none) rs=M') (hsh:ShortP rs) (h7:L.turn<=cnt) (h8:∀ q,LOwn p b sb mb ub q\/q=s\/q=m->O q) (h9:¬ LOwn p b sb mb ub s) (hm':SMp w' m' n' M') (hlow:∀ q,O q->w0.heap.size<=q) (hhigh:∀ q,O q->q < w.heap.size) (hmod:Mod No w0 w') (hsz:w.heap.size<=m')
  (_:w.heap.size<=w'.heap.size) (h0:w0.heap.size<=w.heap.size) (hw:w''=w'.setCell ⟨s,1,none⟩ (.map (some m'))):Sto w0 w'' N sz b s (fun q=>O q\/q=m') n' M' cnt/\Mod (fun q=>q=s) w' w'':=by
 have hms:Mod (fun q=>q=s) w' w'':=by rw [hw];exact (Mod.refl (fun q=>q=s) w').setCell (fun _=>rfl) _
 have hsm:m' ≠ s:=fun e=>hm'.not_cells _ _ _ (by rw [e];exact h4.obj)
 have hsO:O s:=h8 s (.inr (.inl rfl))
 have hLm:¬ LOwn p b sb mb ub m':=fun e=>by have:=hhigh m' (h8 m' (.inl e));omega
 refine ⟨⟨⟨p,m',sb,mb,ub,d,L,rs,h1.keepS hms (fun q e f=>by subst f;exact h9 e) (fun q cur fz e hh=>by subst e;rw [h4.obj] at hh;cases hh),h2,h3,⟨by rw [hw,heap_setCell h4.obj];rfl,hm'.keep hms hsm⟩,h5,h6,hsh,h7,fun q e=>?_,h9,hLm⟩,fun q e=>?_,fun q e=>?_,?_⟩,hms⟩
 ·rcases e with e | e | e
  ·exact .inl (h8 q (.inl e))
  ·exact .inl (h8 q (.inr (.inl e)))
  ·exact .inr e
 ·rcases e with e | e
  ·exact hlow q e
  ·omega
 ·have hz:=hms.size
  rcases e with e | e
  ·have:=hhigh q e;omega
  ·have:=hm'.lt;omega
 ·exact hmod.then hms fun i hi e=>by have:=hlow i (by rw [e];exact hsO);omega
theorem Sto.apply {w0 w:World} {N sz b s n cnt:Nat} {O:Nat->Prop} {M:Mt} {a:Option Addr} {c:Nat} {l:List Pr} (h:Sto w0 w N sz b s O n M cnt) (hp:Prs w No a l) (hl:MidP l) (hM:MidM (M.changes l)) (hfit:Fits N sz (M.changes l)) (hln:l.length<=10000) (hnn:n+l.length<=100000) (hcnt:cnt<=1000000000) :
  Calls prog 11 #[.pointer (some ⟨s,0,none⟩),.slice a l.length c] w fun e w'=>e=.returned (.int .i64 0)/\∃ O',Sto w0 w' N sz b s O' (n+l.length) (M.changes l) (cnt+1)/\(∀ q,q < w.heap.size->O' q->O q)/\Mod O w w':=by
 obtain ⟨p,m,sb,mb,ub,d,L,rs,h1,h2,h3,h4,h5,h6,hsh,h7,h8,h9,h10⟩:=h.has
 have h0:=h.mod.size
 have hLs:∀ q,LOwn p b sb mb ub q->q ≠ s:=fun q e f=>by subst f;exact h9 e
 have hLm:∀ q,LOwn p b sb mb ub q->q ≠ m:=fun q e f=>by subst f;exact h10 e
 refine sapply_part h4 hp hl (by omega) (by omega) fun v W m' hmW hrec hmp hm'=>?_
 have hrl:(prB l).length<=1000000000:=by rw [prB_len];omega
 refine (commit_any (h1.stay hmW) (hrec.recs (X:=No) (fun _ _ f=>f)) hrl).mono ?_
 rw [h2,h3]
 have hmO:∀ {w'},Mod (fun q=>Own3 b sb mb q\/q=ub\/q=p) W w'->Mod (LOwn p b sb mb ub) W w':=fun h=>h
 have hm'O:∀ q,LOwn p b sb mb ub q->q ≠ m':=fun q e f=>by have:=h.high q (h8 q (.inl e));omega
 rintro e w' ⟨rfl,⟨he,hm⟩ | ⟨he,hm,d',e1,e2,hL⟩⟩
 ·right
  have he40:wrE (N / 2) (sz - 16) L.at_ (prB l)=40:=by
   rcases wrE_mid (H:=N / 2) (m:=sz - 16) (at_:=L.at_) hl with ⟨q,_⟩ | ⟨q,_⟩
   ·exact absurd q he
   ·exact q
  have hmw':=hmW.trans hm
  have hst':=h4.stay hmw'
  refine ⟨by rw [he40],hst',hmp.stay hm,?_⟩
  refine sreset_part (Post:=fun w''=>StoAt w'' s p m n M false/\∀ w3,w3=w''.setCell ⟨s,1,none⟩ (.map (some m'))->(Ending.returned (.int .i64 0)=.returned (.int .i64 0)/\∃ O',Sto w0 w3 N sz b s O' (n+l.length) (M.changes l) (cnt+1)/\(∀ q,q < w.heap.size->O' q->O q)/\Mod O w w3)) hst' m' (hmp.stay hm) (by omega) hM.short (by decide) fun ks v2 W2 hks hkl hmW2 hrec2=>?_
  have hmid2:=hM.recs hks
  have hE2:wrE (N / 2) (sz - 16) 0 (prB (recsOf (M.changes l) ks))=0:=by
   rcases wrE_mid (H:=N / 2) (m:=sz - 16) (at_:=0) hmid2 with ⟨q,_⟩ | ⟨_,q⟩
   ·exact q
   ·have:=hfit ks hks
    rw [Nat.sub_zero] at q;omega
  have hkl:(prB (recsOf (M.changes l) ks)).length<=1000000000:=by rw [prB_len];unfold recsOf;rw [List.length_map];omega
  refine (reset_any ((h1.stay hmw').stay hmW2) (hrec2.recs (X:=No) (fun _ _ f=>f)) hkl (by omega)).mono ?_
  rw [h2,h3,hE2]
  rintro e w'' ⟨rfl,⟨he,_⟩ | ⟨_,hm2,d',e1,e2,hL⟩⟩
  ·exact absurd rfl he
  ·have hmL:Mod (LOwn p b sb mb ub) W2 w'':=hm2
   have hmW2':=hmw'.trans hmW2
   have hst2:StoAt w'' s p m n M false:=(hst'.stay hmW2).keep hmL (fun e=>hLs _ e rfl) (fun e=>hLm _ e rfl)
   have hmw:Mod O w w'':=(hmW2'.weaken fun _ _ f=>f.elim).trans (hmL.weaken fun q _ e=>h8 q (.inl e))
   have hsz2:=hmw.size
   refine ⟨rfl,hst2,fun w3 hw3=>⟨rfl,?_⟩⟩
   obtain ⟨hsto,hms⟩:=Sto.turned (w0:=w0) (w:=w) (cnt:=cnt+1) hL e1 e2 hst2 rfl (recsOf_replay hks) hmid2.short (by show L.turn+1<=cnt+1;omega) h8 h9 (((hmp.stay hm).stay hmW2).keep hmL (fun e=>hm'O _ e rfl)) h.low h.high (h.mod.then hmw (fun i hi e=>by have:=h.low i e;omega)) hm' hsz2 h0 hw3
   exact ⟨_,hsto,fun q hq e=>e.elim id fun e=>by omega,hmw.trans (hms.weaken fun q _ e=>by rw [e];exact h8 s (.inr (.inl rfl)))⟩
 ·left
  have hmL:Mod (LOwn p b sb mb ub) W w':=hm
  have hst':StoAt w' s p m n M false:=(h4.stay hmW).keep hmL (fun e=>hLs _ e rfl) (fun e=>hLm _ e rfl)
  have hmw:Mod O w w':=(hmW.weaken fun _ _ f=>f.elim).trans (hmL.weaken fun q _ e=>h8 q (.inl e))
  have hsz2:=hmw.size
  refine ⟨by rw [he],hst',fun w3 hw3=>⟨rfl,?_⟩⟩
  obtain ⟨hsto,hms⟩:=Sto.turned (w0:=w0) (w:=w) (cnt:=cnt+1) (rs:=rs++l) (M':=M.changes l) hL e1 e2 hst' (by show L.all++prB l=_;rw [h5];simp [prB]) (by rw [changes_append,h6]) (fun p hp=>(List.mem_append.1 hp).elim (hsh p) (hl.short p)) (by show L.turn<=cnt+1;omega) h8 h9 (hmp.keep hmL (fun e=>hm'O _ e rfl)) h.low h.high (h.mod.then hmw (fun i hi e=>by have:=h.low i e;omega)) hm' hsz2 h0 hw3
  exact ⟨_,hsto,fun q hq e=>e.elim id fun e=>by omega,hmw.trans (hms.weaken fun q _ e=>by rw [e];exact h8 s (.inr (.inl rfl)))⟩
theorem Sto.get {w0 w:World} {N sz b s n cnt:Nat} {O:Nat->Prop} {M:Mt} (h:Sto w0 w N sz b s O n M cnt) (k:List UInt8) (hk:k.length<=1000000000) :
  Calls prog 21 #[.pointer (some ⟨s,0,none⟩),.string ⟨k.toArray⟩] w fun e w'=>e=.returned (getV M k)/\w'=w:=by
 obtain ⟨p,m,sb,mb,ub,d,L,rs,h1,h2,h3,h4,h5⟩:=h.has
 exact sget_any h4 k hk
end Go.Proofs.YtmppeipgjcjdkaaGreatDoor
