/-
  Layers 0 to 14: helps of the laws of indexes. No statement is proved here; no condition.
-/
import Derived.Test.YtmppeipgjcjdkaaGreatDoorW21
import Derived.Test.YtmppeipgjcjdkaaGreatDoorW04
import Derived.Laws.CopyRow
namespace Go.Proofs.YtmppeipgjcjdkaaGreatDoor
open _root_.Go.Proofs.Tryz
open Go.RowKit Go.Maps
theorem Mp.len_nil {w:World} {k e t:TypeId} {b:Nat} (h:Mp w k b (.map [])) (ht:prog.underlying t=some (.map k e)) (ty:TypeId):(Builtin.len_ #[t] ty #[.map (some b)]).run prog w=.ok (.int .i64 0) w:=by
 have:=World.ownsMap.len h ht ty
 exact this
theorem undo_any {p ub:Nat} {w:World} (c5:w.cell? ⟨p,5,none⟩=some (.map (some ub))) (h:Mp w 3 ub (.map [])) :
  Calls prog 198 #[.pointer (some ⟨p,0,none⟩)] w fun e w'=>e=.returned (.int .i64 0)/\w'=w:=by
 refine calls_hide fun R hR=>?_
 have hlen:=h.len_nil (t:=129) underlying129
 clear h
 go_enter func198,ntmps198
 go_wp2_with fail
 exact fin hR ⟨rfl,rfl⟩
theorem Dk.flush_last (d:Dk) (hw:Well d) (i:Nat):d.flush.last i=d.last i:=by
 unfold Dk.flush
 rw [hw.1,hw.2]
 rw [if_neg (by decide),if_neg (by decide)]
 simp only [Dk.settle,Dk.last,Dk.power,Option.getD_none]
 cases d.dirty i <;> rfl
theorem Dk.flush_well (d:Dk) (hw:Well d):Well d.flush/\d.flush.n=d.n/\d.flush.sz=d.sz/\d.flushE=0:=by
 obtain ⟨h1,h2⟩:=hw
 unfold Dk.flush Dk.flushE Well
 simp [h1,h2,Dk.settle,Dk.power]
theorem Dk.write_well {d:Dk} {i:Nat} {l:List UInt8} (hw:Well d) (hi:i < d.n) (hl:l.length=d.sz) :
  Well (d.write (i:Int) l)/\(d.write (i:Int) l).n=d.n/\(d.write (i:Int) l).sz=d.sz/\d.writeE (i:Int) l.length=0/\∀ j,(d.write (i:Int) l).last j=if j=i then l else d.last j:=by
 obtain ⟨h1,h2⟩:=hw
 have hE:atE d.dead (i:Int) d.n=0:=by
  rw [h1];unfold atE
  rw [if_neg (by simp),if_neg (by omega)]
 obtain ⟨e1,e2⟩:=Dk.write_ok hE hl (by rw [h2];decide)
 rw [e1,e2]
 refine ⟨⟨?_,?_⟩,rfl,rfl,rfl,fun j=>?_⟩
 ·simp [Dk.put,Dk.power,h1,h2]
 ·simp [Dk.put,Dk.power,h2]
 ·show Option.getD (if j=((i:Int)).toNat then some l else d.dirty j) (d.sure j)=_
  rw [Int.toNat_natCast]
  by_cases e:j=i
  ·rw [if_pos e,if_pos e];rfl
  ·rw [if_neg e,if_neg e];rfl
theorem laid_cells0 {size turn next i:Nat} {B:List UInt8} (hi:i ≠ 0):bv ((B.drop (i*size)).take size)++bv (List.replicate (size+16 - ((B.drop (i*size)).take size).length) 0)=bv (laidAt size turn next B i):=by
 unfold laidAt
 rw [if_neg hi,<- bv_append,List.append_assoc,List.replicate_append_replicate]
 have:=List.length_take_le size (B.drop (i*size))
 rw [show size - (List.take size (List.drop (i*size) B)).length+16=size+16 - (List.take size (List.drop (i*size) B)).length by omega]
theorem laid_cells1 {size turn next:Nat} {B:List UInt8} {c1 c2 c3:Array Value} (h1:c1.toList=bv ((B.drop (0*size)).take size)++bv (List.replicate (size+16 - ((B.drop (0*size)).take size).length) 0))
  (h2:PutAt c1 c2 size 8 turn 8) (h3:PutAt c2 c3 (size+8) 8 (next+1) 8):c3.toList=bv (laidAt size turn next B 0):=by
 have hs:=List.length_take_le size (B.drop (0*size))
 have hl1:c1.size=size+16:=by
  rw [<- Array.length_toList,h1,List.length_append,bv_length,bv_length,List.length_replicate];omega
 have e8:∀ n,(bv (be 8 n)).length=8:=fun n=>by rw [bv_length,be_len]
 apply List.ext_getElem?
 intro i
 rw [Array.getElem?_toList]
 unfold laidAt
 rw [if_pos rfl,bv_append,bv_append (be 8 turn)]
 have hA:(bv ((B.drop (0*size)).take size++List.replicate (size - ((B.drop (0*size)).take size).length) 0)).length=size:=by
  rw [bv_length,List.length_append,List.length_replicate];omega
 by_cases a1:i < size
 ·rw [List.getElem?_append_left (by omega),h3.else_ i (.inl (by omega)),h2.else_ i (.inl (by omega)),<- Array.getElem?_toList,h1,bv_append]
  by_cases a0:i < ((B.drop (0*size)).take size).length
  ·rw [List.getElem?_append_left (by rw [bv_length];exact a0),List.getElem?_append_left (by rw [bv_length];exact a0)]
  ·rw [List.getElem?_append_right (by rw [bv_length];omega),List.getElem?_append_right (by rw [bv_length];omega),bv_get?,bv_get?,List.getElem?_replicate,List.getElem?_replicate,bv_length,if_pos (by omega),if_pos (by omega)]
 ·rw [List.getElem?_append_right (by omega),hA]
  by_cases a2:i < size+8
  ·rw [List.getElem?_append_left (by rw [e8];omega),h3.else_ i (.inl (by omega)),h2.get (by omega) (by omega)]
  ·rw [List.getElem?_append_right (by rw [e8];omega),e8]
   by_cases a3:i < size+16
   ·rw [h3.get (by omega) (by omega)]
    congr 1
   ·rw [List.getElem?_eq_none (by rw [e8];omega),Array.getElem?_eq_none (by rw [h3.size,h2.size];omega)]
end Go.Proofs.YtmppeipgjcjdkaaGreatDoor
namespace Go.Proofs.YtmppeipgjcjdkaaGreatDoor
open _root_.Go.Proofs.Tryz
open Go.RowKit
structure LayInv (w wr:World) (b sb mb ub F K m turn next:Nat) (B:List UInt8) (d:Dk) (k:Nat):Prop where
 disk:∃ d',d'.n=d.n/\d'.sz=d.sz/\Well d'/\DkAt wr No b sb mb d'/\(∀ j,k<=j->j < K->d'.last (F+j)=laidAt m turn next B j)/\∀ q,q < F+k\/F+K<=q->d'.last q=d.last q
 undone:∃ D,Mp wr 3 ub D/\(0 < k->D=.map [])
 mod:Mod (fun q=>Own3 b sb mb q\/q=ub) w wr
theorem mp_not_cells {w:World} {k:TypeId} {b:Nat} {D:DataW Value} (h:Mp w k b D) (cur:Array Value) (t:TypeId) (fz:Nat × Nat):w.heap[b]? ≠ some (.cells cur t fz):=fun e=>by
 obtain ⟨es,c,hb⟩:=h.heap
 rw [hb] at e;cases e
theorem obj_not_own {w:World} {p b sb mb:Nat} {d:Dk} {X:Nat->Prop} {cur:Array Value} {t:TypeId} (h:DkAt w X b sb mb d) (hp:w.heap[p]? = some (.cells cur t (0,0))) (h1:t ≠ 83) (h2:t ≠ 41):¬ Own3 b sb mb p:=by
 obtain ⟨sc,ho,_⟩:=h.obj
 obtain ⟨cur',hc⟩:=h.sure
 obtain ⟨D,hD⟩:=h.dirty
 obtain ⟨es,clock,hm⟩:=hD.mp.heap
 rintro (e | e | e)
 ·subst e;rw [ho] at hp;cases hp;exact h1 rfl
 ·subst e;rw [hc.heap] at hp;cases hp;exact h2 rfl
 ·subst e;rw [hm] at hp;cases hp
theorem LayInv.next {w0 wr:World} {b sb mb ub F K m turn next k:Nat} {B:List UInt8} {d d2:Dk} (hk:k < K) (n2:d2.n=d.n) (s2:d2.sz=d.sz) (w2:Well d2) (hFK:F+K<=d.n) (hl:d.sz=m+16) (hd:DkAt wr No b sb mb (d2.write ((F+k:Nat):Int) (laidAt m turn next B k)))
  (h1:∀ j,k+1<=j->j < K->d2.last (F+j)=laidAt m turn next B j) (h2:∀ q,q < F+(k+1)\/F+K<=q->d2.last q=d.last q) (hmp:∃ D,Mp wr 3 ub D/\(0 < k->D=.map [])) (hmod:Mod (fun q=>Own3 b sb mb q\/q=ub) w0 wr):LayInv w0 wr b sb mb ub F K m turn next B d k:=by
 obtain ⟨e1,e2,e3,-,e5⟩:=Dk.write_well (i:=F+k) (l:=laidAt m turn next B k) w2 (by omega) (by rw [laidAt_len,s2,hl])
 refine ⟨⟨_,e2.trans n2,e3.trans s2,e1,hd,fun j a1 a2=>?_,fun q a=>?_⟩,hmp,hmod⟩
 ·rw [e5]
  by_cases e:j=k
  ·subst e;rw [if_pos rfl]
  ·rw [if_neg (by omega)];exact h1 j (by omega) a2
 ·rw [e5,if_neg (by omega)];exact h2 q (by omega)
theorem Sl.of_cells {w:World} {g n:Nat} {cur:Array Value} {t:TypeId} {l:List UInt8} (hg:w.heap[g]? = some (.cells cur t (0,0))) (h:cur.toList=bv l) (_:l.length=n) (hc:n<=maxLen):Sl w No t (.slice (some ⟨g,0,none⟩) n n) n (bv l):=by
 refine .inr ⟨g,0,n,cur,(0,0),rfl,Nat.le_refl _,hc,fun f=>f,hg,?_,fun i hi=>?_⟩
 ·rw [<- h,Array.length_toList];omega
 ·rw [Nat.zero_add,<- Array.getElem?_toList,h]
set_option maxRecDepth 100000 in
set_option maxHeartbeats 4000000 in
theorem lay_any {b sb mb p ub:Nat} {d:Dk} {w:World} {v:Value} {B:List UInt8} {turn0 next0 at0 c0:Nat} (turn next at_ m H F K Z:Nat) (hZ:d.sz=Z) (hm:Z=m+16) (hH:d.n / 2=H) (hF:F=turn % 2*H+at_) (hK:K=secs m B.length) (hz:112<=m) (hw:Well d) (h:DkAt w No b sb mb d)
  (hp:w.heap[p]? = some (LgObj b ub turn0 next0 at0 c0)) (hub:Mp w 3 ub (.map [])) (hne:ub ≠ mb) (hB:Sl w No 5 v B.length (bv B)) (hB1:0 < B.length) (hB2:B.length<=1000000000) (hk:at_+K<=H) (ht:turn < 4611686018427387904) (hn:next+1 < 4611686018427387904) :
  Calls prog 146 #[.pointer (some ⟨p,0,none⟩),.int .u64 (turn:Int),.int .u64 (next:Int),.int .i64 (at_:Int),v] w fun e w'=>e=.returned (.int .i64 0) ∧
   (∃ d',d'.n=d.n/\d'.sz=d.sz/\Well d'/\DkAt w' No b sb mb d'/\Laid d.last d'.last m turn next F K B)/\Mp w' 3 ub (.map [])/\Mod (fun q=>Own3 b sb mb q\/q=ub) w w':=by
 refine calls_hide fun R hR=>?_
 obtain ⟨blk,o,c,rfl,hcl,hcm,-⟩:=hB.shape hB1
 have hn2:d.n<=4096:=h.n2
 have hz2:d.sz<=4096:=h.s2
 have hH2:H<=2048:=by omega
 have hm2:m<=4080:=by omega
 have ht2:turn % 2 < 2:=Nat.mod_lt _ (by omega)
 have c00:=cell_of (i:=0) hp rfl
 have c05:=cell_of (i:=5) hp rfl
 have HH:=half_any h c00
 rw [hH] at HH
 have HU:=undo_any c05 hub
 have HS:=lsecs_any B.length (by omega) h c00
 rw [show d.sz - 16=m by omega,<- hK] at HS
 have hpo:¬ Own3 b sb mb p:=obj_not_own h hp (by decide) (by decide)
 have hbo:¬ Own3 b sb mb ub:=fun e=>by
  rcases e with e | e | e
  ·obtain ⟨sc,ho,_⟩:=h.obj
   exact mp_not_cells hub _ _ _ (by rw [e];exact ho)
  ·obtain ⟨cur,hc⟩:=h.sure
   exact mp_not_cells hub _ _ _ (by rw [e];exact hc.heap)
  ·exact hne e
 have hpu:p ≠ ub:=fun e=>by subst e;exact mp_not_cells hub _ _ _ hp
 have hFb:F+K<=d.n:=by
  have h1:turn % 2=0\/turn % 2=1:=by omega
  rcases h1 with g | g
  ·rw [g,Nat.zero_mul] at hF;omega
  ·rw [g,Nat.one_mul] at hF;omega
 have hK1:0 < K:=by rw [hK];exact secs_pos hB1
 have hKup:(K - 1)*m < B.length:=by
  rcases Nat.lt_or_ge ((K - 1)*m) B.length with g | g
  ·exact g
  ·have:=secs_le (size:=m) (by omega) g
   omega
 have e1:(turn:Int) % 2=((turn % 2:Nat):Int):=(Int.natCast_emod turn 2).symm
 have e2:(turn:Int) % 2*(H:Int)=((turn % 2*H:Nat):Int):=by rw [e1,Int.natCast_mul]
 have e3:(turn:Int) % 2*(H:Int)+(at_:Int)=(F:Int):=by rw [e2,hF,Int.natCast_add]
 have HE3:=zh e3
 have r0:(0:Int)<=(turn:Int) % 2:=by rw [e1];exact Int.natCast_nonneg _
 have r1:(turn:Int) % 2<=1:=by rw [e1];omega
 have r2:(0:Int)<=(turn:Int) % 2*(H:Int):=by rw [e2];exact Int.natCast_nonneg _
 have r3:(turn:Int) % 2*(H:Int)<=4096:=by omega
 have hat:(at_:Int)<=2048:=by omega
 have HH:=zh HH
 have HU:=zh HU
 have HS:=zh HS
 have HST:=zh (show LayInv w w b sb mb ub F K m turn next B d K from ⟨⟨d,rfl,rfl,hw,h,fun j h1 h2=>by omega,fun _ _=>rfl⟩,⟨_,hub,fun _=>rfl⟩,Mod.refl _ _⟩)
 have HP:=zh hp
 have HUB:=zh hub
 have HSL:=zh hB
 have HNO:=zh (And.intro hpo (And.intro hbo hpu))
 have HZ:=zh (And.intro hZ (And.intro hm (And.intro hH hFb)))
 have HKU:=zh hKup
 have HDN:=zh (fun q (e:Own3 b sb mb q) (cur:Array Value) (fz:Nat × Nat)=>h.not_bytes e cur fz)
 have HUN:=zh (fun (cur:Array Value) (t:TypeId) (fz:Nat × Nat)=>mp_not_cells hub cur t fz)
 clear hw h hp hub hB c00 c05 hpo hbo hpu hKup e1 e2 e3 hF hm hH hK hZ hFb ht2
 go_enter func146,ntmps146
 go_wp2_with fail
 with_reducible refine HH.out.mono ?_
 rintro e w' ⟨rfl,h2⟩
 subst h2
 clear HH
 go_wp2_with fail
 rw [HE3.out]
 with_reducible refine HU.out.mono ?_
 rintro e w' ⟨rfl,h2⟩
 subst h2
 clear HU
 go_wp2_with fail
 with_reducible refine HS.out.mono ?_
 rintro e w1 ⟨rfl,hm1⟩
 clear HS
 have HST1:=zh (show LayInv w' w1 b sb mb ub F K m turn next B d K from by
  obtain ⟨⟨d',q1,q2,q3,q4,q5,q6⟩,⟨D,q7,q8⟩,q9⟩:=HST.out
  exact ⟨⟨d',q1,q2,q3,q4.stay hm1,q5,q6⟩,⟨D,q7.keep hm1 (fun f=>f),q8⟩,q9.then hm1 fun _ _ f=>f.elim⟩)
 clear HST hm1
 go_wp2_with fail
 go_loopw [13] (fun x wr=>∃ i:Int,-1<=i/\i < K/\x=.int .i64 i/\LayInv w' wr b sb mb ub F K m turn next B d (i+1).toNat) (fun x _=>(intOf x+1).toNat)
 case atStart=>exact ⟨(K:Int) - 1,by omega,by omega,rfl,by rw [show ((K:Int) - 1+1).toNat=K by omega];exact HST1.out⟩
 case round =>
  clear HST1
  obtain ⟨i,hi1,hi2,rfl,hinv⟩:=hrel
  by_cases hi0:0<=i
  ·obtain ⟨k,rfl⟩:=Int.eq_ofNat_of_zero_le hi0
   rw [show ((k:Int)+1).toNat=k+1 by omega] at hinv
   obtain ⟨⟨d',q1,q2,q3,q4,q5,q6⟩,⟨D,q7,q8⟩,q9⟩:=hinv
   obtain rfl:=q8 (by omega)
   have hkm:k*m < B.length:=Nat.lt_of_le_of_lt (Nat.mul_le_mul_right m (show k<=K - 1 by omega)) HKU.out
   obtain ⟨Q,hQ⟩:∃ Q,Q=k*m:=⟨_,rfl⟩
   rw [<- hQ] at hkm
   have hmul:(k:Int)*(m:Int)=(Q:Int):=by rw [hQ,Int.natCast_mul]
   have b1:(-9223372036854775808:Int)<=(k:Int)*(m:Int):=by rw [hmul];omega
   have b2:(k:Int)*(m:Int)<=9223372036854775807:=by rw [hmul];omega
   have HMUL:=zh hmul
   have hpr:=q9.keep HP.out (fun e=>e.elim HNO.out.1 HNO.out.2.2)
   have c00:=cell_of (i:=0) hpr rfl
   have c05:=cell_of (i:=5) hpr rfl
   have HPR:=zh hpr
   have HSZ:=size_ok q4
   rw [q2,HZ.out.1] at HSZ
   have HSZ:=zh HSZ
   have HSL1:=zh (HSL.out.keep q9 (fun q cur fz e _=>e.elim (fun e=>HDN.out q e cur fz) (fun e=>by subst e;exact HUN.out cur _ fz)))
   obtain ⟨ZB,hZB⟩:∃ ZB:Array Value,ZB=(bv (List.replicate Z 0)).toArray:=⟨_,rfl⟩
   have hZ4:Z<=4096:=by have:=HZ.out.2.1;omega
   have hmk:∀ w,(Instr.makeSlice 41 (.int .i64 (Z:Int)) (.int .i64 (Z:Int))).run prog w=.ok (.slice (some ⟨w.heap.size,0,none⟩) Z Z) (w.alloc (.cells ZB 5)):=fun w=>by
    rw [hZB,<- madeBytes]
    exact run_make_row' (P:=prog) 41 5 (.int .u8 0) 1 underlying41 info_u8 rfl .i64 .i64 Z (by omega) (by omega) w
   have HDK:=zh (show (d'.n=d.n/\d'.sz=d.sz/\Well d'/\DkAt wr No b sb mb d'/\(∀ j,k+1<=j->j < K->d'.last (F+j)=laidAt m turn next B j)/\∀ q,q < F+(k+1)\/F+K<=q->d'.last q=d.last q)/\Mp wr 3 ub (.map [])/\Mod (fun q=>Own3 b sb mb q\/q=ub) w' wr from ⟨⟨q1,q2,q3,q4,q5,q6⟩,q7,q9⟩)
   have HZB:=zh hZB
   have HQ:=zh hQ
   clear q1 q2 q3 q4 q5 q6 q7 q8 q9 hmul hpr hZB hQ
   go_wp2_with fail
   with_reducible refine HSZ.out.mono ?_
   rintro e w3 ⟨rfl,h2⟩
   subst h2
   clear HSZ
   go_upto_region 9 with fail
   obtain ⟨g,hg⟩:∃ g,g=wr.heap.size:=⟨_,rfl⟩
   obtain ⟨w2,hw2⟩:∃ w2,w2=wr.alloc (.cells ZB 5):=⟨_,rfl⟩
   rw [<- hg,<- hw2]
   have m2:Mod No wr w2:=by rw [hw2];exact (Mod.refl No wr).alloc _
   have hg2:w2.heap[g]? = some (.cells ZB 5 (0,0)):=by rw [hw2,hg];exact heap_alloc_new wr _
   have HLS:=lsize_any ((HDK.out.1.2.2.2.1.stay m2).stay (Mod.refl No w2).drew) ((Mod.refl No w2).drew.cell (m2.cell c00 (fun f=>f)) (fun f=>f))
   rw [HDK.out.1.2.1,show d.sz - 16=m by have:=HZ.out;omega] at HLS
   have HLS:=zh HLS
   have hsl2:=(HSL1.out.kn m2).keep (Mod.refl No w2).drew (fun _ _ _ f=>f.elim)
   obtain ⟨N,hN⟩:∃ N,N=((B.drop Q).take m).length:=⟨_,rfl⟩
   have hN2:=hN
   rw [List.length_take,List.length_drop] at hN2
   obtain ⟨cur1,hcur1⟩:∃ cur1:Array Value,cur1=(bv ((B.drop Q).take m)++bv (List.replicate (Z - N) 0)).toArray:=⟨_,rfl⟩
   have hcp:∀ ty,(Builtin.copy_ #[41,41] ty #[.slice (some ⟨g,0,none⟩) m Z,.slice (some ⟨blk,o+Q,none⟩) (B.length - Q) (c - Q)]).run prog w2.drew=.ok (goInt N) (w2.drew.setRow g cur1):=fun ty=>by
    have h:=run_copy_row (P:=prog) w2.drew 41 41 ty 5 g 0 m Z ⟨blk,o+Q,none⟩ (B.length - Q) (c - Q) ZB 5 (bv ((B.drop Q).take m)) underlying41 (by kernel_rfl) hg2
     (by rw [bv_length,List.length_take,List.length_drop];exact Nat.min_comm _ _) (fun j u hu=>by
      have hj:=(List.getElem?_eq_some_iff.1 hu).1
      rw [bv_length,List.length_take,List.length_drop] at hj
      have hc:=hsl2.cell (i:=Q+j) (by rw [bv_length];omega)
      rw [Addr.add_lit]
      dsimp only at hc
      rw [show o+Q+j=o+(Q+j) by omega,hc,<- hu,bv_get?,bv_get?,List.getElem?_take,if_pos (by omega),List.getElem?_drop]) (by
      rw [bv_length,List.length_take,List.length_drop,HZB.out];simp;have:=HZ.out;omega) (bv_one _)
    rw [h,bv_length,<- hN,hcur1,HZB.out]
    simp [bv]
   have HG2:=zh hg2
   have HC1:=zh hcur1
   have HNN:=zh (And.intro hN hN2)
   have M2:=zh m2
   have HGG:=zh (And.intro hg hw2)
   have hmZ:(m:Int)<=(Z:Int):=by have:=HZ.out;omega
   clear hg2 hcur1 hN hN2 m2 hg hw2 hsl2 hmk
   have hQle:Q<=B.length:=by omega
   have hcQ:¬ c=Q:=by omega
   refine wp_region_T (fun _=>True) 0 (by kernel_rfl) ?_
   refine wpAnyT_takeU 0 (some 48) ?_ rfl rfl (by kernel_rfl) (fun _ _ _ h=>h) (Or.inl ⟨by rfl,?_⟩) ?_
   rotate_left
   ·(intro w' hSw;go_simp;try with_reducible rfl)
   simp only [Act.put,yB,yC,yD]
   refine wpAnyT_takeU 1 (some 49) ?_ rfl rfl (by kernel_rfl) (fun _ _ _ h=>h) (Or.inl ⟨by rfl,?_⟩) ?_
   rotate_left
   ·(intro w' hSw;go_simp;try with_reducible rfl)
   simp only [Act.put,yB,yC,yD]
   refine wpAnyT_takeU 4 (some 52) ?_ rfl rfl (by kernel_rfl) (fun _ _ _ h=>h) (Or.inl ⟨by rfl,?_⟩) ?_
   rotate_left
   ·(intro w' hSw;go_simp;try with_reducible rfl)
   simp only [Act.put,yB,yC,yD]
   refine wpAnyT_takeU 5 (some 53) ?_ rfl rfl (by kernel_rfl) (fun _ _ _ h=>h) (Or.inl ⟨by rfl,?_⟩) ?_
   rotate_left
   ·(intro w' hSw;go_simp;try with_reducible rfl)
   simp only [Act.put,yB,yC,yD]
   refine wpAnyT_takeU 6 (some 54) ?_ rfl rfl (by kernel_rfl) (fun _ _ _ h=>h) (Or.inl ⟨by rfl,?_⟩) ?_
   rotate_left
   ·(intro w' hSw;go_simp;try with_reducible rfl)
   simp only [Act.put,yB,yC,yD]
   refine wpAnyT_one 2 rfl (by kernel_rfl) rfl ?_
   intro K hK
   go_simp
   (go_at_call 125;with_reducible refine HLS.out.mono ?_;rintro e w' ⟨rfl,rfl⟩)
   show K _ _
   refine hK.out _ _ (fun _=>trivial) ?_
   clear hK K
   refine wpAnyT_takeU 3 (some 51) ?_ rfl rfl (by kernel_rfl) (fun _ _ _ h=>h) (Or.inl ⟨by rfl,?_⟩) ?_
   rotate_left
   ·(intro w' hSw;go_simp;try with_reducible rfl)
   simp only [Act.put,yB,yC,yD]
   refine wpAnyT_one 7 rfl (by kernel_rfl) rfl ?_
   intro K hK
   go_simp
   (go_at_call 125;with_reducible refine HLS.out.mono ?_;rintro e w' ⟨rfl,rfl⟩)
   show K _ _
   refine hK.out _ _ (fun _=>trivial) ?_
   clear hK K
   refine wpAnyT_takeU 8 (some 56) (.int .i64 (Q:Int)) rfl rfl (by kernel_rfl) (fun _ _ _ h=>h) (Or.inl ⟨by rfl,?_⟩) ?_
   ·(intro w' hSw;go_simp;rw [HMUL.out,IntKind.wrap_i64];omega)
   simp only [Act.put,yB,yC,yD]
   refine wpAnyT_takeU 9 (some 57) (.slice (some ⟨blk,o+Q,none⟩) (B.length - Q) (c - Q)) rfl rfl (by kernel_rfl) (fun _ _ _ h=>h) (Or.inl ⟨by rfl,?_⟩) ?_
   ·(intro w' hSw;go_simp)
   simp only [Act.put,yB,yC,yD]
   refine wpAnyT_one 10 rfl (by kernel_rfl) rfl ?_
   intro K hK
   go_simp
   show K _ _
   refine hK.out _ _ (fun _=>trivial) ?_
   clear hK K
   refine wpAnyT_done (by kernel_rfl) ?_ _
   obtain ⟨w4,hw4⟩:∃ w4,w4=w2.drew.setRow g cur1:=⟨_,rfl⟩
   rw [<- hw4]
   have hg4:w4.heap[g]? = some (.cells cur1 5 (0,0)):=by rw [hw4];exact setRow_heap w2.drew g ZB cur1 5 (0,0) HG2.out
   have m4:Mod No wr w4:=by
    refine M2.out.drew.then (T:=fun q=>q=g) ?_ (fun q hq e=>by have:=HGG.out.1;omega)
    rw [hw4]
    exact ⟨rfl,rfl,rfl,by simp,fun j hj hn=>setRow_other w2.drew g j cur1 hn⟩
   have hc1l:cur1.toList=bv ((B.drop (k*m)).take m)++bv (List.replicate (m+16 - ((B.drop (k*m)).take m).length) 0):=by
    rw [HC1.out,<- HQ.out,<- HNN.out.1,<- HZ.out.2.1]
   have hc1s:cur1.size=Z:=by
    rw [<- Array.length_toList,hc1l,List.length_append,bv_length,bv_length,List.length_replicate,List.length_take,List.length_drop]
    have:=HZ.out;omega
   have hgo:¬ Own3 b sb mb g:=fun e=>by have:=HDK.out.1.2.2.2.1.lt e;have:=HGG.out.1;omega
   have hgu:g ≠ ub:=fun e=>by
    obtain ⟨es,cc,hx⟩:=HDK.out.2.1.heap
    have:=lt_of_heap hx;have:=HGG.out.1;omega
   have HGO:=zh (And.intro hgo hgu)
   have HG4:=zh hg4
   have M4:=zh m4
   have HCL:=zh hc1l
   have HCS:=zh hc1s
   have c04:=m4.cell c00 (fun f=>f)
   have c54:=m4.cell c05 (fun f=>f)
   clear hw4 hg4 m4 hc1l hc1s hgo hgu c00 c05 hcp HLS HG2 HC1 HNN M2 HSL1 HZB
   by_cases hk0:k=0
   ·subst hk0
    have HLS:=lsize_any (HDK.out.1.2.2.2.1.stay M4.out) c04
    rw [HDK.out.1.2.1,show d.sz - 16=m by have:=HZ.out;omega] at HLS
    have HLS:=zh HLS
    have HP1:=zh (put_row g m 8 (Z - m) turn cur1 5 w4 HG4.out (by omega) (by rw [HCS.out];have:=HZ.out;omega))
    have hm8:(m:Int)+8<=(Z:Int):=by have:=HZ.out;omega
    go_wp2_with fail
    with_reducible refine HLS.out.mono ?_
    rintro e w' ⟨rfl,h2⟩
    subst h2
    go_wp2_with fail
    with_reducible refine HLS.out.mono ?_
    rintro e w' ⟨rfl,h2⟩
    subst h2
    clear HLS
    go_wp2_with fail
    with_reducible refine HP1.out.mono ?_
    clear HP1
    rintro e w5 ⟨rfl,⟨cur2,hg5,hpa2⟩,hm5⟩
    have m5:Mod No wr w5:=M4.out.then hm5 fun i hi e=>by have:=HGG.out.1;omega
    have HLS:=lsize_any (HDK.out.1.2.2.2.1.stay m5) (m5.cell (cell_of (i:=0) HPR.out rfl) (fun f=>f))
    rw [HDK.out.1.2.1,show d.sz - 16=m by have:=HZ.out;omega] at HLS
    have HLS:=zh HLS
    have hz5:cur2.size=Z:=by rw [hpa2.size,HCS.out]
    have HP2:=put_row g (m+8) 8 (Z - (m+8)) (next+1) cur2 5 w5 hg5 (by omega) (by rw [hz5];have:=HZ.out;omega)
    rw [show ((next+1:Nat):Int)=(next:Int)+1 from rfl] at HP2
    have HP2:=zh HP2
    have HPA2:=zh hpa2
    have HZ5:=zh hz5
    clear hg5 hpa2 hm5 hz5 M4 c04 c54
    have c05:=cell_of (i:=5) HPR.out rfl
    have c05:=m5.cell c05 (fun f=>f)
    have M5:=zh m5
    clear m5
    have hzm:¬ Z=m+8:=by have:=HZ.out;omega
    have HE8:=zh (show Z - (m+8)=8 by have:=HZ.out;omega)
    rw [HE8.out] at HP2
    go_wp2_with fail
    with_reducible refine HLS.out.mono ?_
    rintro e w' ⟨rfl,h2⟩
    subst h2
    clear HLS
    go_wp2_with fail
    rw [HE8.out]
    with_reducible refine HP2.out.mono ?_
    clear HP2
    rintro e w6 ⟨rfl,⟨cur3,hg6,hpa3⟩,hm6⟩
    have m6:Mod No wr w6:=M5.out.then hm6 fun i hi e=>by have:=HGG.out.1;omega
    have hlc:=laid_cells1 (turn:=turn) (next:=next) HCL.out HPA2.out hpa3
    have HFL:=zh (flush_any No b sb mb d' w6 (HDK.out.1.2.2.2.1.stay m6))
    have c06:=m6.cell (cell_of (i:=0) HPR.out rfl) (fun f=>f)
    have HLC:=zh hlc
    have HG6:=zh hg6
    have M6:=zh m6
    clear hg6 hpa3 hm6 m6 hlc c05
    go_wp2_with fail
    with_reducible refine HFL.out.mono ?_
    clear HFL
    rintro e w7 ⟨rfl,hd7,hm7⟩
    have f:=Dk.flush_well d' HDK.out.1.2.2.1
    rw [f.2.2.2]
    have hp7:=hm7.keep (M6.out.keep HPR.out (fun f=>f)) HNO.out.1
    have c07:=cell_of (i:=0) hp7 rfl
    have c57:=cell_of (i:=5) hp7 rfl
    have hmp7:=(HDK.out.2.1.keep M6.out (fun f=>f)).keep hm7 HNO.out.2.1
    obtain ⟨w8,hst,hmp8,hm8,-⟩:=hmp7.store (t:=129) (val:=.int .u64 (turn:Int)) key_int underlying129 (by show (0:Nat) < maxLen;unfold maxLen;omega) (keyOf_nat F (by have:=HZ.out;omega))
    have c08:=hm8.cell c07 HNO.out.2.2
    have hd8:=hd7.keep hm8 (fun e=>HNO.out.2.1 (.inl e.symm)) (fun e=>HNO.out.2.1 (.inr (.inl e.symm))) (fun e=>HNO.out.2.1 (.inr (.inr e.symm))) (fun q e=>.inr fun cur fz=>by
     subst e
     exact fun hx=>mp_not_cells hmp7 _ _ _ hx)
    have hll:(laidAt m turn next B 0).length=Z:=by rw [laidAt_len,<- HZ.out.2.1]
    have hg8:=hm8.keep (hm7.keep HG6.out HGO.out.1) HGO.out.2
    have HWR:=write_any No No b sb mb d'.flush (F:Int) (.slice (some ⟨g,0,none⟩) Z Z) (laidAt m turn next B 0) w8 hd8 (by rw [hll];exact Sl.of_cells hg8 HLC.out hll (by unfold maxLen;omega)) (by rw [hll];omega) (fun _ f=>f.elim)
    have hwe:=Dk.write_well (i:=F) (l:=laidAt m turn next B 0) f.1 (by rw [f.2.1,HDK.out.1.1];have:=HZ.out;omega) (by rw [hll,f.2.2.1,HDK.out.1.2.1,HZ.out.1])
    rw [hwe.2.2.2.1] at HWR
    have HWR:=zh HWR
    have HEND:=zh (And.intro f (And.intro hmp8 (((M6.out.weaken fun _ _ f=>f.elim:Mod (fun q=>Own3 b sb mb q\/q=ub) wr w6).trans (hm7.weaken fun _ _ e=>.inl e)).trans (hm8.weaken fun _ _ e=>.inr e))))
    have hF4:(F:Int)<=4096:=by have:=HZ.out;omega
    clear hd7 hm7 hp7 hmp7 hmp8 hm8 hd8 hll hg8 hwe f c07
    go_wp2_with fail
    with_reducible refine HWR.out.mono ?_
    clear HWR
    rintro e w9 ⟨rfl,hd9,hm9⟩
    have HFIN:=zh (LayInv.next (k:=0) hK1 (HEND.out.1.2.1.trans HDK.out.1.1) (HEND.out.1.2.2.1.trans HDK.out.1.2.1) HEND.out.1.1 HZ.out.2.2.2 (by rw [HZ.out.1,HZ.out.2.1]) hd9 (fun j h1 h2=>by rw [Dk.flush_last _ HDK.out.1.2.2.1];exact HDK.out.1.2.2.2.2.1 j h1 h2) (fun q h=>by rw [Dk.flush_last _ HDK.out.1.2.2.1];exact HDK.out.1.2.2.2.2.2 q h) ⟨_,HEND.out.2.1.keep hm9 (fun e=>HNO.out.2.1 (e.elim .inl fun e=>.inr (.inr e))),fun h=>by omega⟩
     ((HDK.out.2.2.trans HEND.out.2.2).trans (hm9.weaken fun _ _ e=>.inl (e.elim .inl fun e=>.inr (.inr e)))))
    clear hd9 hm9
    go_wp2_with fail
    exact ⟨⟨-1,by omega,by omega,rfl,HFIN.out⟩,by go_light;simp only [intOf];omega⟩
   ·have hk1:¬ (k:Int)=0:=by omega
    have hFk:(F:Int)+(k:Int)<=4096:=by have:=HZ.out;omega
    have hll:(laidAt m turn next B k).length=Z:=by rw [laidAt_len,<- HZ.out.2.1]
    have HWR:=write_any No No b sb mb d' ((F+k:Nat):Int) (.slice (some ⟨g,0,none⟩) Z Z) (laidAt m turn next B k) w4 (HDK.out.1.2.2.2.1.stay M4.out) (by rw [hll];exact Sl.of_cells HG4.out (by rw [HCL.out,laid_cells0 hk0]) hll (by unfold maxLen;omega)) (by rw [hll];omega) (fun _ f=>f.elim)
    have hwe:=Dk.write_well (i:=F+k) (l:=laidAt m turn next B k) HDK.out.1.2.2.1 (by rw [HDK.out.1.1];have:=HZ.out;omega) (by rw [hll,HDK.out.1.2.1,HZ.out.1])
    rw [hwe.2.2.2.1,Int.natCast_add] at HWR
    have HWR:=zh HWR
    clear hwe hll
    go_wp2_with fail
    with_reducible refine HWR.out.mono ?_
    clear HWR
    rintro e w9 ⟨rfl,hd9,hm9⟩
    rw [<- Int.natCast_add] at hd9
    have HFIN:=zh (LayInv.next (k:=k) (by omega) HDK.out.1.1 HDK.out.1.2.1 HDK.out.1.2.2.1 HZ.out.2.2.2 (by rw [HZ.out.1,HZ.out.2.1]) hd9 HDK.out.1.2.2.2.2.1 HDK.out.1.2.2.2.2.2 ⟨_,(HDK.out.2.1.keep M4.out (fun f=>f)).keep hm9 (fun e=>HNO.out.2.1 (e.elim .inl fun e=>.inr (.inr e))),fun _=>rfl⟩
     ((HDK.out.2.2.trans (M4.out.weaken fun _ _ f=>f.elim)).trans (hm9.weaken fun _ _ e=>.inl (e.elim .inl fun e=>.inr (.inr e)))))
    clear hd9 hm9
    go_wp2_with fail
    exact ⟨⟨(k:Int) - 1,by omega,by omega,rfl,by rw [show ((k:Int) - 1+1).toNat=k by omega];exact HFIN.out⟩,by go_light;simp only [intOf];omega⟩
  ·have him:i = -1:=by omega
   subst him
   obtain ⟨⟨d',q1,q2,q3,q4,q5,q6⟩,⟨D,q7,q8⟩,q9⟩:=hinv
   have hpr:=q9.keep HP.out (fun e=>e.elim HNO.out.1 HNO.out.2.2)
   have c00:=cell_of (i:=0) hpr rfl
   have HFL:=zh (flush_any No b sb mb d' wr q4)
   have HPR:=zh hpr
   have HDK:=zh (And.intro (show d'.n=d.n/\d'.sz=d.sz/\Well d'/\(∀ j,((-1:Int)+1).toNat<=j->j < K->d'.last (F+j)=laidAt m turn next B j)/\(∀ q,q < F+((-1:Int)+1).toNat\/F+K<=q->d'.last q=d.last q) from ⟨q1,q2,q3,q5,q6⟩) (And.intro q7 q9))
   clear q1 q2 q3 q4 q5 q6 q7 q8 q9 hpr
   go_wp2_with fail
   with_reducible refine HFL.out.mono ?_
   clear HFL
   rintro e w5 ⟨rfl,hd5,hm5⟩
   obtain ⟨f1,f2,f3,f4⟩:=Dk.flush_well d' HDK.out.1.2.2.1
   rw [f4]
   have c05:=cell_of (i:=5) (hm5.keep HPR.out HNO.out.1) rfl
   obtain ⟨w6,hclr,hmp6,hm6,-⟩:=(HDK.out.2.1.keep hm5 HNO.out.2.1).clear (t:=129) underlying129
   have HEND:=zh (And.intro hd5 (And.intro hm5 (And.intro hmp6 hm6)))
   clear hd5 hm5 hmp6 hm6 f1 f2 f3 f4
   go_wp2_with fail
   have hd5:=HEND.out.1
   have f:=Dk.flush_well d' HDK.out.1.2.2.1
   have hm6:=HEND.out.2.2.2
   refine fin hR ⟨rfl,⟨d'.flush,f.2.1.trans HDK.out.1.1,f.2.2.1.trans HDK.out.1.2.1,f.1,hd5.keep hm6 (fun e=>HNO.out.2.1 (.inl e.symm)) (fun e=>HNO.out.2.1 (.inr (.inl e.symm))) (fun e=>HNO.out.2.1 (.inr (.inr e.symm))) (fun q e=>.inr fun cur fz=>by
    subst e
    exact fun hx=>mp_not_cells (HDK.out.2.1.keep HEND.out.2.1 HNO.out.2.1) _ _ _ hx),⟨fun j hj=>?_,fun j hj=>?_⟩⟩,HEND.out.2.2.1,(HDK.out.2.2.trans (HEND.out.2.1.weaken fun _ _ e=>.inl e)).trans (hm6.weaken fun _ _ e=>.inr e)⟩
   ·rw [Dk.flush_last _ HDK.out.1.2.2.1];exact HDK.out.1.2.2.2.1 j (by omega) hj
   ·rw [Dk.flush_last _ HDK.out.1.2.2.1];exact HDK.out.1.2.2.2.2 j (by omega)
def wrE (H m at_:Nat) (rs:List (List UInt8)):Int:=if rs.any isLong=true then 42 else if (H - at_)*m < 32+(bodyB rs).length then 40 else 0
theorem Recs.mem_short {rs:List (List UInt8)} (h:rs.any isLong=false):∀ r ∈ rs,r.length<=1048576:=fun r hr=>by
 have h1:=List.any_eq_false.1 h r hr
 unfold isLong at h1
 simp only [decide_eq_true_eq] at h1
 omega
set_option maxRecDepth 100000 in
set_option maxHeartbeats 4000000 in
theorem wwrite_any {b sb mb p ub:Nat} {d:Dk} {w:World} {v:Value} {rs:List (List UInt8)} {turn0 next0 at0 c0:Nat} (turn next at_ m H F:Nat) (hm:d.sz=m+16) (hH:d.n / 2=H) (hF:F=turn % 2*H+at_) (hz:112<=m) (hw:Well d) (h:DkAt w No b sb mb d)
  (hp:w.heap[p]? = some (LgObj b ub turn0 next0 at0 c0)) (hub:Mp w 3 ub (.map [])) (hne:ub ≠ mb) (hv:Recs w No v rs) (hl:rs.length<=1000000000) (ha:at_<=H) (ht:turn < 4611686018427387904) (hn:next+1 < 4611686018427387904) :
  Calls prog 86 #[.pointer (some ⟨p,0,none⟩),.int .u64 (turn:Int),.int .u64 (next:Int),.int .i64 (at_:Int),v] w fun e w' =>
   (wrE H m at_ rs ≠ 0/\e=.returned (.tuple #[.int .i64 0,.int .i64 (wrE H m at_ rs)])/\Mod No w w') ∨
   (wrE H m at_ rs=0/\at_+secs m (32+(bodyB rs).length)<=H/\e=.returned (.tuple #[.int .i64 ((at_+secs m (32+(bodyB rs).length):Nat):Int),.int .i64 0]) ∧
    (∃ d',d'.n=d.n/\d'.sz=d.sz/\Well d'/\DkAt w' No b sb mb d'/\Laid d.last d'.last m turn next F (secs m (32+(bodyB rs).length)) (frameB turn next rs))/\Mp w' 3 ub (.map [])/\Mod (fun q=>Own3 b sb mb q\/q=ub) w w'):=by
 refine calls_hide fun R hR=>?_
 obtain ⟨a,c,rfl⟩:=hv.len
 have hn2:d.n<=4096:=h.n2
 have hz2:d.sz<=4096:=h.s2
 have HC:=zh (contains_any hv hl)
 have c00:=cell_of (i:=0) hp rfl
 have HH:=zh (And.intro hm (And.intro hH hF))
 have HD:=zh (And.intro hw (And.intro h (And.intro hp (And.intro hub hv))))
 have hH2:H<=2048:=by omega
 have hm2:m<=4080:=by omega
 have hM:(H - at_)*m<=2048*4080:=Nat.mul_le_mul (by omega) hm2
 have hMD:(H - at_)*m<=d.n*d.sz:=Nat.mul_le_mul (by omega) (by omega)
 cases hlong:rs.any isLong with
 | true =>
  rw [hlong] at HC
  have HE:=zh (show wrE H m at_ rs=42 by unfold wrE;rw [if_pos hlong])
  clear hw h hp hub hv c00 hm hH hF hlong hMD
  go_enter func86,ntmps86
  go_wp2_with fail
  with_reducible refine HC.out.mono ?_
  rintro e w' ⟨rfl,h2⟩
  subst h2
  go_wp2_with fail
  exact fin hR (.inl ⟨by rw [HE.out];decide,by rw [HE.out];rfl,Mod.refl _ _⟩)
 | false =>
  rw [hlong] at HC
  have hsh:=Recs.mem_short hlong
  have HB:=bytes_any hv (fun r hr=>by have:=hsh r hr;omega) hl h c00
  obtain ⟨N,hN⟩:∃ N,N=min (32+(bodyB rs).length) (d.n*d.sz+1):=⟨_,rfl⟩
  obtain ⟨A,hA⟩:∃ A,A=(H - at_)*m:=⟨_,rfl⟩
  rw [<- hN] at HB
  rw [<- hA] at hM hMD
  have HB:=zh HB
  by_cases hgt:A < 32+(bodyB rs).length
  ·have HE:=zh (show wrE H m at_ rs=40 by unfold wrE;rw [if_neg (by rw [hlong];decide),if_pos (by rw [<- hA];exact hgt)])
   have hAN:(A:Int) < (N:Int):=by omega
   have HA:=zh hA
   clear hw h hp hub hv hm hH hF hlong hMD hsh hN hgt hA c00
   go_enter func86,ntmps86
   go_wp2_with fail
   with_reducible refine HC.out.mono ?_
   rintro e w' ⟨rfl,h2⟩
   subst h2
   go_wp2_with fail
   with_reducible refine HB.out.mono ?_
   rintro e w1 ⟨rfl,hm1⟩
   have HMO:=most_any at_ (by rw [HH.out.2.1];exact ha) (HD.out.2.1.stay hm1) (hm1.cell (cell_of (i:=0) HD.out.2.2.1 rfl) (fun f=>f))
   rw [HH.out.2.1,show d.sz - 16=m by have:=HH.out.1;omega,<- HA.out] at HMO
   have HMO:=zh HMO
   have M1:=zh hm1
   clear hm1
   go_wp2_with fail
   with_reducible refine HMO.out.mono ?_
   rintro e w2 ⟨rfl,h2⟩
   subst h2
   go_wp2_with fail
   exact fin hR (.inl ⟨by rw [HE.out];decide,by rw [HE.out];rfl,M1.out⟩)
  ·have HE:=zh (show wrE H m at_ rs=0 by unfold wrE;rw [if_neg (by rw [hlong];decide),if_neg (by rw [<- hA];exact hgt)])
   have hNB:N=32+(bodyB rs).length:=by omega
   have hNA:(N:Int)<=(A:Int):=by omega
   have hK:secs m (32+(bodyB rs).length)<=H - at_:=secs_le (by omega) (by omega)
   have HA:=zh hA
   have HNB:=zh hNB
   have HSH:=zh hsh
   have HK:=zh hK
   have hN8:N<=2048*4080:=by omega
   have hkI:((secs m N:Nat):Int)<=2048:=by rw [hNB];omega
   have haI:(at_:Int)<=2048:=by omega
   clear hw h hp hub hv hm hH hF hlong hMD hsh hN hgt hA c00 hNB hK
   go_enter func86,ntmps86
   go_wp2_with fail
   with_reducible refine HC.out.mono ?_
   rintro e w' ⟨rfl,h2⟩
   subst h2
   clear HC
   go_wp2_with fail
   with_reducible refine HB.out.mono ?_
   clear HB
   rintro e w1 ⟨rfl,hm1⟩
   have HMO:=most_any at_ (by rw [HH.out.2.1];exact ha) (HD.out.2.1.stay hm1) (hm1.cell (cell_of (i:=0) HD.out.2.2.1 rfl) (fun f=>f))
   rw [HH.out.2.1,show d.sz - 16=m by have:=HH.out.1;omega,<- HA.out] at HMO
   have HMO:=zh HMO
   have HS:=lsecs_any N (by omega) (HD.out.2.1.stay hm1) (hm1.cell (cell_of (i:=0) HD.out.2.2.1 rfl) (fun f=>f))
   rw [show d.sz - 16=m by have:=HH.out.1;omega] at HS
   have HS:=zh HS
   have M1:=zh hm1
   clear hm1
   go_wp2_with fail
   with_reducible refine HMO.out.mono ?_
   clear HMO
   rintro e w2 ⟨rfl,h2⟩
   subst h2
   go_wp2_with fail
   with_reducible refine HS.out.mono ?_
   clear HS
   rintro e w2 ⟨rfl,hm2'⟩
   have m2:=M1.out.trans hm2'
   have HFR:=zh (frame_any turn next (HD.out.2.2.2.2.stay m2) (fun r hr=>by have:=HSH.out r hr;omega) (by have:=HNB.out;omega) hl)
   have M2:=zh m2
   clear hm2' m2 M1
   go_wp2_with fail
   with_reducible refine HFR.out.mono ?_
   clear HFR
   rintro e w3 ⟨v',rfl,hown,hm3⟩
   have m3:=M2.out.trans hm3
   have hfl:=frameB_len turn next rs
   have hLY:=lay_any (v:=v') (B:=frameB turn next rs) turn next at_ m H F (secs m (32+(bodyB rs).length)) (m+16) HH.out.1 rfl HH.out.2.1 HH.out.2.2 (by rw [hfl]) hz HD.out.1 (HD.out.2.1.stay m3) (m3.keep HD.out.2.2.1 (fun f=>f)) (HD.out.2.2.2.1.keep m3 (fun f=>f)) hne (Sl.of_own hown (fun _ _ f=>f)) (by omega) (by have:=HNB.out;omega) (by have:=HK.out;omega) ht hn
   have HLY:=zh hLY
   have M3:=zh m3
   obtain ⟨fa,fc,rfl⟩:=own_len hown
   clear hown hm3 m3 hfl hLY M2
   go_wp2_with fail
   with_reducible refine HLY.out.mono ?_
   clear HLY
   rintro e w4 ⟨rfl,hdk,hmp,hm4⟩
   have HF:=zh (And.intro hdk (And.intro hmp hm4))
   clear hdk hmp hm4
   go_wp2_with fail
   refine fin hR (.inr ⟨HE.out,by have:=HK.out;omega,?_,HF.out.1,HF.out.2.1,(M3.out.weaken fun _ _ f=>f.elim).trans HF.out.2.2⟩)
   rw [<- HNB.out]
   rfl
structure LogHas (w:World) (p b sb mb ub:Nat) (d:Dk) (L:Lg):Prop where
 disk:DkAt w No b sb mb d
 at_:LogAt w p b ub L
 ne:ub ≠ mb
 well:Well d
 n:16<=d.n
 sz:128<=d.sz
 ok:LogOK d.last (d.n / 2) (d.sz - 16) L
theorem LogHas.stay {w w':World} {p b sb mb ub:Nat} {d:Dk} {L:Lg} (h:LogHas w p b sb mb ub d L) (hm:Mod No w w'):LogHas w' p b sb mb ub d L :=
 ⟨h.disk.stay hm,⟨hm.keep h.at_.obj (fun f=>f),h.at_.undone.keep hm (fun f=>f)⟩,h.ne,h.well,h.n,h.sz,h.ok⟩
theorem LogHas.bounds {w:World} {p b sb mb ub:Nat} {d:Dk} {L:Lg} (h:LogHas w p b sb mb ub d L):L.next<=L.at_/\L.at_<=d.n / 2/\d.n / 2<=2048/\d.sz - 16<=4080/\L.all.length<=2048*4080:=by
 have h1:=h.ok.chain.bounds (by have:=h.sz;omega)
 have h2:=h.ok.chain.le (by have:=h.sz;omega)
 have h3:=h.disk.n2
 have h4:=h.disk.s2
 refine ⟨h1.1,h2,by omega,by omega,Nat.le_trans h1.2 (Nat.mul_le_mul (by omega) (by omega))⟩
theorem wrE_ok {H m at_:Nat} {rs:List (List UInt8)} (h:wrE H m at_ rs=0):(∀ r ∈ rs,r.length<=1048576)/\32+(bodyB rs).length<=(H - at_)*m:=by
 unfold wrE at h
 cases hl:rs.any isLong with
 | true=>rw [if_pos hl] at h;exact absurd h (by decide)
 | false =>
  rw [if_neg (by rw [hl];decide)] at h
  refine ⟨Recs.mem_short hl,?_⟩
  split at h
  ·exact absurd h (by decide)
  ·omega
set_option maxRecDepth 100000 in
set_option maxHeartbeats 4000000 in
theorem commit_any {w:World} {p b sb mb ub:Nat} {d:Dk} {L:Lg} {v:Value} {rs:List (List UInt8)} (h:LogHas w p b sb mb ub d L) (hv:Recs w No v rs) (hl:rs.length<=1000000000) :
  Calls prog 33 #[.pointer (some ⟨p,0,none⟩),v] w fun e w'=>e=.returned (.int .i64 (wrE (d.n / 2) (d.sz - 16) L.at_ rs)) ∧
   ((wrE (d.n / 2) (d.sz - 16) L.at_ rs ≠ 0/\Mod No w w')\/(wrE (d.n / 2) (d.sz - 16) L.at_ rs=0/\Mod (fun q=>Own3 b sb mb q\/q=ub\/q=p) w w' ∧
    ∃ d',d'.n=d.n/\d'.sz=d.sz/\LogHas w' p b sb mb ub d' ⟨L.turn,L.next+1,L.at_+secs (d.sz - 16) (32+(bodyB rs).length),L.all++rs⟩)):=by
 refine calls_hide fun R hR=>?_
 obtain ⟨a,c,rfl⟩:=hv.len
 obtain ⟨hb1,hb2,hb3,hb4,hb5⟩:=h.bounds
 have hT:=h.ok.bT
 obtain ⟨m,hm⟩:∃ m,m=d.sz - 16:=⟨_,rfl⟩
 obtain ⟨H,hH⟩:∃ H,H=d.n / 2:=⟨_,rfl⟩
 have hp0:=h.at_.obj
 have hS0:w.drew.cell? ⟨p,1,none⟩=some (.int .u64 (L.turn:Int))/\w.drew.cell? ⟨p,2,none⟩=some (.int .u64 (L.next:Int))/\w.drew.cell? ⟨p,3,none⟩=some (.int .i64 (L.at_:Int)):=⟨cell_of (i:=1) hp0 rfl,cell_of (i:=2) hp0 rfl,cell_of (i:=3) hp0 rfl⟩
 have HWR:=wwrite_any (w:=w.drew) (rs:=rs) (v:=.slice a rs.length c) L.turn L.next L.at_ m H (L.turn % 2*H+L.at_) (by have:=h.sz;omega) hH.symm rfl (by have:=h.sz;omega) h.well (h.disk.stay (Mod.refl No w).drew) hp0 (h.at_.undone.keep (S:=No) (Mod.refl No w).drew (fun f=>f)) h.ne (hv.stay (Mod.refl No w).drew) hl (by omega) hT (by omega)
 have HWR:=zh HWR
 have HL:=zh (And.intro h (And.intro hm hH))
 have hpo:=obj_not_own h.disk hp0 (by decide) (by decide)
 have hpu:p ≠ ub:=fun e=>by subst e;exact mp_not_cells h.at_.undone _ _ _ hp0
 have HPO:=zh (And.intro hpo hpu)
 rw [<- hm,<- hH] at hR
 clear h hv hm hH hp0 hpo hpu
 go_enter func33,ntmps33
 go_upto_region 1 with fail
 refine wp_region_T (fun w'=>w'.cell? ⟨p,1,none⟩=some (.int .u64 (L.turn:Int))/\w'.cell? ⟨p,2,none⟩=some (.int .u64 (L.next:Int))/\w'.cell? ⟨p,3,none⟩=some (.int .i64 (L.at_:Int))) 99 (by kernel_rfl) ?_
 refine yT 0 (some 8) ?_ hS0 ?_ ?_
 rotate_left
 ·(intro w' hSw;go_simp;try with_reducible rfl)
 simp only [Act.put,yB,yC,yD]
 refine yT 1 (some 9) ?_ hS0 ?_ ?_
 rotate_left
 ·(intro w' hSw;go_simp;try with_reducible rfl)
 simp only [Act.put,yB,yC,yD]
 refine yT 2 (some 10) ?_ hS0 ?_ ?_
 rotate_left
 ·(intro w' hSw;go_simp;try with_reducible rfl)
 simp only [Act.put,yB,yC,yD]
 refine yT 3 (some 11) ?_ hS0 ?_ ?_
 rotate_left
 ·(intro w' hSw;go_simp;try with_reducible rfl)
 simp only [Act.put,yB,yC,yD]
 refine yT 4 (some 12) ?_ hS0 ?_ ?_
 rotate_left
 ·(intro w' hSw;go_simp;try with_reducible rfl)
 simp only [Act.put,yB,yC,yD]
 refine yT 5 (some 13) ?_ hS0 ?_ ?_
 rotate_left
 ·(intro w' hSw;go_simp;try with_reducible rfl)
 simp only [Act.put,yB,yC,yD]
 refine yT 6 (some 14) ?_ hS0 ?_ ?_
 rotate_left
 ·(intro w' hSw;go_simp;try with_reducible rfl)
 simp only [Act.put,yB,yC,yD]
 refine yT 7 (some 15) ?_ hS0 ?_ ?_
 rotate_left
 ·(intro w' hSw;go_simp;try with_reducible rfl)
 simp only [Act.put,yB,yC,yD]
 refine yT 8 (some 16) ?_ hS0 ?_ ?_
 rotate_left
 ·(intro w' hSw;go_simp;try with_reducible rfl)
 simp only [Act.put,yB,yC,yD]
 refine yT 9 (some 17) ?_ hS0 ?_ ?_
 rotate_left
 ·(intro w' hSw;go_simp;try with_reducible rfl)
 simp only [Act.put,yB,yC,yD]
 refine yT 10 (some 18) ?_ hS0 ?_ ?_
 rotate_left
 ·(intro w' hSw;go_simp;try with_reducible rfl)
 simp only [Act.put,yB,yC,yD]
 refine yT 11 (some 19) ?_ hS0 ?_ ?_
 rotate_left
 ·(intro w' hSw;go_simp;try with_reducible rfl)
 simp only [Act.put,yB,yC,yD]
 refine yT 12 (some 20) ?_ hS0 ?_ ?_
 rotate_left
 ·(intro w' hSw;go_simp;try with_reducible rfl)
 simp only [Act.put,yB,yC,yD]
 refine yT 13 (some 21) ?_ hS0 ?_ ?_
 rotate_left
 ·(intro w' hSw;go_simp;try with_reducible rfl)
 simp only [Act.put,yB,yC,yD]
 refine wpAnyT_one 14 rfl (by kernel_rfl) rfl ?_
 intro K hK
 go_simp
 go_at_call 86
 with_reducible refine HWR.out.mono ?_
 clear HWR
 rintro e w1 (⟨he,rfl,hm1⟩ | ⟨he,hk,rfl,hdk,hmp,hm1⟩)
 ·have hS1:w1.cell? ⟨p,1,none⟩=some (.int .u64 (L.turn:Int))/\w1.cell? ⟨p,2,none⟩=some (.int .u64 (L.next:Int))/\w1.cell? ⟨p,3,none⟩=some (.int .i64 (L.at_:Int)):=⟨hm1.cell hS0.1 (fun f=>f),hm1.cell hS0.2.1 (fun f=>f),hm1.cell hS0.2.2 (fun f=>f)⟩
  have HE:=zh he
  have M1:=zh hm1
  clear he hm1
  show K _ _
  refine hK.out _ _ (fun _=>hS1) ?_
  clear hK K hS0
  refine yT 15 (some 7) ?_ hS1 ?_ ?_
  rotate_left
  ·(intro w' hSw;go_simp;try with_reducible rfl)
  simp only [Act.put,yB,yC,yD]
  refine yT 16 (some 23) ?_ hS1 ?_ ?_
  rotate_left
  ·(intro w' hSw;go_simp;try with_reducible rfl)
  simp only [Act.put,yB,yC,yD]
  refine yT 17 (some 24) ?_ hS1 ?_ ?_
  rotate_left
  ·(intro w' hSw;go_simp;try with_reducible rfl)
  simp only [Act.put,yB,yC,yD]
  refine yT 18 (some 5) ?_ hS1 ?_ ?_
  rotate_left
  ·(intro w' hSw;go_simp;try with_reducible rfl)
  simp only [Act.put,yB,yC,yD]
  refine yT 19 (some 6) ?_ hS1 ?_ ?_
  rotate_left
  ·(intro w' hSw;go_simp;try with_reducible rfl)
  simp only [Act.put,yB,yC,yD]
  refine wpAnyT_done (by kernel_rfl) ?_ _
  clear hS1
  generalize wrE H m L.at_ rs=x at *
  have hx:=HE.out
  have hx2:(x == 0)=false:=by simpa using hx
  go_wp2_with fail
  exact fin hR ⟨rfl,.inl ⟨HE.out,(Mod.refl No w).drew.trans M1.out⟩⟩
 ·have hpw:=hm1.keep (show w.drew.heap[p]? = some (LgObj b ub L.turn L.next L.at_ L.all.length) from HL.out.1.at_.obj) (fun e=>e.elim HPO.out.1 HPO.out.2)
  have hS1:w1.cell? ⟨p,1,none⟩=some (.int .u64 (L.turn:Int))/\w1.cell? ⟨p,2,none⟩=some (.int .u64 (L.next:Int))/\w1.cell? ⟨p,3,none⟩=some (.int .i64 (L.at_:Int)):=⟨cell_of (i:=1) hpw rfl,cell_of (i:=2) hpw rfl,cell_of (i:=3) hpw rfl⟩
  have HE:=zh he
  have HX:=zh (And.intro hk (And.intro hdk (And.intro hmp hm1)))
  have HPW:=zh hpw
  have k1:((L.at_+secs m (32+(bodyB rs).length):Nat):Int)<=2048:=by have:=HL.out.2.2;omega
  have k0:(0:Int)<=((L.at_+secs m (32+(bodyB rs).length):Nat):Int):=Int.natCast_nonneg _
  obtain ⟨at2,hat2⟩:∃ at2,at2=L.at_+secs m (32+(bodyB rs).length):=⟨_,rfl⟩
  rw [<- hat2] at k0 k1
  rw [<- hat2]
  have HA:=zh hat2
  clear he hk hdk hmp hm1 hpw hat2
  show K _ _
  refine hK.out _ _ (fun _=>hS1) ?_
  clear hK K hS0
  refine yT 15 (some 7) ?_ hS1 ?_ ?_
  rotate_left
  ·(intro w' hSw;go_simp;try with_reducible rfl)
  simp only [Act.put,yB,yC,yD]
  refine yT 16 (some 23) ?_ hS1 ?_ ?_
  rotate_left
  ·(intro w' hSw;go_simp;try with_reducible rfl)
  simp only [Act.put,yB,yC,yD]
  refine yT 17 (some 24) ?_ hS1 ?_ ?_
  rotate_left
  ·(intro w' hSw;go_simp;try with_reducible rfl)
  simp only [Act.put,yB,yC,yD]
  refine yT 18 (some 5) ?_ hS1 ?_ ?_
  rotate_left
  ·(intro w' hSw;go_simp;try with_reducible rfl)
  simp only [Act.put,yB,yC,yD]
  refine yT 19 (some 6) ?_ hS1 ?_ ?_
  rotate_left
  ·(intro w' hSw;go_simp;try with_reducible rfl)
  simp only [Act.put,yB,yC,yD]
  refine wpAnyT_done (by kernel_rfl) ?_ _
  obtain ⟨c1,c2,c3⟩:=hS1
  have c4:=cell_of (i:=4) HPW.out rfl
  have f2:=frozen_of 2 HPW.out
  have f3:=frozen_of 3 HPW.out
  have f4:=frozen_of 4 HPW.out
  go_wp2_with fail
  obtain ⟨hk,⟨d',e1,e2,e3,hdk,hlaid⟩,hmp,hm1⟩:=HX.out
  obtain ⟨w2,hw2⟩:∃ w2,w2=((w1.setCell ⟨p,3,none⟩ (.int .i64 (at2:Int))).setCell ⟨p,2,none⟩ (.int .u64 ((L.next:Int)+1))).setCell ⟨p,4,none⟩ (.int .i64 ((L.all.length:Int)+(rs.length:Int))):=⟨_,rfl⟩
  have hm2:Mod (fun q=>q=p) w1 w2:=by rw [hw2];exact (((Mod.refl (fun q=>q=p) w1).setCell (fun _=>rfl) _).setCell (fun _=>rfl) _).setCell (fun _=>rfl) _
  have hp2:w2.heap[p]? = some (LgObj b ub L.turn (L.next+1) at2 (L.all++rs).length):=by
   rw [hw2,heap_setCell (heap_setCell (heap_setCell HPW.out _) _) _,List.length_append];rfl
  have hwe:=wrE_ok HE.out
  obtain ⟨hL,hm,hH⟩:=HL.out
  refine fin hR ⟨by rw [HE.out];rfl,.inr ⟨HE.out,?_,d',e1,e2,?_⟩⟩
  ·show Mod _ w _
   rw [<- hw2]
   exact (((Mod.refl _ w).drew).trans (hm1.weaken fun _ _ e=>e.elim .inl fun e=>.inr (.inl e))).trans (hm2.weaken fun _ _ e=>.inr (.inr e))
  ·rw [<- hw2,<- HA.out]
   refine ⟨hdk.keep hm2 (fun e=>HPO.out.1 (.inl e.symm)) (fun e=>HPO.out.1 (.inr (.inl e.symm))) (fun e=>HPO.out.1 (.inr (.inr e.symm))) (fun q e=>.inr fun cur fz hx=>by
    subst e;rw [HPW.out] at hx;cases hx),⟨hp2,hmp.keep hm2 fun e=>HPO.out.2 e.symm⟩,hL.ne,e3,by rw [e1];exact hL.n,by rw [e2];exact hL.sz,?_⟩
   rw [e1,e2,HA.out,<- hm,<- hH]
   refine LogOK.commit (by have:=hL.sz;omega) (by rw [hm,hH];exact hL.ok) (fun r hr=>by have:=hwe.1 r hr;omega) ?_ hk (by omega) hlaid
   have h1:=hwe.2
   have h2:(H - L.at_)*m<=2048*4080:=Nat.mul_le_mul (by omega) (by omega)
   omega
set_option maxRecDepth 100000 in
set_option maxHeartbeats 4000000 in
theorem reset_any {w:World} {p b sb mb ub:Nat} {d:Dk} {L:Lg} {v:Value} {rs:List (List UInt8)} (h:LogHas w p b sb mb ub d L) (hv:Recs w No v rs) (hl:rs.length<=1000000000) (hT:L.turn+1 < 4611686018427387904) :
  Calls prog 89 #[.pointer (some ⟨p,0,none⟩),v] w fun e w'=>e=.returned (.int .i64 (wrE (d.n / 2) (d.sz - 16) 0 rs)) ∧
   ((wrE (d.n / 2) (d.sz - 16) 0 rs ≠ 0/\Mod No w w')\/(wrE (d.n / 2) (d.sz - 16) 0 rs=0/\Mod (fun q=>Own3 b sb mb q\/q=ub\/q=p) w w' ∧
    ∃ d',d'.n=d.n/\d'.sz=d.sz/\LogHas w' p b sb mb ub d' ⟨L.turn+1,1,secs (d.sz - 16) (32+(bodyB rs).length),rs⟩)):=by
 refine calls_hide fun R hR=>?_
 obtain ⟨a,c,rfl⟩:=hv.len
 obtain ⟨hb1,hb2,hb3,hb4,hb5⟩:=h.bounds
 obtain ⟨m,hm⟩:∃ m,m=d.sz - 16:=⟨_,rfl⟩
 obtain ⟨H,hH⟩:∃ H,H=d.n / 2:=⟨_,rfl⟩
 have hp0:=h.at_.obj
 have c1:=cell_of (i:=1) hp0 rfl
 have HWR:=wwrite_any (w:=w) (rs:=rs) (v:=.slice a rs.length c) (L.turn+1) 0 0 m H ((L.turn+1) % 2*H) (by have:=h.sz;omega) hH.symm rfl (by have:=h.sz;omega) h.well h.disk hp0 h.at_.undone h.ne hv hl (by omega) hT (by omega)
 rw [show ((L.turn+1:Nat):Int)=(L.turn:Int)+1 from rfl,show (((0:Nat)):Int)=0 from rfl,Nat.zero_add] at HWR
 have HWR:=zh HWR
 have HL:=zh (And.intro h (And.intro hm hH))
 have hpo:=obj_not_own h.disk hp0 (by decide) (by decide)
 have hpu:p ≠ ub:=fun e=>by subst e;exact mp_not_cells h.at_.undone _ _ _ hp0
 have HPO:=zh (And.intro hpo hpu)
 rw [<- hm,<- hH] at hR
 clear h hv hm hH hp0 hpo hpu
 have hT2:(L.turn:Int)<=9223372036854775807:=by omega
 have HT:=zh hT
 clear hT
 go_enter func89,ntmps89
 go_wp2_with fail
 with_reducible refine HWR.out.mono ?_
 clear HWR
 rintro e w1 (⟨he,rfl,hm1⟩ | ⟨he,hk,rfl,hdk,hmp,hm1⟩)
 ·have HE:=zh he
  have M1:=zh hm1
  clear he hm1 c1 hT2
  generalize wrE H m 0 rs=x at *
  have hx:=HE.out
  have hx2:(x == 0)=false:=by simpa using hx
  go_wp2_with fail
  exact fin hR ⟨rfl,.inl ⟨HE.out,M1.out⟩⟩
 ·have hpw:=hm1.keep (show w.heap[p]? = some (LgObj b ub L.turn L.next L.at_ L.all.length) from HL.out.1.at_.obj) (fun e=>e.elim HPO.out.1 HPO.out.2)
  have HE:=zh he
  have HX:=zh (And.intro hk (And.intro hdk (And.intro hmp hm1)))
  have HPW:=zh hpw
  obtain ⟨at2,hat2⟩:∃ at2,at2=secs m (32+(bodyB rs).length):=⟨_,rfl⟩
  have k1:(at2:Int)<=2048:=by have:=HL.out.2.2;omega
  have k0:(0:Int)<=(at2:Int):=Int.natCast_nonneg _
  rw [<- hat2]
  have HA:=zh hat2
  have c1:=cell_of (i:=1) hpw rfl
  have c2:=cell_of (i:=2) hpw rfl
  have c3:=cell_of (i:=3) hpw rfl
  have c4:=cell_of (i:=4) hpw rfl
  have f1:=frozen_of 1 hpw
  have f2:=frozen_of 2 hpw
  have f3:=frozen_of 3 hpw
  have f4:=frozen_of 4 hpw
  clear he hk hdk hmp hm1 hpw hat2
  go_wp2_with fail
  obtain ⟨hk,⟨d',e1,e2,e3,hdk,hlaid⟩,hmp,hm1⟩:=HX.out
  obtain ⟨w2,hw2⟩:∃ w2,w2=(((w1.setCell ⟨p,1,none⟩ (.int .u64 ((L.turn:Int)+1))).setCell ⟨p,2,none⟩ (.int .u64 1)).setCell ⟨p,3,none⟩ (.int .i64 (at2:Int))).setCell ⟨p,4,none⟩ (.int .i64 (rs.length:Int)):=⟨_,rfl⟩
  have hm2:Mod (fun q=>q=p) w1 w2:=by rw [hw2];exact ((((Mod.refl (fun q=>q=p) w1).setCell (fun _=>rfl) _).setCell (fun _=>rfl) _).setCell (fun _=>rfl) _).setCell (fun _=>rfl) _
  have hp2:w2.heap[p]? = some (LgObj b ub (L.turn+1) 1 at2 rs.length):=by
   rw [hw2,heap_setCell (heap_setCell (heap_setCell (heap_setCell HPW.out _) _) _) _];rfl
  have hwe:=wrE_ok HE.out
  obtain ⟨hL,hm,hH⟩:=HL.out
  refine fin hR ⟨by rw [HE.out];rfl,.inr ⟨HE.out,?_,d',e1,e2,?_⟩⟩
  ·show Mod _ w _
   rw [<- hw2]
   exact (hm1.weaken fun _ _ e=>e.elim .inl fun e=>.inr (.inl e)).trans (hm2.weaken fun _ _ e=>.inr (.inr e))
  ·rw [<- hw2,<- HA.out]
   refine ⟨hdk.keep hm2 (fun e=>HPO.out.1 (.inl e.symm)) (fun e=>HPO.out.1 (.inr (.inl e.symm))) (fun e=>HPO.out.1 (.inr (.inr e.symm))) (fun q e=>.inr fun cur fz hx=>by
    subst e;rw [HPW.out] at hx;cases hx),⟨hp2,hmp.keep hm2 fun e=>HPO.out.2 e.symm⟩,hL.ne,e3,by rw [e1];exact hL.n,by rw [e2];exact hL.sz,?_⟩
   rw [e1,e2,HA.out,<- hm,<- hH]
   refine LogOK.reset (by have:=hL.sz;omega) (by rw [hm,hH];exact hL.ok) (fun r hr=>by have:=hwe.1 r hr;omega) ?_ hk HT.out hlaid
   have h1:=hwe.2
   have h2:(H - 0)*m<=2048*4080:=Nat.mul_le_mul (by omega) (by omega)
   omega
theorem open_has {b sb mb:Nat} {d:Dk} {L:Lg} {w:World} (hn:16<=d.n) (hz:128<=d.sz) (hw:Well d) (h:DkAt w No b sb mb d) (ok:LogOK d.last (d.n / 2) (d.sz - 16) L) :
  Calls prog 22 #[.pointer (some ⟨b,0,none⟩)] w fun e w'=>∃ (p ub:Nat) (v:Value),e=.returned (.tuple #[.pointer (some ⟨p,0,none⟩),v,.int .i64 0])/\LogHas w' p b sb mb ub d L/\OwnRecs w' w.heap.size v L.all/\Mod No w w'/\w.heap.size<=p/\w.heap.size<=ub:=by
 refine (wopen_any hn hz hw h).mono ?_
 rintro e w' ⟨p,ub,v,L',rfl,hat,hown,ht,hc,hs,hm,hp,hu⟩
 rw [ok.turnOf (by omega) (by omega)] at ht
 have hs2:=ok.stop (by omega)
 rw [ht] at hc hs
 obtain ⟨e1,e2,e3⟩:=hc.unique ok.chain hs hs2
 have eL:L'=L:=by
  cases L';cases L
  simp only at ht e1 e2 e3
  subst ht e1 e2 e3
  rfl
 subst eL
 exact ⟨p,ub,v,rfl,⟨h.stay hm,hat,fun e=>by have:=h.lt (q:=mb) (.inr (.inr rfl));omega,hw,hn,hz,ok⟩,hown,hm,hp,hu⟩
theorem new_log (n:Int) (sz:Int):LogOK (Dk.new n sz).last ((Dk.new n sz).n / 2) ((Dk.new n sz).sz - 16) ⟨0,0,0,[]⟩:=by
 have hl:∀ i,(Dk.new n sz).last i=List.replicate (min (max sz 64) 4096).toNat 0:=fun i=>rfl
 refine ⟨.zero,fun j _ _ _=>?_,fun i _=>?_,.inl rfl,by decide,by decide⟩
 ·unfold tlN;rw [hl,List.drop_replicate,List.drop_replicate,getN_zeros];exact Nat.le_refl _
 ·unfold tlT;rw [hl,List.drop_replicate,List.take_replicate,getN_zeros];exact Nat.le_refl _
theorem new_well (n:Int) (sz:Int):Well (Dk.new n sz):=⟨rfl,rfl⟩
def LOwn (p b sb mb ub:Nat) (q:Nat):Prop:=Own3 b sb mb q\/q=ub\/q=p
theorem LogHas.lt {w:World} {p b sb mb ub:Nat} {d:Dk} {L:Lg} (h:LogHas w p b sb mb ub d L) {q:Nat} (hq:LOwn p b sb mb ub q):q < w.heap.size:=by
 obtain ⟨es,cc,hx⟩:=h.at_.undone.heap
 rcases hq with hq | hq | hq
 ·exact h.disk.lt hq
 ·subst hq;exact lt_of_heap hx
 ·subst hq;exact lt_of_heap h.at_.obj
end Go.Proofs.YtmppeipgjcjdkaaGreatDoor
