/-
  Layers 0 to 14: helps of the laws of indexes. No statement is proved here; no condition.
-/
import Derived.Test.YtmppeipgjcjdkaaGreatDoorW01
import Derived.Deep.Light
import Derived.Lib.AppendStr
namespace Go.Proofs.YtmppeipgjcjdkaaGreatDoor
open _root_.Go.Proofs.Tryz
open Go.RowKit
theorem numB_bound (n:Nat) (h:n < 18446744073709551616):(cnB n).length<=10:=numB_len 9 n (by omega)
set_option maxRecDepth 100000 in
set_option maxHeartbeats 4000000 in
theorem wnumW_any {w:World} {base q:Nat} {v0:Value} {L:List UInt8} (h:WrAt w base q v0 L) (hL:L.length<=1000000000) (hb:base<=w.heap.size) {a:Addr} {c n:Nat} (c0:w.cell? ⟨a.block,a.off,none⟩=some (.int .u64 (n:Int))) (ha:a.spot=none) (hn:n < 18446744073709551616) :
  Calls prog 77 #[.pointer (some ⟨q,0,none⟩),.slice (some a) 1 c] w fun e w'=>∃ v,e=.returned (.tuple #[])/\WrAt w' base q v (L++cnB n)/\Mod (Wm base q w) w w':=by
 obtain ⟨i0,hi,hz0,hz1,hz2⟩:=info_parts info_u8
 refine calls_hide fun R hR=>?_
 obtain ⟨ab,ao,sp⟩:=a
 dsimp only at c0 ha
 subst ha
 have hnb:=numB_bound n hn
 have H:=zh h
 have HN:=zh hn
 have HNB:=zh hnb
 have hn64:(n:Int)<=18446744073709551615:=by omega
 clear h hn hnb
 go_enter func77,ntmps77
 go_wp2_with fail
 go_loopw [5,8] (fun x i wr=>(i=.int .i64 0/\wr=w)\/(i=.int .i64 1/\∃ v,WrAt wr base q v (L++cnB n)/\Mod (Wm base q w) w wr)) (fun _ i _=>2 - (intOf i).toNat)
 case atStart=>exact .inl ⟨rfl,rfl⟩
 case round =>
  rcases hrel with ⟨rfl,rfl⟩ | ⟨rfl,v,hw,hm⟩
  ·go_wp2_with fail
   go_loopw [5] (fun x ws=>∃ (m:Nat) (v:Value) (pre:List UInt8),x=.int .u64 (m:Int)/\m<=n/\cnB n=pre++cnB m/\WrAt ws base q v (L++pre)/\Mod (Wm base q wr) wr ws) (fun x _=>(intOf x).toNat)
   case atStart=>exact ⟨n,v0,[],rfl,Nat.le_refl _,rfl,by rw [List.append_nil];exact H.out,Mod.refl _ _⟩
   case round =>
    obtain ⟨m,v,pre,rfl,hmn,hpre,hw,hm⟩:=hrel
    have hm0:(0:Int)<=(m:Int):=Int.natCast_nonneg _
    have hm1:(m:Int)<=18446744073709551615:=by omega
    have hpl:pre.length<=10:=by
     have:=HNB.out
     rw [hpre,List.length_append] at this;omega
    obtain ⟨va,vc,rfl⟩:=own_len hw.own
    have cq:=cell_of (i:=0) hw.obj rfl
    have HW:=zh hw
    have HM:=zh hm
    have hbs:base<=wr.heap.size:=by have:=hm.size;omega
    clear hw hm
    by_cases hs:m < 128
    ·have hs1:(m:Int) < 128:=by omega
     have HP:=zh (show cnB n=pre++[UInt8.ofNat m] by rw [hpre,numB_lt hs])
     clear hpre
     have hmod:(m:Int) % 256=(m:Int):=by omega
     have HBY:=zh (show (m:Int)=(((UInt8.ofNat m).toNat:Nat):Int) by simp;omega)
     have HOW:=zh (own_keepM HW.out.own ((Mod.refl No wr).alloc (.cells #[.int .u8 (m:Int)] 5)) (fun _ _ f=>f))
     have HBX:=zh (show Sl (wr.alloc (.cells #[.int .u8 (m:Int)] 5)) No 5 (.slice (some ⟨wr.heap.size,0,none⟩) 1 1) 1 (bv [UInt8.ofNat m]) from
      .inr ⟨wr.heap.size,0,1,#[.int .u8 (m:Int)],(0,0),rfl,Nat.le_refl _,by unfold maxLen;omega,fun f=>f,heap_alloc_new wr _,Nat.le_refl _,fun i hi=>by
       obtain rfl:i=0:=by simpa using hi
       rw [HBY.out];rfl⟩)
     have hLp:(L++pre).length<=1000000010:=by rw [List.length_append];omega
     generalize hlp:(L++pre).length=lp at *
     have HLP:=zh hlp
     clear hlp
     go_wp2_with (at_builtin;refine app_sl _ rfl _ _ 41 rfl base 5 i0 (.int .u8 0) 1 1 underlying41 hi hz0 hz1 hz2 rfl (by decide) _ _ _ rfl HOW.out No 5 _ _ _ rfl HBX.out rfl (bv_one _) ?_ ?_ ?_ ?_)
     ·unfold maxLen;omega
     ·omega
     ·simp;omega
     intro v' w6 hown6 hg6 _
     obtain ⟨a6,c6,rfl⟩:=own_len hown6
     have hWa:WrAt (wr.alloc (.cells #[.int .u8 (m:Int)] 5)) base q (.slice va lp vc) (L++pre):=HW.out.stay ((Mod.refl No wr).alloc _)
     obtain ⟨hW7,hM7,hq6⟩:=hWa.push (M:=[UInt8.ofNat m]) hg6 (by
      rw [bv_append,List.length_append,HLP.out];exact hown6)
     have cq6:=cell_of (i:=0) hq6 rfl
     have fq6:=frozen_of 0 hq6
     have HW7:=zh hW7
     have HM7:=zh (Wm.trans (Wm.trans HM.out (Wm.no ((Mod.refl No wr).alloc (.cells #[.int .u8 (m:Int)] 5)))) hM7)
     clear hown6 hg6 hWa hW7 hM7 hq6 HW HM HOW HBX cq
     go_wp2_with fail
     exact ⟨.inr ⟨rfl,_,by rw [HP.out,<- List.append_assoc];exact HW7.out,HM7.out⟩,by go_light;simp only [intOf];omega⟩
    ·have hs1:(128:Int)<=(m:Int):=by omega
     have HP:=zh (show cnB n=(pre++[UInt8.ofNat (m % 128+128)])++cnB (m / 128) by rw [hpre,numB_ge (by omega)];simp)
     clear hpre
     have hor:=or128 m
     obtain ⟨y,hy⟩:∃ y,y=m % 128+128:=⟨_,rfl⟩
     rw [<- hy] at hor HP
     have HBY:=zh (show (y:Int)=(((UInt8.ofNat y).toNat:Nat):Int) by simp;omega)
     clear hy
     have HOW:=zh (own_keepM HW.out.own ((Mod.refl No wr).alloc (.cells #[.int .u8 (y:Int)] 5)) (fun _ _ f=>f))
     have HBX:=zh (show Sl (wr.alloc (.cells #[.int .u8 (y:Int)] 5)) No 5 (.slice (some ⟨wr.heap.size,0,none⟩) 1 1) 1 (bv [UInt8.ofNat y]) from
      .inr ⟨wr.heap.size,0,1,#[.int .u8 (y:Int)],(0,0),rfl,Nat.le_refl _,by unfold maxLen;omega,fun f=>f,heap_alloc_new wr _,Nat.le_refl _,fun i hi=>by
       obtain rfl:i=0:=by simpa using hi
       rw [HBY.out];rfl⟩)
     have hLp:(L++pre).length<=1000000010:=by rw [List.length_append];omega
     generalize hlp:(L++pre).length=lp at *
     have HLP:=zh hlp
     clear hlp
     go_wp2_with (at_builtin;refine app_sl _ rfl _ _ 41 rfl base 5 i0 (.int .u8 0) 1 1 underlying41 hi hz0 hz1 hz2 rfl (by decide) _ _ _ rfl HOW.out No 5 _ _ _ rfl HBX.out rfl (bv_one _) ?_ ?_ ?_ ?_)
     ·unfold maxLen;omega
     ·omega
     ·simp;omega
     intro v' w6 hown6 hg6 _
     obtain ⟨a6,c6,rfl⟩:=own_len hown6
     have hWa:WrAt (wr.alloc (.cells #[.int .u8 (y:Int)] 5)) base q (.slice va lp vc) (L++pre):=HW.out.stay ((Mod.refl No wr).alloc _)
     obtain ⟨hW7,hM7,hq6⟩:=hWa.push (M:=[UInt8.ofNat y]) hg6 (by
      rw [bv_append,List.length_append,HLP.out];exact hown6)
     have cq6:=cell_of (i:=0) hq6 rfl
     have fq6:=frozen_of 0 hq6
     have HW7:=zh hW7
     have HM7:=zh (Wm.trans (Wm.trans HM.out (Wm.no ((Mod.refl No wr).alloc (.cells #[.int .u8 (y:Int)] 5)))) hM7)
     clear hown6 hg6 hWa hW7 hM7 hq6 HW HM HOW HBX cq
     go_wp2_with fail
     exact ⟨⟨m / 128,_,pre++[UInt8.ofNat y],by go_num,by omega,HP.out,by rw [<- List.append_assoc];exact HW7.out,HM7.out⟩,by go_light;simp only [intOf];omega⟩
  ·have HW:=zh hw
   have HM:=zh hm
   clear hw hm
   go_wp2_with fail
   go_end0
   exact fin hR ⟨v,rfl,HW.out,HM.out⟩
theorem wnum_any {w:World} {base q:Nat} {v0:Value} {L:List UInt8} (h:WrAt w base q v0 L) (hL:L.length<=1000000000) (hb:base<=w.heap.size) {a:Addr} {c n:Nat} (c0:w.cell? ⟨a.block,a.off,none⟩=some (.int .u64 (n:Int))) (ha:a.spot=none) (hn:n < 18446744073709551616) :
  Calls prog 77 #[.pointer (some ⟨q,0,none⟩),.slice (some a) 1 c] w fun e w'=>∃ v,e=.returned (.tuple #[])/\WrAt w' base q v (L++cnB n)/\Mod (From base) w w' :=
 (wnumW_any h hL hb c0 ha hn).mono fun _ _ ⟨v,h1,h2,h3⟩=>⟨v,h1,h2,Wm.ofFrom h3 h.low⟩
theorem strCells_bv (s:ByteArray):Lib.strCells s=bv s.data.toList:=by
 unfold Lib.strCells bv
 rfl
theorem str_size (s:ByteArray):s.size=s.data.toList.length:=by simp
set_option maxRecDepth 100000 in
set_option maxHeartbeats 4000000 in
theorem wtext_any {w:World} {base q:Nat} {v0:Value} {L:List UInt8} (h:WrAt w base q v0 L) (hL:L.length<=900000000) (hb:base<=w.heap.size) {ab ao c:Nat} {s:ByteArray} (c0:w.cell? ⟨ab,ao,none⟩=some (.string s)) (hs:s.size<=10000000) :
  Calls prog 78 #[.pointer (some ⟨q,0,none⟩),.slice (some ⟨ab,ao,none⟩) 1 c] w fun e w'=>∃ v,e=.returned (.tuple #[])/\WrAt w' base q v (L++textB s.data.toList)/\Mod (From base) w w':=by
 obtain ⟨i0,hi,hz0,hz1,hz2⟩:=info_parts info_u8
 refine calls_hide fun R hR=>?_
 have H:=zh h
 have HSL:=zh (str_size s)
 have HNB:=zh (numB_bound s.size (by omega))
 have HSC:=zh (strCells_bv s)
 have hsI:(s.size:Int)<=10000000:=by omega
 clear h
 go_enter func78,ntmps78
 go_wp2_with fail
 go_loopw [5,8] (fun x i wr=>(i=.int .i64 0/\wr=w)\/(i=.int .i64 1/\∃ v,WrAt wr base q v (L++textB s.data.toList)/\Mod (From base) w wr)) (fun _ i _=>2 - (intOf i).toNat)
 case atStart=>exact .inl ⟨rfl,rfl⟩
 case round =>
  rcases hrel with ⟨rfl,rfl⟩ | ⟨rfl,v,hw,hm⟩
  ·have hm1:Mod No wr (wr.alloc (.cells #[.int .u64 (s.size:Int)] 130)):=(Mod.refl No wr).alloc _
   have HN:=zh (wnum_any (a:=⟨wr.heap.size,0,none⟩) (c:=1) (n:=s.size) (H.out.stay hm1) (by omega) (by simp;omega) (cell_of (i:=0) (xs:=[.int .u64 (s.size:Int)]) (heap_alloc_new wr _) rfl) rfl (by omega))
   clear hm1
   go_wp2_with fail
   with_reducible refine HN.out.mono ?_
   clear HN
   rintro e w2 ⟨v,rfl,hw2,hm2⟩
   have hlen:(L++cnB s.size).length=L.length+(cnB s.size).length:=List.length_append
   have hnb:=HNB.out
   obtain ⟨va,vc,rfl⟩:=own_len hw2.own
   have cq:=cell_of (i:=0) hw2.obj rfl
   have HW:=zh hw2
   have HM:=zh ((((Mod.refl No wr).alloc (.cells #[.int .u64 (s.size:Int)] 130)).weaken fun _ _ f=>f.elim).trans hm2)
   have hb2:base<=w2.heap.size:=by have:=HM.out.size;omega
   have ho:=hw2.own
   generalize hlp:(L++cnB s.size).length=lp at *
   have HOWN:=zh ho
   clear ho
   have HLP:=zh hlp
   have hlp2:lp<=900000010:=by omega
   clear hw2 hm2 hlen hnb hlp
   go_wp2_with (at_builtin;refine Lib.wpList_append_own_string (P:=prog) _ rfl _ _ 41 9 rfl base 5 i0 underlying41 underlying9 hi hz0 hz1 hz2 _ _ _ rfl HOWN.out s rfl ?_ ?_ hb2 ?_)
   ·unfold maxLen;omega
   ·omega
   intro v' w6 hown6 hg6 _
   obtain ⟨a6,c6,rfl⟩:=own_len hown6
   obtain ⟨hW7,hM7,hq6⟩:=HW.out.push (M:=s.data.toList) hg6 (by
    rw [bv_append,List.length_append,HLP.out,<- HSL.out,<- HSC.out];exact hown6)
   have cq6:=cell_of (i:=0) hq6 rfl
   have fq6:=frozen_of 0 hq6
   have HW7:=zh hW7
   have HM7:=zh (HM.out.trans (Wm.ofFrom hM7 H.out.low))
   clear hown6 hg6 hW7 hM7 hq6 HW HM cq
   go_wp2_with fail
   exact ⟨.inr ⟨rfl,_,by unfold textB;rw [<- HSL.out,<- List.append_assoc];exact HW7.out,HM7.out⟩,by go_light;simp only [intOf];omega⟩
  ·have HW:=zh hw
   have HM:=zh hm
   clear hw hm
   go_wp2_with fail
   go_end0
   exact fin hR ⟨v,rfl,HW.out,HM.out⟩
set_option maxRecDepth 100000 in
set_option maxHeartbeats 4000000 in
theorem wtexts_any {w:World} {base q:Nat} {v0:Value} {L:List UInt8} (h:WrAt w base q v0 L) (hb:base<=w.heap.size) {ab ao c:Nat} (ss:List (List UInt8)) (hab:∃ cur fz,w.heap[ab]? = some (.cells cur 9 fz)) (hc:∀ i (hi:i < ss.length),w.cell? ⟨ab,ao+i,none⟩=some (.string ⟨ss[i].toArray⟩)) (hs:∀ s ∈ ss,s.length<=1000000) (hn:ss.length<=20) (hL:L.length<=800000000) :
  Calls prog 78 #[.pointer (some ⟨q,0,none⟩),.slice (some ⟨ab,ao,none⟩) ss.length c] w fun e w'=>∃ v,e=.returned (.tuple #[])/\WrAt w' base q v (L++ss.flatMap textB)/\Mod (Wm base q w) w w':=by
 obtain ⟨i0,hi,hz0,hz1,hz2⟩:=info_parts info_u8
 refine calls_hide fun R hR=>?_
 have H:=zh h
 have HC:=zh hc
 have HS:=zh hs
 have HTL:=zh (show ∀ k,((ss.take k).flatMap textB).length<=1000010*k from fun k=>by
  induction k with
  | zero=>simp
  | succ k ih =>
   rcases Nat.lt_or_ge k ss.length with hk | hk
   ·rw [List.take_succ_eq_append_getElem hk,List.flatMap_append,List.length_append]
    have h1:=hs _ (List.getElem_mem hk)
    have h2:=numB_bound ss[k].length (by omega)
    simp only [List.flatMap_cons,List.flatMap_nil,List.append_nil,textB,List.length_append]
    omega
   ·rw [List.take_of_length_le (by omega)]
    rw [List.take_of_length_le hk] at ih
    omega)
 have HAB:=zh hab
 have HQ:=zh (show ab ≠ q from fun e=>by
  obtain ⟨cur,fz,h1⟩:=hab
  rw [e,h.obj] at h1
  cases h1)
 have HNW:=zh (show ∀ wr,Mod (Wm base q w) w wr->∀ i (hi:i < ss.length),wr.cell? ⟨ab,ao+i,none⟩=some (.string ⟨ss[i].toArray⟩) from fun wr hm i hi=>hm.cell (hc i hi) (fun e=>by
  rcases e with e | ⟨-,cur,fz,e⟩
  ·exact HQ.out e
  ·obtain ⟨cur2,fz2,h1⟩:=hab
   dsimp only at e
   rw [e] at h1;cases h1))
 clear h hc hs hab
 go_enter func78,ntmps78
 go_wp2_with fail
 go_loopw [8] (fun i wr=>∃ (k:Nat) (v:Value),k<=ss.length/\i=.int .i64 (k:Int)/\WrAt wr base q v (L++(ss.take k).flatMap textB)/\Mod (Wm base q w) w wr) (fun i _=>ss.length - (intOf i).toNat)
 case atStart=>exact ⟨0,v0,Nat.zero_le _,rfl,by simpa using H.out,Mod.refl _ _⟩
 case round =>
  obtain ⟨k,v,hk,rfl,hw,hm⟩:=hrel
  have hk0:(0:Int)<=(k:Int):=Int.natCast_nonneg _
  by_cases hlt:k < ss.length
  ·have hk1:(k:Int) < (ss.length:Int):=by omega
   have cc:=HNW.out _ hm k hlt
   have hsk:=HS.out _ (List.getElem_mem hlt)
   have htl:=HTL.out k
   have HTK:=zh (show L++(ss.take (k+1)).flatMap textB=(L++(ss.take k).flatMap textB)++textB ss[k] by rw [List.take_succ_eq_append_getElem hlt,List.flatMap_append];simp)
   generalize ss[k]=x at *
   have HLL:=zh (show (L++(ss.take k).flatMap textB).length<=850000000 by rw [List.length_append];omega)
   generalize L++(ss.take k).flatMap textB=L1 at *
   have hxs:(⟨x.toArray⟩:ByteArray).size=x.length:=by rw [str_size]
   have HSC:=zh (strCells_bv ⟨x.toArray⟩)
   have HNB:=zh (numB_bound x.length (by omega))
   have hsI:(x.length:Int)<=1000000:=by omega
   have HXL:=zh (show (⟨x.toArray⟩:ByteArray).data.toList=x from rfl)
   generalize (⟨x.toArray⟩:ByteArray)=s at *
   have HM0:=zh hm
   have hbr:base<=wr.heap.size:=Nat.le_trans hb hm.size
   have hm1:Mod No wr (wr.alloc (.cells #[.int .u64 (x.length:Int)] 130)):=(Mod.refl No wr).alloc _
   have HN:=zh (wnumW_any (a:=⟨wr.heap.size,0,none⟩) (c:=1) (n:=x.length) (hw.stay hm1) (by have:=HLL.out;omega) (by simp;omega) (cell_of (i:=0) (xs:=[.int .u64 (x.length:Int)]) (heap_alloc_new wr _) rfl) rfl (by omega))
   clear hm1 hw hm htl
   go_wp2_with fail
   with_reducible refine HN.out.mono ?_
   clear HN
   rintro e w2 ⟨v,rfl,hw2,hm2⟩
   have hlen:(L1++cnB x.length).length=L1.length+(cnB x.length).length:=List.length_append
   have hnb:=HNB.out
   have hll:=HLL.out
   obtain ⟨va,vc,rfl⟩:=own_len hw2.own
   have cq:=cell_of (i:=0) hw2.obj rfl
   have HW:=zh hw2
   have HM:=zh (Wm.trans (Wm.no (base:=base) (q:=q) ((Mod.refl No wr).alloc (.cells #[.int .u64 (x.length:Int)] 130))) hm2)
   have hb2:base<=w2.heap.size:=by have:=HM.out.size;omega
   have ho:=hw2.own
   generalize hlp:(L1++cnB x.length).length=lp at *
   have HOWN:=zh ho
   clear ho
   have HLP:=zh hlp
   have hlp2:lp<=900000010:=by omega
   clear hw2 hm2 hlen hnb hlp hll
   go_wp2_with (at_builtin;refine Lib.wpList_append_own_string (P:=prog) _ rfl _ _ 41 9 rfl base 5 i0 underlying41 underlying9 hi hz0 hz1 hz2 _ _ _ rfl HOWN.out s rfl ?_ ?_ hb2 ?_)
   ·unfold maxLen;omega
   ·omega
   intro v' w6 hown6 hg6 _
   obtain ⟨a6,c6,rfl⟩:=own_len hown6
   obtain ⟨hW7,hM7,hq6⟩:=HW.out.push (M:=x) hg6 (by
    have h9:=hown6
    rw [HSC.out,HXL.out] at h9
    (try rw [hxs] at h9)
    rw [bv_append,List.length_append,HLP.out];exact h9)
   have cq6:=cell_of (i:=0) hq6 rfl
   have fq6:=frozen_of 0 hq6
   have HW7:=zh hW7
   have HM7:=zh (Wm.trans HM0.out (Wm.trans HM.out hM7))
   clear hown6 hg6 hW7 hM7 hq6 HW HM cq
   go_wp2_with fail
   exact ⟨⟨k+1,_,by omega,by simp,by rw [HTK.out];unfold textB;rw [<- List.append_assoc];exact HW7.out,HM7.out⟩,by show ss.length - ((k:Int)+1).toNat < ss.length - (k:Int).toNat;omega⟩
  ·obtain rfl:k=ss.length:=by omega
   rw [List.take_length] at hw
   have HW:=zh hw
   have HM:=zh hm
   clear hw hm
   go_wp2_with fail
   go_end0
   exact fin hR ⟨v,rfl,HW.out,HM.out⟩
set_option maxRecDepth 100000 in
set_option maxHeartbeats 4000000 in
theorem wbool_any {w:World} {base q:Nat} {v0:Value} {L:List UInt8} (h:WrAt w base q v0 L) (hL:L.length<=900000000) (hb:base<=w.heap.size) {ab ao c:Nat} {o:Bool} (c0:w.cell? ⟨ab,ao,none⟩=some (.bool o)) :
  Calls prog 79 #[.pointer (some ⟨q,0,none⟩),.slice (some ⟨ab,ao,none⟩) 1 c] w fun e w'=>∃ v,e=.returned (.tuple #[])/\WrAt w' base q v (L++boolB o)/\Mod (From base) w w':=by
 refine calls_hide fun R hR=>?_
 have H:=zh h
 clear h
 go_enter func79,ntmps79
 go_wp2_with fail
 go_loopw [5,6,9] (fun x y i wr=>(i=.int .i64 0/\wr=w)\/(i=.int .i64 1/\∃ v,WrAt wr base q v (L++boolB o)/\Mod (From base) w wr)) (fun _ _ i _=>2 - (intOf i).toNat)
 case atStart=>exact .inl ⟨rfl,rfl⟩
 case round =>
  rcases hrel with ⟨rfl,rfl⟩ | ⟨rfl,v,hw,hm⟩
  ·obtain ⟨n,hn⟩:∃ n:Nat,n=if o then 1 else 0:=⟨_,rfl⟩
   have hn1:n<=1:=by rw [hn];split <;> omega
   have HBB:=zh (show cnB n=boolB o by rw [hn];cases o <;> (rw [numB_lt (by decide)];rfl))
   have hm1:Mod No wr (wr.alloc (.cells #[.int .u64 (n:Int)] 130)):=(Mod.refl No wr).alloc _
   have HNX:=zh (wnum_any (a:=⟨wr.heap.size,0,none⟩) (c:=1) (n:=n) (H.out.stay hm1) (by omega) (by simp;omega) (cell_of (i:=0) (xs:=[.int .u64 (n:Int)]) (heap_alloc_new wr _) rfl) rfl (by omega))
   clear hm1
   cases o with
   | true =>
    obtain rfl:n=1:=hn
    go_wp2_with fail
    refine HNX.out.mono ?_
    clear HNX
    rintro e w2 ⟨v,rfl,hw2,hm2⟩
    have HW:=zh hw2
    have HM:=zh ((((Mod.refl No wr).alloc (.cells #[.int .u64 ((1:Nat):Int)] 130)).weaken fun _ _ f=>f.elim).trans hm2)
    clear hw2 hm2
    go_wp2_with fail
    exact ⟨.inr ⟨rfl,v,by rw [<- HBB.out];exact HW.out,HM.out⟩,by go_light;simp only [intOf];omega⟩
   | false =>
    obtain rfl:n=0:=hn
    go_wp2_with fail
    refine HNX.out.mono ?_
    clear HNX
    rintro e w2 ⟨v,rfl,hw2,hm2⟩
    have HW:=zh hw2
    have HM:=zh ((((Mod.refl No wr).alloc (.cells #[.int .u64 ((0:Nat):Int)] 130)).weaken fun _ _ f=>f.elim).trans hm2)
    clear hw2 hm2
    go_wp2_with fail
    exact ⟨.inr ⟨rfl,v,by rw [<- HBB.out];exact HW.out,HM.out⟩,by go_light;simp only [intOf];omega⟩
  ·have HW:=zh hw
   have HM:=zh hm
   clear hw hm
   go_wp2_with fail
   go_end0
   exact fin hR ⟨v,rfl,HW.out,HM.out⟩
theorem wbytes_any {w:World} {base q:Nat} {v0:Value} {L:List UInt8} (h:WrAt w base q v0 L) (hL:L.length<=1000000000) :
  Calls prog 80 #[.pointer (some ⟨q,0,none⟩)] w fun e w'=>∃ v,e=.returned v/\w'.ownsRow w.heap.size 5 1 v L.length (bv L)/\Mod No w w':=by
 refine calls_hide fun R hR=>?_
 have cq:=cell_of (i:=0) h.obj rfl
 have HC:=clone_bytes No v0 (bv L) w (by rw [bv_length];exact Sl.of_own h.own (fun _ _ f=>f)) (bv_one _) (by rw [bv_length];omega)
 rw [bv_length] at HC
 have HC:=zh HC
 obtain ⟨va,vc,rfl⟩:=own_len h.own
 clear h
 go_enter func80,ntmps80
 go_wp2_with fail
 with_reducible refine HC.out.mono ?_
 rintro e w2 ⟨v,rfl,ho,-,hm⟩
 have HO:=zh ho
 have HM:=zh hm
 clear ho hm HC cq
 go_wp2_with fail
 exact fin hR ⟨v,rfl,HO.out,HM.out⟩
theorem sizeOf_u8 (W:World):(sizeOf (prog.elem 41)).run prog W=.ok 1 W:=by kernel_rfl
theorem elem_u8:prog.underlying 41=some (.slice (prog.elem 41)):=by kernel_rfl
theorem slice_from {w:World} {X:Nat->Prop} {a:Option Addr} {n c k:Nat} {kd:IntKind} {xs:List Value} (h:Sl w X 5 (.slice a n c) n xs) (hx:xs.length=n) (hk:k<=n) :
  ∃ a',(∀ W,(Instr.slice 41 (.slice a n c) (some (.int kd (k:Int))) none none).run prog W=.ok (.slice a' (n - k) (c - k)) W)/\Sl w X 5 (.slice a' (n - k) (c - k)) (n - k) (xs.drop k):=by
 have hrun:∀ W,(Instr.slice 41 (.slice a n c) (some (.int kd (k:Int))) none none).run prog W=.ok (sliced a k n c 1) W:=fun W=>by
  rw [run_slice_l W 41 a n c elem_u8 kd (k:Int) (by omega) (by omega),sizeOf_u8]
  rfl
 refine ⟨_,hrun,?_⟩
 rcases h with ⟨h,h0,rfl⟩ | ⟨blk,o,c',cur,fz,hv,hn,hc,hX,hh,hl,hr⟩
 ·cases h
  obtain rfl:k=0:=by omega
  exact .inl ⟨rfl,rfl,by simp⟩
 ·cases hv
  by_cases hck:c=k
  ·subst hck
   obtain rfl:n=c:=by omega
   rw [if_pos rfl,List.drop_of_length_le (by omega)]
   exact .inr ⟨blk,o,n - n,cur,fz,rfl,by omega,by omega,hX,hh,by simp only [List.length_nil];omega,fun i hi=>by cases hi⟩
  ·rw [if_neg hck]
   refine .inr ⟨blk,o+k,c - k,cur,fz,?_,by omega,by omega,hX,hh,by rw [List.length_drop];omega,fun i hi=>?_⟩
   ·simp only [Option.map_some,Nat.mul_one]
    congr 2
    exact Addr.add_lit _ _ _
   ·rw [List.length_drop] at hi
    rw [List.getElem?_drop,<- hr (k+i) (by omega),Nat.add_assoc]
theorem slice_to {w:World} {X:Nat->Prop} {a:Option Addr} {n c k:Nat} {kd:IntKind} {xs:List Value} (h:Sl w X 5 (.slice a n c) n xs) (hx:xs.length=n) (hk:k<=n) :
  ∃ a',(∀ W,(Instr.slice 41 (.slice a n c) none (some (.int kd (k:Int))) none).run prog W=.ok (.slice a' k c) W)/\Sl w X 5 (.slice a' k c) k (xs.take k):=by
 have hnc:n<=c:=by
  rcases h with ⟨h,h0,_⟩ | ⟨blk,o,c',cur,fz,hv,hn,_⟩
  ·cases h;exact Nat.le_refl _
  ·cases hv;exact hn
 have hrun:∀ W,(Instr.slice 41 (.slice a n c) none (some (.int kd (k:Int))) none).run prog W=.ok (sliced a 0 k c 1) W:=fun W=>by
  rw [run_slice_h W 41 a n c elem_u8 kd (k:Int) (by omega) (by omega),sizeOf_u8]
  rfl
 refine ⟨_,hrun,?_⟩
 rcases h with ⟨h,h0,rfl⟩ | ⟨blk,o,c',cur,fz,hv,hn,hc,hX,hh,hl,hr⟩
 ·cases h
  obtain rfl:k=0:=by omega
  exact .inl ⟨rfl,rfl,by simp⟩
 ·cases hv
  have e:(if c=0 then some (⟨blk,o,none⟩:Addr) else Option.map (fun x:Addr=>x.add (0*1)) (some ⟨blk,o,none⟩))=some ⟨blk,o,none⟩:=by
   split
   ·rfl
   ·simp [Addr.add]
  rw [e]
  exact .inr ⟨blk,o,c,cur,fz,rfl,by omega,hc,hX,hh,by rw [List.length_take];omega,fun i hi=>by
   rw [List.length_take] at hi
   rw [List.getElem?_take_of_lt (by omega)]
   exact hr i (by omega)⟩
abbrev stopC:Value:=.iface 265 (.agg #[])
abbrev StoppedC:Ending:=.panicked [{ v:=stopC,recovered:=false }]
theorem cmust_yes (w:World):Calls prog 181 #[.bool true] w fun e w'=>e=.returned (.tuple #[])/\w'=w:=by
 refine calls_hide fun R hR=>?_
 go_enter func181,ntmps181
 go_wp2_with fail
 go_end0
 exact fin hR ⟨rfl,rfl⟩
theorem cmust_no (w:World):Calls prog 181 #[.bool false] w fun e w'=>e=StoppedC/\w'=w:=by
 refine calls_hide fun R hR=>?_
 go_enter func181,ntmps181
 go_wp2_with fail
 exact ⟨rfl,fin hR ⟨rfl,rfl⟩⟩
structure RdAt (w:World) (q:Nat) (v:Value) (L:List UInt8) (failed:Bool):Prop where
 obj:w.heap[q]? = some (.cells #[v,.bool failed] 221 (0,0))
 row:Sl w No 5 v L.length (bv L)
theorem RdAt.keep {S:Nat->Prop} {w w':World} {q:Nat} {v:Value} {L:List UInt8} {f:Bool} (h:RdAt w q v L f) (hm:Mod S w w') (hq:¬ S q) (hs:∀ k cur fz,S k->w.heap[k]? ≠ some (.cells cur 5 fz)):RdAt w' q v L f :=
 ⟨hm.keep h.obj hq,h.row.keep hm fun k cur fz s _=>hs k cur fz s⟩
theorem RdAt.stay {w w':World} {q:Nat} {v:Value} {L:List UInt8} {f:Bool} (h:RdAt w q v L f) (hm:Mod No w w'):RdAt w' q v L f :=
 h.keep hm (fun f=>f) (fun _ _ _ f=>f.elim)
theorem RdAt.set {w:World} {q:Nat} {v v':Value} {L L':List UInt8} {f:Bool} (h:RdAt w q v L f) (h':Sl w No 5 v' L'.length (bv L')):RdAt (w.setCell ⟨q,0,none⟩ v') q v' L' f/\Mod (fun k=>k=q) w (w.setCell ⟨q,0,none⟩ v'):=by
 have hm:Mod (fun k=>k=q) w (w.setCell ⟨q,0,none⟩ v'):=(Mod.refl (fun k=>k=q) w).setCell (fun _=>rfl) _
 exact ⟨⟨by rw [heap_setCell h.obj];rfl,h'.keep hm fun k cur fz s _ e=>by subst s;rw [h.obj] at e;cases e⟩,hm⟩
theorem newReader_any {w:World} {X:Nat->Prop} {v:Value} {L:List UInt8} (h:Sl w X 5 v L.length (bv L)) (hl:L.length<=1000000000) :
  Calls prog 66 #[v] w fun e w'=>∃ q v',e=.returned (.pointer (some ⟨q,0,none⟩))/\RdAt w' q v' L false/\Mod No w w'/\w.heap.size<=q:=by
 refine calls_hide fun R hR=>?_
 have HC:=clone_bytes X v (bv L) w (by rw [bv_length];exact h) (bv_one _) (by rw [bv_length];omega)
 rw [bv_length] at HC
 have HC:=zh HC
 obtain ⟨va,vc,rfl⟩:=h.len
 clear h
 go_enter func66,ntmps66
 go_wp2_with fail
 with_reducible refine HC.out.mono ?_
 rintro e w2 ⟨v',rfl,ho,-,hm⟩
 have hm2:Mod No w2 (w2.alloc (.cells #[v',.bool false] 221)):=(Mod.refl No w2).alloc _
 have HR:=zh (show RdAt (w2.alloc (.cells #[v',.bool false] 221)) w2.heap.size v' L false from ⟨heap_alloc_new w2 _,(Sl.of_own ho (fun _ _ f=>f)).kn hm2⟩)
 have HM:=zh (hm.trans hm2)
 have HZ:=zh hm.size
 obtain ⟨ha,hc,rfl⟩:=own_len ho
 clear ho hm hm2 HC
 go_wp2_with fail
 exact fin hR ⟨_,_,rfl,HR.out,HM.out,HZ.out⟩
end Go.Proofs.YtmppeipgjcjdkaaGreatDoor
