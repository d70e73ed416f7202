/-
  Layers 0 to 14: helps of the laws of indexes. No statement is proved here; no condition.
-/
import Derived.Test.YtmppeipgjcjdkaaGreatDoorW13
import Derived.Test.YtmppeipgjcjdkaaGreatDoorW14
import Derived.Test.YtmppeipgjcjdkaaGreatDoorW00
namespace Go.Proofs.YtmppeipgjcjdkaaGreatDoor
open _root_.Go.Proofs.Tryz
open Go.RowKit Go.Maps
theorem DkAt.not_bytes {w:World} {X:Nat->Prop} {b sb mb:Nat} {d:Dk} (h:DkAt w X b sb mb d) {q:Nat} (hq:Own3 b sb mb q) (cur:Array Value) (fz:Nat × Nat):w.heap[q]? ≠ some (.cells cur 5 fz):=fun e=>by
 obtain ⟨sc,ho,_⟩:=h.obj
 obtain ⟨cur',hc⟩:=h.sure
 obtain ⟨D,hD⟩:=h.dirty
 obtain ⟨es,clock,hm⟩:=hD.mp.heap
 have hs:=hc.heap
 rcases hq with rfl | rfl | rfl
 ·rw [ho] at e;cases e
 ·rw [hs] at e;cases e
 ·rw [hm] at e;cases e
theorem sectors_ok {X:Nat->Prop} {b sb mb:Nat} {d:Dk} {w:World} (h:DkAt w X b sb mb d) :
  Calls prog 59 #[.pointer (some ⟨b,0,none⟩)] w fun e w'=>e=.returned (.int .i64 (d.n:Int))/\w=w':=by
 obtain ⟨sc,ho,_⟩:=h.obj
 exact sectors_any ⟨b,0,none⟩ _ _ _ w (cell_of (i:=0) ho rfl)
theorem size_ok {X:Nat->Prop} {b sb mb:Nat} {d:Dk} {w:World} (h:DkAt w X b sb mb d) :
  Calls prog 60 #[.pointer (some ⟨b,0,none⟩)] w fun e w'=>e=.returned (.int .i64 (d.sz:Int))/\w=w':=by
 obtain ⟨sc,ho,_⟩:=h.obj
 obtain ⟨cur,hc⟩:=h.sure
 obtain ⟨v0,hv0,hs0⟩:=hc.cell 0 h.n1
 obtain ⟨a0,o0,k0,rfl,_⟩:=hs0.shape (by have:=h.s1;omega)
 exact dsize_any ⟨b,0,none⟩ sb _ _ _ _ _ w h.n1 (cell_of (i:=0) ho rfl) (cell_ofA hc.heap hv0)
theorem DkAt.lt {w:World} {X:Nat->Prop} {b sb mb:Nat} {d:Dk} (h:DkAt w X b sb mb d) {q:Nat} (hq:Own3 b sb mb q):q < w.heap.size:=by
 obtain ⟨sc,ho,_⟩:=h.obj
 obtain ⟨cur',hc⟩:=h.sure
 obtain ⟨D,hD⟩:=h.dirty
 obtain ⟨es,clock,hm⟩:=hD.mp.heap
 rcases hq with rfl | rfl | rfl
 ·exact lt_of_heap ho
 ·exact lt_of_heap hc.heap
 ·exact lt_of_heap hm
theorem DkAt.avoid {w:World} {X:Nat->Prop} {b sb mb:Nat} {d:Dk} (h:DkAt w X b sb mb d):DkAt w (fun q=>X q\/w.heap.size<=q) b sb mb d:=by
 obtain ⟨cur,hc⟩:=h.sure
 obtain ⟨D,hD⟩:=h.dirty
 exact ⟨h.obj,⟨cur,hc.heap,hc.len,fun i hi=>let ⟨v,e,s⟩:=hc.cell i hi;⟨v,e,s.avoid⟩⟩,⟨D,hD.mp,hD.keys,hD.gone,fun i l hi hd=>let ⟨a,v,e,s⟩:=hD.here i l hi hd;⟨a,v,e,s.avoid⟩⟩,
  h.lenS,h.lenD,h.n1,h.n2,h.s1,h.s2,h.c1,h.c2⟩
theorem DkAt.shrink {w:World} {X Y:Nat->Prop} {b sb mb:Nat} {d:Dk} (h:DkAt w X b sb mb d) (hy:∀ k,k < w.heap.size->Y k->X k):DkAt w Y b sb mb d:=by
 obtain ⟨cur,hc⟩:=h.sure
 obtain ⟨D,hD⟩:=h.dirty
 exact ⟨h.obj,⟨cur,hc.heap,hc.len,fun i hi=>let ⟨v,e,s⟩:=hc.cell i hi;⟨v,e,s.shrink hy⟩⟩,⟨D,hD.mp,hD.keys,hD.gone,fun i l hi hd=>let ⟨a,v,e,s⟩:=hD.here i l hi hd;⟨a,v,e,s.shrink hy⟩⟩,
  h.lenS,h.lenD,h.n1,h.n2,h.s1,h.s2,h.c1,h.c2⟩
end Go.Proofs.YtmppeipgjcjdkaaGreatDoor
namespace Go.Proofs.YtmppeipgjcjdkaaGreatDoor
open _root_.Go.Proofs.Tryz
open Go.RowKit
def LgObj (b ub turn next:Nat) (at_ count:Nat):Obj :=
 .cells #[.pointer (some ⟨b,0,none⟩),.int .u64 (turn:Int),.int .u64 (next:Int),.int .i64 (at_:Int),.int .i64 (count:Int),.map (some ub)] 132 (0,0)
theorem half_any {X:Nat->Prop} {b sb mb p:Nat} {d:Dk} {w:World} (h:DkAt w X b sb mb d) (c0:w.cell? ⟨p,0,none⟩=some (.pointer (some ⟨b,0,none⟩))) :
  Calls prog 178 #[.pointer (some ⟨p,0,none⟩)] w fun e w'=>e=.returned (.int .i64 ((d.n / 2:Nat):Int))/\w'=w:=by
 refine calls_hide fun R hR=>?_
 have HS:=zh (sectors_ok h)
 have hn1:1<=d.n:=h.n1
 have hn2:d.n<=4096:=h.n2
 clear h
 go_enter func178,ntmps178
 go_wp2_with fail
 refine HS.out.mono ?_
 rintro e w' ⟨rfl,rfl⟩
 go_wp2_with fail
 exact fin hR ⟨by go_num,rfl⟩
theorem lsize_any {X:Nat->Prop} {b sb mb p:Nat} {d:Dk} {w:World} (h:DkAt w X b sb mb d) (c0:w.cell? ⟨p,0,none⟩=some (.pointer (some ⟨b,0,none⟩))) :
  Calls prog 125 #[.pointer (some ⟨p,0,none⟩)] w fun e w'=>e=.returned (.int .i64 ((d.sz - 16:Nat):Int))/\w'=w:=by
 refine calls_hide fun R hR=>?_
 have HS:=zh (size_ok h)
 have hz1:64<=d.sz:=h.s1
 have hz2:d.sz<=4096:=h.s2
 clear h
 go_enter func125,ntmps125
 go_wp2_with fail
 refine HS.out.mono ?_
 rintro e w' ⟨rfl,rfl⟩
 go_wp2_with fail
 exact fin hR ⟨by go_num,rfl⟩
set_option maxRecDepth 100000 in
set_option maxHeartbeats 800000 in
theorem lsecs_any {X:Nat->Prop} {b sb mb p:Nat} {d:Dk} {w:World} (n:Nat) (hn:n<=140737488355328) (h:DkAt w X b sb mb d) (c0:w.cell? ⟨p,0,none⟩=some (.pointer (some ⟨b,0,none⟩))) :
  Calls prog 128 #[.pointer (some ⟨p,0,none⟩),.int .i64 (n:Int)] w fun e w'=>e=.returned (.int .i64 ((secs (d.sz - 16) n:Nat):Int))/\Mod No w w':=by
 refine calls_hide fun R hR=>?_
 have hs:∀ nq,Calls prog 125 #[.pointer (some ⟨p,0,none⟩)] (w.drewN nq) fun e w'=>e=.returned (.int .i64 ((d.sz - 16:Nat):Int))/\w'=w.drewN nq:=fun nq =>
  lsize_any (h.stay ((Mod.refl No w).drewN nq)) c0
 have HS:=zh hs
 have hz1:64<=d.sz:=h.s1
 have hz2:d.sz<=4096:=h.s2
 clear h hs c0
 generalize hm:d.sz - 16=m at *
 have hm1:48<=m:=by omega
 have hm2:m<=4080:=by omega
 clear hm hz1 hz2
 have hmz:((m:Int) == 0)=false:=by simp;omega
 have hq0:(0:Int)<=(n:Int) / (m:Int):=Int.ediv_nonneg (Int.natCast_nonneg _) (Int.natCast_nonneg _)
 have hq1:(n:Int) / (m:Int)<=140737488355328:=by
  have h1:(n:Int) / (m:Int)=((n / m:Nat):Int):=(Int.natCast_ediv n m).symm
  have h2:=Nat.div_le_self n m
  omega
 have hr0:(0:Int)<=(n:Int) % (m:Int):=Int.emod_nonneg _ (by omega)
 have HE:=zh (show (n:Int) / (m:Int)+min ((n:Int) % (m:Int)) 1=((secs m n:Nat):Int) by
  unfold secs
  have h1:(n:Int) / (m:Int)=((n / m:Nat):Int):=(Int.natCast_ediv n m).symm
  have h2:(n:Int) % (m:Int)=((n % m:Nat):Int):=(Int.natCast_emod n m).symm
  omega)
 go_enter func128,ntmps128
 go_wp2_with fail
 go_quiet (first | (go_at_call 125;refine Calls.quiet_of_same (HS.out _)))
 go_wp2_with fail
 exact fin hR ⟨by rw [HE.out];rfl,(Mod.refl No w).drewN _⟩
theorem most_any {X:Nat->Prop} {b sb mb p:Nat} {d:Dk} {w:World} (at_:Nat) (ha:at_<=d.n / 2) (h:DkAt w X b sb mb d) (c0:w.cell? ⟨p,0,none⟩=some (.pointer (some ⟨b,0,none⟩))) :
  Calls prog 127 #[.pointer (some ⟨p,0,none⟩),.int .i64 (at_:Int)] w fun e w'=>e=.returned (.int .i64 (((d.n / 2 - at_)*(d.sz - 16):Nat):Int))/\w'=w:=by
 refine calls_hide fun R hR=>?_
 have H1:=zh (half_any h c0)
 have H2:=zh (lsize_any h c0)
 have hz1:64<=d.sz:=h.s1
 have hz2:d.sz<=4096:=h.s2
 have hn2:d.n<=4096:=h.n2
 clear h c0
 generalize hm:d.sz - 16=m at *
 generalize hk:d.n / 2=k at *
 have hm2:m<=4080:=by omega
 have hk2:k<=2048:=by omega
 clear hm hk hz1 hz2 hn2
 have hc:((k:Int) - (at_:Int))*(m:Int)=(((k - at_)*m:Nat):Int):=by
  rw [Int.natCast_mul,Int.ofNat_sub ha]
 have hb:(k - at_)*m<=2048*4080:=Nat.mul_le_mul (by omega) hm2
 have HC:=zh hc
 have b1:(-9223372036854775808:Int)<=((k:Int) - (at_:Int))*(m:Int):=by rw [hc];omega
 have b2:((k:Int) - (at_:Int))*(m:Int)<=9223372036854775807:=by rw [hc];omega
 clear hc hb
 go_enter func127,ntmps127
 go_wp2_with fail
 refine H1.out.mono ?_
 rintro e w' ⟨rfl,rfl⟩
 go_wp2_with fail
 refine H2.out.mono ?_
 rintro e w' ⟨rfl,rfl⟩
 go_wp2_with fail
 exact fin hR ⟨by rw [HC.out];rfl,rfl⟩
theorem long_any {a:Option Addr} {n c:Nat} {w:World} :
  Calls prog 144 #[.slice a n c] w fun e w'=>e=.returned (.bool (decide ((1048576:Int) < (n:Int))))/\w'=w:=by
 refine calls_hide fun R hR=>?_
 go_enter func144,ntmps144
 go_wp2_with fail
 exact fin hR ⟨rfl,rfl⟩
end Go.Proofs.YtmppeipgjcjdkaaGreatDoor
