/-
  Layers 0 to 14: helps of the laws of indexes. No statement is proved here; no condition.
-/
import Derived.Test.YtmppeipgjcjdkaaGreatDoorX25
import Derived.Test.YtmppeipgjcjdkaaGreatDoorX24
import Derived.Test.YtmppeipgjcjdkaaGreatDoorX00
import Derived.Laws.Bits64b
namespace Go.Proofs.YtmppeipgjcjdkaaGreatDoor
open _root_.Go.Proofs.Tryz
open Go.RowKit
def LgObj (b ub turn next:Nat) (at_ count:Nat):Obj :=
 .cells #[.pointer (some ⟨b,0,none⟩),.int .u64 (turn:Int),.int .u64 (next:Int),.int .i64 (at_:Int),.int .i64 (count:Int),.map (some ub)] 132 (0,0)
theorem half_any {X:Nat->Prop} {b sb mb p:Nat} {d:Dk} {w:World} (h:DkAt w X b sb mb d) (c0:w.cell? ⟨p,0,none⟩=some (.pointer (some ⟨b,0,none⟩))) :
  Calls prog 178 #[.pointer (some ⟨p,0,none⟩)] w fun e w'=>e=.returned (.int .i64 ((d.n / 2:Nat):Int))/\w'=w:=by
 refine calls_hide fun R hR=>?_
 have HS:=zh (sectors_ok h)
 have hn1:1<=d.n:=h.n1
 have hn2:d.n<=4096:=h.n2
 clear h
 go_enter func178,ntmps178
 go_wp2_with fail
 refine HS.out.mono ?_
 rintro e w' ⟨rfl,rfl⟩
 go_wp2_with fail
 exact fin hR ⟨by go_num,rfl⟩
theorem lsize_any {X:Nat->Prop} {b sb mb p:Nat} {d:Dk} {w:World} (h:DkAt w X b sb mb d) (c0:w.cell? ⟨p,0,none⟩=some (.pointer (some ⟨b,0,none⟩))) :
  Calls prog 125 #[.pointer (some ⟨p,0,none⟩)] w fun e w'=>e=.returned (.int .i64 ((d.sz - 16:Nat):Int))/\w'=w:=by
 refine calls_hide fun R hR=>?_
 have HS:=zh (size_ok h)
 have hz1:64<=d.sz:=h.s1
 have hz2:d.sz<=4096:=h.s2
 clear h
 go_enter func125,ntmps125
 go_wp2_with fail
 refine HS.out.mono ?_
 rintro e w' ⟨rfl,rfl⟩
 go_wp2_with fail
 exact fin hR ⟨by go_num,rfl⟩
set_option maxRecDepth 100000 in
set_option maxHeartbeats 800000 in
theorem lsecs_any {X:Nat->Prop} {b sb mb p:Nat} {d:Dk} {w:World} (n:Nat) (hn:n<=140737488355328) (h:DkAt w X b sb mb d) (c0:w.cell? ⟨p,0,none⟩=some (.pointer (some ⟨b,0,none⟩))) :
  Calls prog 128 #[.pointer (some ⟨p,0,none⟩),.int .i64 (n:Int)] w fun e w'=>e=.returned (.int .i64 ((secs (d.sz - 16) n:Nat):Int))/\Mod No w w':=by
 refine calls_hide fun R hR=>?_
 have hs:∀ nq,Calls prog 125 #[.pointer (some ⟨p,0,none⟩)] (w.drewN nq) fun e w'=>e=.returned (.int .i64 ((d.sz - 16:Nat):Int))/\w'=w.drewN nq:=fun nq =>
  lsize_any (h.stay ((Mod.refl No w).drewN nq)) c0
 have HS:=zh hs
 have hz1:64<=d.sz:=h.s1
 have hz2:d.sz<=4096:=h.s2
 clear h hs c0
 generalize hm:d.sz - 16=m at *
 have hm1:48<=m:=by omega
 have hm2:m<=4080:=by omega
 clear hm hz1 hz2
 have hmz:((m:Int) == 0)=false:=by simp;omega
 have hq0:(0:Int)<=(n:Int) / (m:Int):=Int.ediv_nonneg (Int.natCast_nonneg _) (Int.natCast_nonneg _)
 have hq1:(n:Int) / (m:Int)<=140737488355328:=by
  have h1:(n:Int) / (m:Int)=((n / m:Nat):Int):=(Int.natCast_ediv n m).symm
  have h2:=Nat.div_le_self n m
  omega
 have hr0:(0:Int)<=(n:Int) % (m:Int):=Int.emod_nonneg _ (by omega)
 have HE:=zh (show (n:Int) / (m:Int)+min ((n:Int) % (m:Int)) 1=((secs m n:Nat):Int) by
  unfold secs
  have h1:(n:Int) / (m:Int)=((n / m:Nat):Int):=(Int.natCast_ediv n m).symm
  have h2:(n:Int) % (m:Int)=((n % m:Nat):Int):=(Int.natCast_emod n m).symm
  omega)
 go_enter func128,ntmps128
 go_wp2_with fail
 go_quiet (first | (go_at_call 125;refine Calls.quiet_of_same (HS.out _)))
 go_wp2_with fail
 exact fin hR ⟨by rw [HE.out];rfl,(Mod.refl No w).drewN _⟩
theorem most_any {X:Nat->Prop} {b sb mb p:Nat} {d:Dk} {w:World} (at_:Nat) (ha:at_<=d.n / 2) (h:DkAt w X b sb mb d) (c0:w.cell? ⟨p,0,none⟩=some (.pointer (some ⟨b,0,none⟩))) :
  Calls prog 127 #[.pointer (some ⟨p,0,none⟩),.int .i64 (at_:Int)] w fun e w'=>e=.returned (.int .i64 (((d.n / 2 - at_)*(d.sz - 16):Nat):Int))/\w'=w:=by
 refine calls_hide fun R hR=>?_
 have H1:=zh (half_any h c0)
 have H2:=zh (lsize_any h c0)
 have hz1:64<=d.sz:=h.s1
 have hz2:d.sz<=4096:=h.s2
 have hn2:d.n<=4096:=h.n2
 clear h c0
 generalize hm:d.sz - 16=m at *
 generalize hk:d.n / 2=k at *
 have hm2:m<=4080:=by omega
 have hk2:k<=2048:=by omega
 clear hm hk hz1 hz2 hn2
 have hc:((k:Int) - (at_:Int))*(m:Int)=(((k - at_)*m:Nat):Int):=by
  rw [Int.natCast_mul,Int.ofNat_sub ha]
 have hb:(k - at_)*m<=2048*4080:=Nat.mul_le_mul (by omega) hm2
 have HC:=zh hc
 have b1:(-9223372036854775808:Int)<=((k:Int) - (at_:Int))*(m:Int):=by rw [hc];omega
 have b2:((k:Int) - (at_:Int))*(m:Int)<=9223372036854775807:=by rw [hc];omega
 clear hc hb
 go_enter func127,ntmps127
 go_wp2_with fail
 refine H1.out.mono ?_
 rintro e w' ⟨rfl,rfl⟩
 go_wp2_with fail
 refine H2.out.mono ?_
 rintro e w' ⟨rfl,rfl⟩
 go_wp2_with fail
 exact fin hR ⟨by rw [HC.out];rfl,rfl⟩
theorem long_any {a:Option Addr} {n c:Nat} {w:World} :
  Calls prog 144 #[.slice a n c] w fun e w'=>e=.returned (.bool (decide ((1048576:Int) < (n:Int))))/\w'=w:=by
 refine calls_hide fun R hR=>?_
 go_enter func144,ntmps144
 go_wp2_with fail
 exact fin hR ⟨rfl,rfl⟩
theorem shl_or (N x:Nat) (hx:x < 256):bits BinOp.or IntKind.u64 (IntKind.u64.wrap ((N:Int)*256)) (x:Int)=(((N*256+x) % 18446744073709551616:Nat):Int):=by
 have h1:IntKind.u64.wrap ((N:Int)*256)=((N*256 % 18446744073709551616:Nat):Int):=by
  rw [IntKind.wrap_u64];omega
 have h2:N*256 % 18446744073709551616=2 ^ 8*(N % 72057594037927936):=by omega
 have h3:2 ^ 8*(N % 72057594037927936)+x=2 ^ 8*(N % 72057594037927936) ||| x:=Nat.two_pow_add_eq_or_of_lt (by omega) _
 rw [h1,bits_or_u64_nat _ _ (by omega) (by omega),h2,<- h3]
 omega
set_option maxRecDepth 100000 in
set_option maxHeartbeats 800000 in
theorem get_any {X:Nat->Prop} (e:TypeId) (v:Value) (l:List UInt8) (w:World) (hv:Sl w X e v l.length (bv l)) (hl:l.length<=9223372036854775807) :
  Calls prog 126 #[v] w fun e w'=>e=.returned (.int .u64 ((getN l:Nat):Int))/\w'=w:=by
 refine calls_hide fun R hR=>?_
 obtain ⟨a,c,rfl⟩:=hv.len
 have HV:=zh hv
 clear hv
 go_enter func126,ntmps126
 go_wp2_with fail
 go_loopw [3,8] (fun x i wr=>wr=w/\∃ k:Nat,k<=l.length/\i=.int .i64 k/\x=.int .u64 ((getN (l.take k):Nat):Int)) (fun _ i _=>l.length - (intOf i).toNat)
 case atStart=>exact ⟨rfl,0,by omega,rfl,rfl⟩
 case round =>
  obtain ⟨rfl,k,hk,rfl,rfl⟩:=hrel
  have hk0:(0:Int)<=(k:Int):=Int.natCast_nonneg _
  by_cases hlt:k < l.length
  ·have hk1:(k:Int) < (l.length:Int):=by omega
   obtain ⟨g,o,c',hsl,_⟩:=HV.out.shape (by omega)
   cases hsl
   have hck:=HV.out.cell (i:=k) (by simp [bv,hlt])
   have hge:(bv l)[k]? = some (.int .u8 ((l[k].toNat:Nat):Int)):=by simp [bv,hlt]
   rw [hge] at hck
   dsimp only at hck
   have HT:=zh (show getN (l.take (k+1))=(getN (l.take k)*256+l[k].toNat) % 18446744073709551616 by
    rw [List.take_succ_eq_append_getElem hlt];unfold getN;rw [List.foldl_append];rfl)
   have hb:l[k].toNat < 256:=UInt8.toNat_lt _
   generalize l[k].toNat=x at *
   generalize getN (l.take k)=N at *
   clear hge HV
   go_wp2_with fail
   rw [shl_or N x hb]
   exact ⟨⟨trivial,k+1,by omega,by go_num,by rw [HT.out]⟩,by go_light;simp only [intOf];omega⟩
  ·have hkn:k=l.length:=by omega
   subst hkn
   go_wp2_with fail
   exact fin hR ⟨by rw [List.take_length];rfl,rfl⟩
abbrev stopV:Value:=.iface 215 (.agg #[.int .i64 0])
abbrev Stopped:Ending:=.panicked [{ v:=stopV,recovered:=false }]
theorem must_yes (x:Int) (w:World):Calls prog 65 #[.bool true,.int .i64 x] w fun e w'=>e=.returned (.tuple #[])/\w'=w:=by
 refine calls_hide fun R hR=>?_
 go_enter func65,ntmps65
 go_wp2_with fail
 go_end0
 exact fin hR ⟨rfl,rfl⟩
theorem must_no (w:World):Calls prog 65 #[.bool false,.int .i64 0] w fun e w'=>e=Stopped/\w'=w:=by
 refine calls_hide fun R hR=>?_
 go_enter func65,ntmps65
 go_wp2_with fail
 exact ⟨rfl,fin hR ⟨rfl,rfl⟩⟩
def Well (d:Dk):Prop:=d.dead=false/\d.cut = -1
set_option maxRecDepth 100000 in
set_option maxHeartbeats 800000 in
theorem sector_yes {X:Nat->Prop} {b sb mb p:Nat} {d:Dk} {w:World} (side at_:Nat) (hs:side < 2) (ha:at_ < d.n / 2) (hw:Well d) (h:DkAt w X b sb mb d) (c0:w.cell? ⟨p,0,none⟩=some (.pointer (some ⟨b,0,none⟩))) :
  Calls prog 124 #[.pointer (some ⟨p,0,none⟩),.int .i64 (side:Int),.int .i64 (at_:Int)] w fun e w'=>∃ v,e=.returned v/\Mod No w w'/\w'.ownsRow w.heap.size 5 1 v d.sz (bv (d.last (side*(d.n / 2)+at_))):=by
 refine calls_hide fun R hR=>?_
 have HH0:=zh (half_any h c0)
 have HH:=zh (half_any (h.stay (Mod.refl No w).drew) ((Mod.refl No w).drew.cell c0 (fun f=>f)))
 have hn2:d.n<=4096:=h.n2
 have hE:atE d.dead (((side*(d.n / 2)+at_:Nat)):Int) d.n=0:=by
  rw [hw.1]
  have:side*(d.n / 2)+at_ < d.n:=by
   have h1:side=0\/side=1:=by omega
   rcases h1 with g | g
   ·subst g;omega
   ·subst g;omega
  unfold atE
  rw [if_neg Bool.false_ne_true,if_neg (by omega)]
 have HR:=read_any X b sb mb d (((side*(d.n / 2)+at_:Nat)):Int) w.drew (h.stay (Mod.refl No w).drew)
 rw [hE] at HR
 have HR:=zh HR
 have hS0:w.drew.cell? ⟨p,0,none⟩=some (.pointer (some ⟨b,0,none⟩)):=c0
 have hb:side*(d.n / 2)<=2*2048:=Nat.mul_le_mul (by omega) (by omega)
 have hb1:(0:Int)<=(side:Int)*((d.n / 2:Nat):Int):=by rw [<- Int.natCast_mul];omega
 have hb2:(side:Int)*((d.n / 2:Nat):Int)<=4096:=by rw [<- Int.natCast_mul];omega
 have HI:=zh (show IntKind.i64.wrap (IntKind.i64.wrap ((side:Int)*((d.n / 2:Nat):Int))+(at_:Int))=(((side*(d.n / 2)+at_:Nat)):Int) by
  rw [IntKind.wrap_i64,IntKind.wrap_i64,Int.natCast_add,Int.natCast_mul]
  generalize (side:Int)*((d.n / 2:Nat):Int)=q at *
  omega)
 clear h hw hE hb hb1 hb2
 generalize hk:d.n / 2=k at *
 have hk2:k<=2048:=by omega
 have ha':(at_:Int) < (k:Int):=by omega
 clear hk hn2
 go_enter func124,ntmps124
 go_wp2_with fail
 refine HH0.out.mono ?_
 clear HH0
 rintro e w' ⟨rfl,rfl⟩
 go_wp2_with fail
 refine (must_yes 0 w').mono ?_
 rintro e w2 ⟨rfl,rfl⟩
 go_upto_region 2 with fail
 refine wp_region_T (fun w'=>w'.cell? ⟨p,0,none⟩=some (.pointer (some ⟨b,0,none⟩))) 15 (by kernel_rfl) ?_
 refine yR 0 15 hS0 ?_
 refine yR 1 16 hS0 ?_
 refine yR 2 17 hS0 ?_
 refine yR 3 18 hS0 ?_
 refine yR 4 19 hS0 ?_
 refine yR 5 20 hS0 ?_
 refine yR 8 23 hS0 ?_
 refine wpAnyT_one 6 rfl (by kernel_rfl) rfl ?_
 intro K hK
 go_simp
 (go_at_call 178;refine HH.out.mono ?_;rintro e w' ⟨rfl,rfl⟩)
 show K _ _
 refine hK.out _ _ (fun _=>hS0) ?_
 clear hK K
 refine yR 7 22 hS0 ?_
 refine yR 9 24 hS0 ?_
 refine wpAnyT_one 10 rfl (by kernel_rfl) rfl ?_
 intro K hK
 go_simp
 (go_at_call 179;rw [HI.out];refine HR.out.mono ?_;rintro e w1 ⟨v,rfl,hm1,_,hr1⟩)
 have hS1:=hm1.cell hS0 (fun f=>f)
 show K _ _
 refine hK.out _ _ (fun _=>hS1) ?_
 clear hK K
 refine yR 11 14 hS1 ?_
 refine yR 12 26 hS1 ?_
 refine yR 13 27 hS1 ?_
 refine yR 14 7 hS1 ?_
 refine wpAnyT_one 15 rfl (by kernel_rfl) rfl ?_
 intro K hK
 go_simp
 show K _ _
 refine hK.out _ _ (fun h=>absurd rfl h) ?_
 clear hK K
 refine wpAnyT_done (by kernel_rfl) ?_ _
 go_wp2_with fail
 refine (must_yes 0 w1).mono ?_
 rintro e w2 ⟨rfl,rfl⟩
 go_wp2_with fail
 exact fin hR ⟨v,rfl,(Mod.refl No _).drew.trans hm1,hr1 trivial⟩
set_option maxRecDepth 100000 in
theorem sector_no {X:Nat->Prop} {b sb mb p:Nat} {d:Dk} {w:World} (side at_:Nat) (ha:d.n / 2<=at_) (h:DkAt w X b sb mb d) (c0:w.cell? ⟨p,0,none⟩=some (.pointer (some ⟨b,0,none⟩))) :
  Calls prog 124 #[.pointer (some ⟨p,0,none⟩),.int .i64 (side:Int),.int .i64 (at_:Int)] w fun e w'=>e=Stopped/\w'=w:=by
 refine calls_hide fun R hR=>?_
 have HH0:=zh (half_any h c0)
 clear h c0
 generalize d.n / 2=k at *
 have ha':(k:Int)<=(at_:Int):=by omega
 have hdk:decide (at_ < k)=false:=decide_eq_false (by omega)
 go_enter func124,ntmps124
 go_wp2_with fail
 refine HH0.out.mono ?_
 clear HH0
 rintro e w' ⟨rfl,rfl⟩
 go_wp2_with fail
 refine (must_no w').mono ?_
 rintro e w2 ⟨rfl,rfl⟩
 go_wp2_with fail
 exact ⟨rfl,fin hR ⟨rfl,rfl⟩⟩
theorem rdAll_succ (S:Nat->List UInt8) (base size k:Nat):rdAll S base size (k+1)=rdAll S base size k++(S (base+k)).take size:=by
 unfold rdAll
 rw [List.range_succ,List.flatMap_append]
 simp
theorem rdAll_le {S:Nat->List UInt8} {base size:Nat}:∀ k,(rdAll S base size k).length<=k*size
 | 0=>by simp [rdAll]
 | k+1=>by
  have:=rdAll_le (S:=S) (base:=base) (size:=size) k
  rw [rdAll_succ,List.length_append,Nat.succ_mul]
  have:=List.length_take_le size (S (base+k))
  omega
set_option maxRecDepth 100000 in
theorem lit135 (t:Array Value) (h:t.size=135):∃ c:Nat->Value,t=#[c 0,c 1,c 2,c 3,c 4,c 5,c 6,c 7,c 8,c 9,c 10,c 11,c 12,c 13,c 14,c 15,c 16,c 17,c 18,c 19,c 20,c 21,c 22,c 23,c 24,c 25,c 26,c 27,c 28,c 29,c 30,c 31,c 32,c 33,c 34,c 35,c 36,c 37,c 38,c 39,c 40,c 41,c 42,c 43,c 44,c 45,c 46,c 47,c 48,c 49,c 50,c 51,c 52,c 53,c 54,c 55,c 56,c 57,c 58,c 59,c 60,c 61,c 62,c 63,c 64,c 65,c 66,c 67,c 68,c 69,c 70,c 71,c 72,c 73,c 74,c 75,c 76,c 77,c 78,c 79,c 80,c 81,c 82,c 83,c 84,c 85,c 86,c 87,c 88,c 89,c 90,c 91,c 92,c 93,c 94,c 95,c 96,c 97,c 98,c 99,c 100,c 101,c 102,c 103,c 104,c 105,c 106,c 107,c 108,c 109,c 110,c 111,c 112,c 113,c 114,c 115,c 116,c 117,c 118,c 119,c 120,c 121,c 122,c 123,c 124,c 125,c 126,c 127,c 128,c 129,c 130,c 131,c 132,c 133,c 134]/\∀ i,t.getD i undef=c i:=by
 refine ⟨fun i=>t.getD i undef,?_,fun _=>rfl⟩
 have h1:=arr_lits t
 rw [h] at h1
 exact h1.trans (by kernel_rfl)
theorem DkAt.lenL {w:World} {X:Nat->Prop} {b sb mb:Nat} {d:Dk} (h:DkAt w X b sb mb d) {i:Nat} (hi:i < d.n):(d.last i).length=d.sz:=by
 have h1:=h.lenS i hi
 have h2:=h.lenD i
 unfold Dk.last
 cases e:d.dirty i with
 | none=>exact h1
 | some l=>exact h2 l hi e
noncomputable def open49:Code:=Tryz.f64.body.getD .skip
noncomputable def secs49:Code:=(blockAt 0 open49).getD .skip
set_option maxRecDepth 100000 in
set_option maxHeartbeats 1600000 in
theorem secs_any {b sb mb p:Nat} {d:Dk} {w:World} (side at_ beh:Nat) (v va vn vt vx:Value) (f:Act) (base:Nat) (hs:side < 2) (ha:at_ < beh) (hbh:beh<=d.n / 2) (hw:Well d) (h:DkAt w (fun k=>base<=k) b sb mb d) (h3:∀ k,Own3 b sb mb k->k < base) (hp:p < base) (c0:w.cell? ⟨p,0,none⟩=some (.pointer (some ⟨b,0,none⟩)))
  (hbase:base<=w.heap.size) (hown:w.ownsRow base 5 1 v (rdAll d.last (side*(d.n / 2)+at_) (d.sz - 16) 1).length (bv (rdAll d.last (side*(d.n / 2)+at_) (d.sz - 16) 1)))
  (hF:Fr 135 [(0,.pointer (some ⟨p,0,none⟩)),(1,.int .i64 (side:Int)),(2,va),(3,vx),(12,v),(14,vt),(15,vn),(16,.int .i64 (beh:Int)),(17,.int .i64 ((at_:Int)+1))] f) :
  Code.wp prog secs49 (Exit.then (fun a' w'=>(∃ v',w'.ownsRow base 5 1 v' (rdAll d.last (side*(d.n / 2)+at_) (d.sz - 16) (beh - at_)).length (bv (rdAll d.last (side*(d.n / 2)+at_) (d.sz - 16) (beh - at_))) ∧
   Fr 135 [(0,.pointer (some ⟨p,0,none⟩)),(1,.int .i64 (side:Int)),(2,va),(3,vx),(12,v'),(14,vt),(15,vn),(16,.int .i64 (beh:Int))] a')/\Mod (fun k=>base<=k) w w') Nope) f w:=by
 obtain ⟨i0,hi,hz0,hz1,hz2⟩:=info_parts info_u8
 refine wp_part fun J K' hJ hK=>?_
 obtain ⟨ts,ds⟩:=f
 obtain ⟨hsz,hds,hs0,hs1,hs2,hs3,hs12,hs14,hs15,hs16,hs17,-⟩:=hF
 dsimp only at hsz hds hs0 hs1 hs2 hs3 hs12 hs14 hs15 hs16 hs17
 subst hds
 obtain ⟨c,rfl,hc⟩:=lit135 ts hsz
 rw [hc] at hs0
 rw [hc] at hs1
 rw [hc] at hs2
 rw [hc] at hs3
 rw [hc] at hs12
 rw [hc] at hs14
 rw [hc] at hs15
 rw [hc] at hs16
 rw [hc] at hs17
 simp only [hs0,hs1,hs2,hs3,hs12,hs14,hs15,hs16,hs17]
 clear hc hsz hs0 hs1 hs2 hs3 hs12 hs14 hs15 hs16 hs17
 have HJ:=zh hJ
 have HO:=zh hown
 have HD:=zh h
 have HW:=zh hw
 have hn2:d.n<=4096:=h.n2
 have hz1':64<=d.sz:=h.s1
 have hz2':d.sz<=4096:=h.s2
 have hlenX:=fun k=>zh (rdAll_le (S:=d.last) (base:=side*(d.n / 2)+at_) (size:=d.sz - 16) k)
 have HL:=zh hlenX
 have HC:=zh c0
 clear hJ hown h hw hlenX c0
 generalize hm:d.sz - 16=m at *
 generalize hk:d.n / 2=H at *
 have hm1:48<=m:=by omega
 have hm2:m<=4080:=by omega
 have hH:H<=2048:=by omega
 have HM:=zh hm
 have HK:=zh hk
 clear hm hk hn2
 conv=>arg 2;whnf
 go_wp2_with fail
 go_loopw [12,17] (fun u i wr=>∃ k:Nat,at_+k<=beh/\1<=k/\i=.int .i64 ((at_:Int)+(k:Int))/\wr.ownsRow base 5 1 u (rdAll d.last (side*H+at_) m k).length (bv (rdAll d.last (side*H+at_) m k))/\Mod (fun k=>base<=k) w wr) (fun _ i _=>beh - (intOf i).toNat)
 case atStart=>exact ⟨1,by omega,by omega,rfl,HO.out,Mod.refl _ _⟩
 case round =>
  clear HO
  obtain ⟨k,hk1,hk2,rfl,hown,hmod⟩:=hrel
  have HM1:=zh hmod
  have hd1:=HD.out.keep hmod (fun e=>by have:=h3 b (.inl rfl);omega) (fun e=>by have:=h3 sb (.inr (.inl rfl));omega) (fun e=>by have:=h3 mb (.inr (.inr rfl));omega) (fun k hk=>.inl hk)
  have hc1:=hmod.cell HC.out (fun e=>by dsimp only at e;omega)
  by_cases hlt:at_+k < beh
  ·have hi1:(at_:Int)+(k:Int) < (beh:Int):=by omega
   have HSEC:=sector_yes (p:=p) side (at_+k) hs (by rw [HK.out];omega) HW.out hd1 hc1
   rw [HK.out] at HSEC
   have HSEC:=zh HSEC
   have HO:=zh hown
   have HD1:=zh hd1
   have HC1:=zh hc1
   have hL:=(HL.out k).out
   have hL2:(rdAll d.last (side*H+at_) m k).length<=2048*4080:=Nat.le_trans hL (Nat.mul_le_mul (by omega) hm2)
   have HLEN:=zh (hd1.lenL (i:=side*H+(at_+k)) (by
    have h1:side=0\/side=1:=by omega
    have:=HK.out
    rcases h1 with g | g
    ·subst g;omega
    ·subst g;omega))
   clear hown hmod hd1 hc1 hL
   rw [Int.natCast_add] at HSEC
   go_wp2_with fail
   refine HSEC.out.mono ?_
   clear HSEC
   rintro e w1 ⟨v1,rfl,hm1,ho1⟩
   obtain ⟨g,cap,rfl,hgb⟩:=own_shape ho1 (by omega)
   have hsl:=Sl.of_own (X:=No) ho1 (fun _ _ f=>f)
   have hmsz:m<=d.sz:=by have:=HM.out;omega
   obtain ⟨g',o',c',hsh,hcap1,hcap2,_⟩:=hsl.shape (by omega)
   cases hsh
   have hsl2:=hsl.takeN (m:=m) (by rw [bv_length,HLEN.out]) (by omega)
   rw [<- bv_take] at hsl2
   have hmc:(m:Int)<=(cap:Int):=by omega
   have HS2:=zh hsl2
   have HSZ:=lsize_any (HD1.out.stay hm1) (hm1.cell HC1.out (fun f=>f))
   rw [HM.out] at HSZ
   have HSZ:=zh HSZ
   have HO1:=zh (own_keepM HO.out hm1 (fun _ _ f=>f))
   have HM2:=zh (HM1.out.trans (hm1.weaken fun _ _ f=>f.elim))
   have htl:((d.last (side*H+(at_+k))).take m).length=m:=by rw [List.length_take,HLEN.out];omega
   have HTL:=zh htl
   have hbw:base<=w1.heap.size:=by have:=HM2.out.size;omega
   clear hsl hsl2 ho1 HD1 HC1 HO htl
   go_wp2_with fail
   refine HSZ.out.mono ?_
   clear HSZ
   rintro e w2 ⟨rfl,h2⟩
   subst h2
   go_wp2_with (at_builtin;refine app_sl _ rfl _ _ 41 rfl base 5 i0 (.int .u8 0) 1 1 underlying41 hi hz0 hz1 hz2 rfl (by decide) _ _ _ rfl HO1.out No 5 _ _ _ rfl HS2.out ?_ (bv_one _) ?_ ?_ hbw ?_)
   ·rw [bv_length,HTL.out,Nat.mul_one]
   ·unfold maxLen;omega
   ·omega
   intro v' w2 hown2 hg2 _
   have hnew:=rdAll_succ d.last (side*H+at_) m k
   rw [Nat.add_assoc] at hnew
   have HO2:=zh (show w2.ownsRow base 5 1 v' (rdAll d.last (side*H+at_) m (k+1)).length (bv (rdAll d.last (side*H+at_) m (k+1))) by
    rw [hnew,List.length_append,HTL.out,bv_append];exact hown2)
   have HM3:=zh (HM2.out.trans (Mod.of_grown (S:=fun q=>base<=q) hg2 (fun q e _=>(HO1.out.lt _ e).1)))
   clear hown2 hg2 hnew
   go_wp2_with fail
   exact ⟨⟨k+1,by omega,by omega,by go_num,HO2.out,HM3.out⟩,by go_light;simp only [intOf];omega⟩
  ·have hkn:beh - at_=k:=by omega
   have hnlt:¬ (at_:Int)+(k:Int) < (beh:Int):=by omega
   rw [hkn] at HJ
   clear hd1 hc1
   have HO:=zh hown
   clear hown hmod
   go_wp2_with fail
   exact Met.intro (HJ.out _ _ ⟨⟨_,HO.out,rfl,rfl,rfl,rfl,rfl,rfl,rfl,rfl,rfl,rfl,trivial⟩,HM1.out⟩)
def StopQ (M:World->Prop):Exit->Act->World->Prop:=fun e a w=>match e with
 | .panic ch=>ch=[{ v:=stopV,recovered:=false }]/\a.defers=[]/\M w
 | _=>False
structure OwnRecs (w:World) (base:Nat) (v:Value) (rs:List (List UInt8)):Prop where
 row:∃ vs:List Value,vs.length=rs.length/\w.ownsRow base 41 1 v rs.length vs/\∀ (j:Nat) (u:Value) (r:List UInt8),vs[j]? = some u->rs[j]? = some r->Sl w (fun k=>k < base) 5 u r.length (bv r)
theorem OwnRecs.nil (w:World) (base:Nat):OwnRecs w base (.slice none 0 0) []:=⟨[],rfl,World.ownsRow_nil _ _ _ _,fun j u r h=>by cases h⟩
theorem OwnRecs.stay {w w':World} {base:Nat} {v:Value} {rs:List (List UInt8)} (h:OwnRecs w base v rs) (hm:Mod No w w'):OwnRecs w' base v rs:=by
 obtain ⟨vs,h1,h2,h3⟩:=h.row
 exact ⟨vs,h1,own_keepM h2 hm (fun _ _ f=>f),fun j u r hu hr=>(h3 j u r hu hr).kn hm⟩
theorem OwnRecs.push {w w':World} {base:Nat} {v v' u:Value} {rs:List (List UInt8)} {vs:List Value} {r:List UInt8} (h1:vs.length=rs.length) (h2:w.ownsRow base 41 1 v rs.length vs)
  (h3:∀ (j:Nat) (u:Value) (r:List UInt8),vs[j]? = some u->rs[j]? = some r->Sl w (fun k=>k < base) 5 u r.length (bv r)) (hu:Sl w (fun k=>k < base) 5 u r.length (bv r))
  (hg:w.grownBy w' v.ownBlock) (hown:w'.ownsRow base 41 1 v' (rs.length+1) (vs++[u])):OwnRecs w' base v' (rs++[r]):=by
 have hm:=Mod.of_grown (S:=fun q=>v.ownBlock=some q) hg (fun q e _=>e)
 have hk:∀ {n:Nat} {xs:List Value} {x:Value},Sl w (fun k=>k < base) 5 x n xs->Sl w' (fun k=>k < base) 5 x n xs:=fun hs=>hs.keep hm fun k cur fz hk _ e=>by
  obtain ⟨cur',hc⟩:=own_heapM h2 hk
  rw [hc] at e
  cases e
 refine ⟨vs++[u],by simp [h1],by simpa using hown,fun j x y hx hy=>?_⟩
 rcases Nat.lt_or_ge j vs.length with g | g
 ·rw [List.getElem?_append_left g] at hx
  rw [List.getElem?_append_left (by omega)] at hy
  exact hk (h3 j x y hx hy)
 ·rw [List.getElem?_append_right g] at hx
  rw [List.getElem?_append_right (by omega)] at hy
  have e1:j - vs.length=0:=by
   rcases Nat.eq_zero_or_pos (j - vs.length) with e | e
   ·exact e
   ·rw [List.getElem?_eq_none (by simp;omega)] at hx;cases hx
  rw [e1] at hx
  rw [show j - rs.length=0 by omega] at hy
  simp at hx hy
  subst hx hy
  exact hk hu
theorem parse_fuel:∀ (n:Nat) (l:List UInt8),l.length<=n->∀ f,l.length<=f->parse f l=parse l.length l
 | _,[],_,f,_=>by cases f <;> rfl
 | n+1,x :: l,hn,f+1,hf=>by
  simp only [List.length_cons] at hn hf
  show parse (f+1) (x :: l)=parse (l.length+1) (x :: l)
  unfold parse
  split
  ·rfl
  ·split
   ·have hd:((x :: l).drop (4+getN ((x :: l).take 4))).length<=l.length - 3:=by rw [List.length_drop,List.length_cons];omega
    rw [parse_fuel n _ (by omega) f (by omega),parse_fuel n _ (by omega) l.length (by omega)]
   ·rfl
theorem parse_short {R:List UInt8} (h0:0 < R.length) (h4:R.length < 4):parse R.length R=none:=by
 match R,h0 with
 | x :: l,_=>show parse (l.length+1) (x :: l)=none;unfold parse;rw [if_pos h4]
theorem parse_long {R:List UInt8} (h4:4<=R.length) (hk:¬ getN (R.take 4)<=R.length - 4):parse R.length R=none:=by
 match R,h4 with
 | x :: l,h4=>show parse (l.length+1) (x :: l)=none;unfold parse;rw [if_neg (by omega),if_neg hk]
theorem parse_more {R:List UInt8} (h4:4<=R.length) (hk:getN (R.take 4)<=R.length - 4) :
  parse R.length R=(parse (R.drop (4+getN (R.take 4))).length (R.drop (4+getN (R.take 4)))).map ((R.drop 4).take (getN (R.take 4)) :: ·):=by
 match R,h4 with
 | x :: l,h4 =>
  show parse (l.length+1) (x :: l)=_
  unfold parse
  rw [if_neg (by omega),if_pos hk]
  rw [parse_fuel _ _ (Nat.le_refl _) l.length (by rw [List.length_drop,List.length_cons];simp only [List.length_cons] at h4;omega)]
  cases hd:(x :: l).drop (4+getN ((x :: l).take 4)) with
  | nil=>rfl
  | cons y m=>rfl
theorem getN_lt4 {l:List UInt8} (h:l.length=4):getN l < 4294967296:=by
 match l,h with
 | [a,b,c,d],_ =>
  have h1:=UInt8.toNat_lt a
  have h2:=UInt8.toNat_lt b
  have h3:=UInt8.toNat_lt c
  have h4:=UInt8.toNat_lt d
  simp only [getN,List.foldl_cons,List.foldl_nil]
  omega
noncomputable def recs49:Code:=(blockAt 2 open49).getD .skip
set_option maxRecDepth 100000 in
set_option maxHeartbeats 1600000 in
theorem recs_any (w:World) (base:Nat) (v vt vb:Value) (L:List UInt8) (f:Act) (hbase:base<=w.heap.size) (hL:L.length<=8355840) (hv:Sl w No 5 v L.length (bv L))
  (hF:Fr 135 [(14,vt),(16,vb),(18,.slice none 0 0),(19,v)] f) :
  Code.wp prog recs49 (Exit.then (fun a' w'=>(∃ rs v',parse L.length L=some rs/\OwnRecs w' base v' rs/\Fr 135 [(14,vt),(16,vb),(18,v')] a')/\Mod (fun k=>base<=k) w w') (StopQ fun w'=>parse L.length L=none/\Mod (fun k=>base<=k) w w')) f w:=by
 obtain ⟨i0,hi,hz0,hz1,hz2⟩:=info_parts info_bs
 refine wp_part fun J K' hJ hK=>?_
 obtain ⟨ts,ds⟩:=f
 obtain ⟨hsz,hds,hs14,hs16,hs18,hs19,-⟩:=hF
 dsimp only at hsz hds hs14 hs16 hs18 hs19
 subst hds
 obtain ⟨c,rfl,hc⟩:=lit135 ts hsz
 rw [hc] at hs14
 rw [hc] at hs16
 rw [hc] at hs18
 rw [hc] at hs19
 simp only [hs14,hs16,hs18,hs19]
 clear hc hsz hs14 hs16 hs18 hs19
 have HJ:=zh hJ
 have HV:=zh hv
 clear hJ hv
 conv=>arg 2;whnf
 go_wp2_with fail
 go_loopw [18,19] (fun o r wr=>∃ R done,parse L.length L=(parse R.length R).map (done ++ ·)/\done.length+R.length<=L.length/\OwnRecs wr base o done/\Sl wr No 5 r R.length (bv R)/\Mod (fun k=>base<=k) w wr) (fun _ r _=>match r with | .slice _ n _=>n | _=>0)
 case atStart=>exact ⟨L,[],by simp,by simp,OwnRecs.nil _ _,HV.out,Mod.refl _ _⟩
 case round =>
  clear HV
  obtain ⟨R,done,hpar,hlen,hown,hsl,hmod⟩:=hrel
  obtain ⟨vs0,-,e20,-⟩:=hown.row
  obtain ⟨oa,oc,rfl⟩:=own_len e20
  have HM:=zh hmod
  have HPA:=zh hpar
  have HOW:=zh hown
  clear e20 vs0
  clear hmod hpar hown
  by_cases h0:0 < R.length
  ·obtain ⟨g,o,c',rfl,hc1,hc2,_⟩:=hsl.shape h0
   have HSL:=zh hsl
   clear hsl
   have h0':(0:Int) < (R.length:Int):=by omega
   by_cases h4:R.length < 4
   ·have h4':(R.length:Int) < 4:=by omega
    have hd4:decide ((4:Int)<=(R.length:Int))=false:=decide_eq_false (by omega)
    go_wp2_with fail
    refine (must_no wr).mono ?_
    rintro e w2 ⟨rfl,h2⟩
    subst h2
    go_wp2_with fail
    exact ⟨rfl,rfl,by rw [HPA.out,parse_short h0 h4];rfl,HM.out⟩
   ·have h4':(4:Int)<=(R.length:Int):=by omega
    have hd4:decide ((4:Int)<=(R.length:Int))=true:=decide_eq_true (by omega)
    have hs4:=HSL.out.takeN (m:=4) (by rw [bv_length]) (by omega)
    rw [<- bv_take] at hs4
    have e4:(R.take 4).length=4:=by rw [List.length_take];omega
    have HG:=get_any 5 (.slice (some ⟨g,o,none⟩) 4 c') (R.take 4) wr (by rw [e4];exact hs4) (by omega)
    have hgk:getN (R.take 4) < 4294967296:=getN_lt4 e4
    have HG:=zh HG
    have h4c:(4:Int)<=(c':Int):=by omega
    clear hs4
    generalize hk:getN (R.take 4)=k at *
    by_cases hkl:k<=R.length - 4
    ·go_wp2_with fail
     refine (must_yes 0 wr).mono ?_
     rintro e w2 ⟨rfl,h2⟩
     subst h2
     go_wp2_with fail
     refine HG.out.mono ?_
     rintro e w2 ⟨rfl,h2⟩
     subst h2
     have hkl':decide ((k:Int)<=(R.length:Int) - 4)=true:=decide_eq_true (by omega)
     go_wp2_with fail
     refine (must_yes 0 w2).mono ?_
     rintro e w3 ⟨rfl,h2⟩
     subst h2
     have hk1:(4:Int)+(k:Int)<=(R.length:Int):=by omega
     have hk2:(4:Int)+(k:Int)<=(c':Int):=by omega
     have HPM:=zh (parse_more (R:=R) (by omega) (by rw [hk];exact hkl))
     rw [hk] at HPM
     have hl1:((R.drop 4).take k).length=k:=by rw [List.length_take,List.length_drop];omega
     have hl2:(R.drop (4+k)).length=R.length - (4+k):=List.length_drop
     have HL1:=zh hl1
     have HL2:=zh hl2
     have hk4:k < 4294967296:=hgk
     clear hl1 hl2 hgk
     by_cases hc4:c'=4
     ·have hk0:k=0:=by omega
      subst hc4 hk0
      have HS1:=zh (show Sl w3 No 5 (.slice (some ⟨g,o,none⟩) 0 0) ((R.drop 4).take 0).length (bv ((R.drop 4).take 0)) from HSL.out.zero)
      have HS2:=zh (show Sl w3 No 5 (.slice (some ⟨g,o,none⟩) 0 0) (R.drop (4+0)).length (bv (R.drop (4+0))) by
       rw [List.drop_of_length_le (show R.length<=4+0 by omega)];exact HSL.out.zero)
      have HCL:=zh (clone_bytes No _ (bv ((R.drop 4).take 0)) w3 (by rw [bv_length];exact HS1.out) (bv_one _) (by rw [bv_length,HL1.out];omega))
      clear HS1
      go_wp2_with fail
      refine HCL.out.mono ?_
      clear HCL
      rintro e w4 ⟨u,rfl,hou,_,hm4⟩
      rw [bv_length,HL1.out] at hou
      obtain ⟨ua,uc,rfl⟩:=own_len hou
      have hsu:=Sl.of_own (X:=fun k=>k < base) hou (fun q h1 h2=>by have:=HM.out.size;omega)
      have hsu2:Sl w4 (fun k=>k < base) 5 (.slice ua 0 uc) ((R.drop 4).take 0).length (bv ((R.drop 4).take 0)):=by rw [HL1.out];exact hsu
      obtain ⟨vs,e1,e2,e3⟩:=(HOW.out.stay hm4).row
      have hm5:Mod No w4 (w4.alloc (.cells #[.slice ua 0 uc] 41)):=(Mod.refl No w4).alloc _
      have HU:=zh (hsu2.kn hm5)
      have HO5:=zh (own_keepM e2 hm5 (fun _ _ f=>f))
      have HE1:=zh e1
      have HE3:=zh (show ∀ (j:Nat) (u':Value) (r:List UInt8),vs[j]? = some u'->done[j]? = some r->Sl (w4.alloc (.cells #[.slice ua 0 uc] 41)) (fun k=>k < base) 5 u' r.length (bv r) from fun j u' r h1 h2=>(e3 j u' r h1 h2).kn hm5)
      have HBX:=zh (show Sl (w4.alloc (.cells #[.slice ua 0 uc] 41)) No 41 (.slice (some ⟨w4.heap.size,0,none⟩) 1 1) 1 [.slice ua 0 uc] from
       .inr ⟨w4.heap.size,0,1,#[.slice ua 0 uc],(0,0),rfl,Nat.le_refl _,by unfold maxLen;omega,fun f=>f,heap_alloc_new w4 _,Nat.le_refl _,fun i hi=>by simp⟩)
      have HM5:=zh ((HM.out.trans (hm4.weaken fun _ _ f=>f.elim)).alloc (.cells #[.slice ua 0 uc] 41))
      have HS5:=zh ((HS2.out.kn hm4).kn hm5)
      have hb5:base<=(w4.alloc (.cells #[.slice ua 0 uc] 41)).heap.size:=by have:=HM5.out.size;omega
      have h1c:∀ y ∈ [Value.slice ua 0 uc],y.oneCell'=true:=by
       intro y hy
       simp at hy
       subst hy
       rfl
      have H1C:=zh h1c
      have hdl:done.length<=8355840:=by omega
      clear hou hsu hsu2 e1 e2 e3 hm4 hm5 HS2 h1c
      go_wp2_with (at_builtin;refine app_sl _ rfl _ _ 69 rfl base 41 i0 (.slice none 0 0) 1 24 underlying69 hi hz0 hz1 hz2 rfl (by decide) _ _ _ rfl HO5.out No 41 _ _ _ rfl HBX.out rfl H1C.out ?_ ?_ hb5 ?_)
      ·unfold maxLen;omega
      ·omega
      intro v' w6 hown6 hg6 _
      have HR6:=zh (OwnRecs.push HE1.out HO5.out HE3.out HU.out hg6 hown6)
      have HM6:=zh (HM5.out.trans (Mod.of_grown (S:=fun q=>base<=q) hg6 (fun q e _=>(HO5.out.lt _ e).1)))
      have HS6:=zh (HS5.out.keep (Mod.of_grown (S:=fun q=>Value.ownBlock _=some q) hg6 (fun q e _=>e)) (fun q cur fz e _ h=>by
       obtain ⟨cur',hc⟩:=own_heapM HO5.out e
       rw [hc] at h
       cases h))
      clear hown6 hg6 HO5 HE1 HE3 HU HBX HM5 HS5 H1C
      go_wp2_with fail
      exact ⟨⟨R.drop (4+0),done++[(R.drop 4).take 0],by rw [HPA.out,HPM.out,Option.map_map];congr 1;funext x;simp [Function.comp],by have:=HL2.out;simp only [List.length_append,List.length_cons,List.length_nil];omega,HR6.out,HS6.out,HM6.out⟩,by show 0 < R.length;omega⟩
     ·by_cases hc5:c'=4+k
      ·subst hc5
       have HS1:=zh (show Sl w3 No 5 (.slice (some ⟨g,o+4,none⟩) k k) ((R.drop 4).take k).length (bv ((R.drop 4).take k)) by
        rw [HL1.out,bv_take,bv_drop];exact HSL.out.part (by rw [bv_length]) 4 k _ (by omega) (by omega) (by omega))
       have HS2:=zh (show Sl w3 No 5 (.slice (some ⟨g,o,none⟩) (R.length - (4+k)) (4+k - (4+k))) (R.drop (4+k)).length (bv (R.drop (4+k))) by
        rw [HL2.out,show R.length - (4+k)=0 by omega,show 4+k - (4+k)=0 by omega,List.drop_of_length_le (by omega)];exact HSL.out.zero)
       have HCL:=zh (clone_bytes No _ (bv ((R.drop 4).take k)) w3 (by rw [bv_length];exact HS1.out) (bv_one _) (by rw [bv_length,HL1.out];omega))
       clear HS1
       go_wp2_with fail
       refine HCL.out.mono ?_
       clear HCL
       rintro e w4 ⟨u,rfl,hou,_,hm4⟩
       rw [bv_length,HL1.out] at hou
       obtain ⟨ua,uc,rfl⟩:=own_len hou
       have hsu:=Sl.of_own (X:=fun k=>k < base) hou (fun q h1 h2=>by have:=HM.out.size;omega)
       have hsu2:Sl w4 (fun k=>k < base) 5 (.slice ua k uc) ((R.drop 4).take k).length (bv ((R.drop 4).take k)):=by rw [HL1.out];exact hsu
       obtain ⟨vs,e1,e2,e3⟩:=(HOW.out.stay hm4).row
       have hm5:Mod No w4 (w4.alloc (.cells #[.slice ua k uc] 41)):=(Mod.refl No w4).alloc _
       have HU:=zh (hsu2.kn hm5)
       have HO5:=zh (own_keepM e2 hm5 (fun _ _ f=>f))
       have HE1:=zh e1
       have HE3:=zh (show ∀ (j:Nat) (u':Value) (r:List UInt8),vs[j]? = some u'->done[j]? = some r->Sl (w4.alloc (.cells #[.slice ua k uc] 41)) (fun k=>k < base) 5 u' r.length (bv r) from fun j u' r h1 h2=>(e3 j u' r h1 h2).kn hm5)
       have HBX:=zh (show Sl (w4.alloc (.cells #[.slice ua k uc] 41)) No 41 (.slice (some ⟨w4.heap.size,0,none⟩) 1 1) 1 [.slice ua k uc] from
        .inr ⟨w4.heap.size,0,1,#[.slice ua k uc],(0,0),rfl,Nat.le_refl _,by unfold maxLen;omega,fun f=>f,heap_alloc_new w4 _,Nat.le_refl _,fun i hi=>by simp⟩)
       have HM5:=zh ((HM.out.trans (hm4.weaken fun _ _ f=>f.elim)).alloc (.cells #[.slice ua k uc] 41))
       have HS5:=zh ((HS2.out.kn hm4).kn hm5)
       have hb5:base<=(w4.alloc (.cells #[.slice ua k uc] 41)).heap.size:=by have:=HM5.out.size;omega
       have h1c:∀ y ∈ [Value.slice ua k uc],y.oneCell'=true:=by
        intro y hy
        simp at hy
        subst hy
        rfl
       have H1C:=zh h1c
       have hdl:done.length<=8355840:=by omega
       clear hou hsu hsu2 e1 e2 e3 hm4 hm5 HS2 h1c
       go_wp2_with (at_builtin;refine app_sl _ rfl _ _ 69 rfl base 41 i0 (.slice none 0 0) 1 24 underlying69 hi hz0 hz1 hz2 rfl (by decide) _ _ _ rfl HO5.out No 41 _ _ _ rfl HBX.out rfl H1C.out ?_ ?_ hb5 ?_)
       ·unfold maxLen;omega
       ·omega
       intro v' w6 hown6 hg6 _
       have HR6:=zh (OwnRecs.push HE1.out HO5.out HE3.out HU.out hg6 hown6)
       have HM6:=zh (HM5.out.trans (Mod.of_grown (S:=fun q=>base<=q) hg6 (fun q e _=>(HO5.out.lt _ e).1)))
       have HS6:=zh (HS5.out.keep (Mod.of_grown (S:=fun q=>Value.ownBlock _=some q) hg6 (fun q e _=>e)) (fun q cur fz e _ h=>by
        obtain ⟨cur',hc⟩:=own_heapM HO5.out e
        rw [hc] at h
        cases h))
       clear hown6 hg6 HO5 HE1 HE3 HU HBX HM5 HS5 H1C
       go_wp2_with fail
       exact ⟨⟨R.drop (4+k),done++[(R.drop 4).take k],by rw [HPA.out,HPM.out,Option.map_map];congr 1;funext x;simp [Function.comp],by have:=HL2.out;simp only [List.length_append,List.length_cons,List.length_nil];omega,HR6.out,HS6.out,HM6.out⟩,by show R.length - (4+k) < R.length;omega⟩
      ·have HS1:=zh (show Sl w3 No 5 (.slice (some ⟨g,o+4,none⟩) k (c' - 4)) ((R.drop 4).take k).length (bv ((R.drop 4).take k)) by
        rw [HL1.out,bv_take,bv_drop];exact HSL.out.part (by rw [bv_length]) 4 k _ (by omega) (by omega) (by omega))
       have HS2:=zh (show Sl w3 No 5 (.slice (some ⟨g,o+(4+k),none⟩) (R.length - (4+k)) (c' - (4+k))) (R.drop (4+k)).length (bv (R.drop (4+k))) by
        have:=HSL.out.part (by rw [bv_length]) (4+k) (R.length - (4+k)) (c' - (4+k)) (by omega) (by omega) (by omega)
        rw [HL2.out,bv_drop]
        rwa [List.take_of_length_le (by rw [List.length_drop,bv_length];omega)] at this)
       have HCL:=zh (clone_bytes No _ (bv ((R.drop 4).take k)) w3 (by rw [bv_length];exact HS1.out) (bv_one _) (by rw [bv_length,HL1.out];omega))
       clear HS1
       go_wp2_with fail
       refine HCL.out.mono ?_
       clear HCL
       rintro e w4 ⟨u,rfl,hou,_,hm4⟩
       rw [bv_length,HL1.out] at hou
       obtain ⟨ua,uc,rfl⟩:=own_len hou
       have hsu:=Sl.of_own (X:=fun k=>k < base) hou (fun q h1 h2=>by have:=HM.out.size;omega)
       have hsu2:Sl w4 (fun k=>k < base) 5 (.slice ua k uc) ((R.drop 4).take k).length (bv ((R.drop 4).take k)):=by rw [HL1.out];exact hsu
       obtain ⟨vs,e1,e2,e3⟩:=(HOW.out.stay hm4).row
       have hm5:Mod No w4 (w4.alloc (.cells #[.slice ua k uc] 41)):=(Mod.refl No w4).alloc _
       have HU:=zh (hsu2.kn hm5)
       have HO5:=zh (own_keepM e2 hm5 (fun _ _ f=>f))
       have HE1:=zh e1
       have HE3:=zh (show ∀ (j:Nat) (u':Value) (r:List UInt8),vs[j]? = some u'->done[j]? = some r->Sl (w4.alloc (.cells #[.slice ua k uc] 41)) (fun k=>k < base) 5 u' r.length (bv r) from fun j u' r h1 h2=>(e3 j u' r h1 h2).kn hm5)
       have HBX:=zh (show Sl (w4.alloc (.cells #[.slice ua k uc] 41)) No 41 (.slice (some ⟨w4.heap.size,0,none⟩) 1 1) 1 [.slice ua k uc] from
        .inr ⟨w4.heap.size,0,1,#[.slice ua k uc],(0,0),rfl,Nat.le_refl _,by unfold maxLen;omega,fun f=>f,heap_alloc_new w4 _,Nat.le_refl _,fun i hi=>by simp⟩)
       have HM5:=zh ((HM.out.trans (hm4.weaken fun _ _ f=>f.elim)).alloc (.cells #[.slice ua k uc] 41))
       have HS5:=zh ((HS2.out.kn hm4).kn hm5)
       have hb5:base<=(w4.alloc (.cells #[.slice ua k uc] 41)).heap.size:=by have:=HM5.out.size;omega
       have h1c:∀ y ∈ [Value.slice ua k uc],y.oneCell'=true:=by
        intro y hy
        simp at hy
        subst hy
        rfl
       have H1C:=zh h1c
       have hdl:done.length<=8355840:=by omega
       clear hou hsu hsu2 e1 e2 e3 hm4 hm5 HS2 h1c
       go_wp2_with (at_builtin;refine app_sl _ rfl _ _ 69 rfl base 41 i0 (.slice none 0 0) 1 24 underlying69 hi hz0 hz1 hz2 rfl (by decide) _ _ _ rfl HO5.out No 41 _ _ _ rfl HBX.out rfl H1C.out ?_ ?_ hb5 ?_)
       ·unfold maxLen;omega
       ·omega
       intro v' w6 hown6 hg6 _
       have HR6:=zh (OwnRecs.push HE1.out HO5.out HE3.out HU.out hg6 hown6)
       have HM6:=zh (HM5.out.trans (Mod.of_grown (S:=fun q=>base<=q) hg6 (fun q e _=>(HO5.out.lt _ e).1)))
       have HS6:=zh (HS5.out.keep (Mod.of_grown (S:=fun q=>Value.ownBlock _=some q) hg6 (fun q e _=>e)) (fun q cur fz e _ h=>by
        obtain ⟨cur',hc⟩:=own_heapM HO5.out e
        rw [hc] at h
        cases h))
       clear hown6 hg6 HO5 HE1 HE3 HU HBX HM5 HS5 H1C
       go_wp2_with fail
       exact ⟨⟨R.drop (4+k),done++[(R.drop 4).take k],by rw [HPA.out,HPM.out,Option.map_map];congr 1;funext x;simp [Function.comp],by have:=HL2.out;simp only [List.length_append,List.length_cons,List.length_nil];omega,HR6.out,HS6.out,HM6.out⟩,by show R.length - (4+k) < R.length;omega⟩
    ·have hkl':decide ((k:Int)<=(R.length:Int) - 4)=false:=decide_eq_false (by omega)
     go_wp2_with fail
     refine (must_yes 0 wr).mono ?_
     rintro e w2 ⟨rfl,h2⟩
     subst h2
     go_wp2_with fail
     refine HG.out.mono ?_
     rintro e w2 ⟨rfl,h2⟩
     subst h2
     go_wp2_with fail
     refine (must_no w2).mono ?_
     rintro e w3 ⟨rfl,h2⟩
     subst h2
     go_wp2_with fail
     exact ⟨rfl,rfl,by rw [HPA.out,parse_long (by omega) (by rw [hk];exact hkl)];rfl,HM.out⟩
  ·have hR:R=[]:=List.eq_nil_of_length_eq_zero (by omega)
   subst hR
   obtain ⟨a',cc,rfl⟩:=hsl.len
   clear hsl
   go_wp2_with fail
   exact Met.intro (HJ.out _ _ ⟨⟨done,_,by rw [HPA.out];simp [parse],HOW.out,rfl,rfl,rfl,rfl,rfl,trivial⟩,HM.out⟩)
end Go.Proofs.YtmppeipgjcjdkaaGreatDoor
