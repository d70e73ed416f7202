/-
  Layers 0 to 14: helps of the laws of indexes. No statement is proved here; no condition.
-/
import Derived.Test.YtmppeipgjcjdkaaGreatDoorW15
import Derived.Laws.Bits64b
namespace Go.Proofs.YtmppeipgjcjdkaaGreatDoor
open _root_.Go.Proofs.Tryz
open Go.RowKit
theorem shl_or (N x:Nat) (hx:x < 256):bits BinOp.or IntKind.u64 (IntKind.u64.wrap ((N:Int)*256)) (x:Int)=(((N*256+x) % 18446744073709551616:Nat):Int):=by
 have h1:IntKind.u64.wrap ((N:Int)*256)=((N*256 % 18446744073709551616:Nat):Int):=by
  rw [IntKind.wrap_u64];omega
 have h2:N*256 % 18446744073709551616=2 ^ 8*(N % 72057594037927936):=by omega
 have h3:2 ^ 8*(N % 72057594037927936)+x=2 ^ 8*(N % 72057594037927936) ||| x:=Nat.two_pow_add_eq_or_of_lt (by omega) _
 rw [h1,bits_or_u64_nat _ _ (by omega) (by omega),h2,<- h3]
 omega
set_option maxRecDepth 100000 in
set_option maxHeartbeats 800000 in
theorem get_any {X:Nat->Prop} (e:TypeId) (v:Value) (l:List UInt8) (w:World) (hv:Sl w X e v l.length (bv l)) (hl:l.length<=9223372036854775807) :
  Calls prog 126 #[v] w fun e w'=>e=.returned (.int .u64 ((getN l:Nat):Int))/\w'=w:=by
 refine calls_hide fun R hR=>?_
 obtain ⟨a,c,rfl⟩:=hv.len
 have HV:=zh hv
 clear hv
 go_enter func126,ntmps126
 go_wp2_with fail
 go_loopw [3,8] (fun x i wr=>wr=w/\∃ k:Nat,k<=l.length/\i=.int .i64 k/\x=.int .u64 ((getN (l.take k):Nat):Int)) (fun _ i _=>l.length - (intOf i).toNat)
 case atStart=>exact ⟨rfl,0,by omega,rfl,rfl⟩
 case round =>
  obtain ⟨rfl,k,hk,rfl,rfl⟩:=hrel
  have hk0:(0:Int)<=(k:Int):=Int.natCast_nonneg _
  by_cases hlt:k < l.length
  ·have hk1:(k:Int) < (l.length:Int):=by omega
   obtain ⟨g,o,c',hsl,_⟩:=HV.out.shape (by omega)
   cases hsl
   have hck:=HV.out.cell (i:=k) (by simp [bv,hlt])
   have hge:(bv l)[k]? = some (.int .u8 ((l[k].toNat:Nat):Int)):=by simp [bv,hlt]
   rw [hge] at hck
   dsimp only at hck
   have HT:=zh (show getN (l.take (k+1))=(getN (l.take k)*256+l[k].toNat) % 18446744073709551616 by
    rw [List.take_succ_eq_append_getElem hlt];unfold getN;rw [List.foldl_append];rfl)
   have hb:l[k].toNat < 256:=UInt8.toNat_lt _
   generalize l[k].toNat=x at *
   generalize getN (l.take k)=N at *
   clear hge HV
   go_wp2_with fail
   rw [shl_or N x hb]
   exact ⟨⟨trivial,k+1,by omega,by go_num,by rw [HT.out]⟩,by go_light;simp only [intOf];omega⟩
  ·have hkn:k=l.length:=by omega
   subst hkn
   go_wp2_with fail
   exact fin hR ⟨by rw [List.take_length];rfl,rfl⟩
abbrev stopV:Value:=.iface 215 (.agg #[.int .i64 0])
abbrev Stopped:Ending:=.panicked [{ v:=stopV,recovered:=false }]
theorem must_yes (x:Int) (w:World):Calls prog 65 #[.bool true,.int .i64 x] w fun e w'=>e=.returned (.tuple #[])/\w'=w:=by
 refine calls_hide fun R hR=>?_
 go_enter func65,ntmps65
 go_wp2_with fail
 go_end0
 exact fin hR ⟨rfl,rfl⟩
theorem must_no (w:World):Calls prog 65 #[.bool false,.int .i64 0] w fun e w'=>e=Stopped/\w'=w:=by
 refine calls_hide fun R hR=>?_
 go_enter func65,ntmps65
 go_wp2_with fail
 exact ⟨rfl,fin hR ⟨rfl,rfl⟩⟩
def Well (d:Dk):Prop:=d.dead=false/\d.cut = -1
set_option maxRecDepth 100000 in
set_option maxHeartbeats 800000 in
theorem sector_yes {X:Nat->Prop} {b sb mb p:Nat} {d:Dk} {w:World} (side at_:Nat) (hs:side < 2) (ha:at_ < d.n / 2) (hw:Well d) (h:DkAt w X b sb mb d) (c0:w.cell? ⟨p,0,none⟩=some (.pointer (some ⟨b,0,none⟩))) :
  Calls prog 124 #[.pointer (some ⟨p,0,none⟩),.int .i64 (side:Int),.int .i64 (at_:Int)] w fun e w'=>∃ v,e=.returned v/\Mod No w w'/\w'.ownsRow w.heap.size 5 1 v d.sz (bv (d.last (side*(d.n / 2)+at_))):=by
 refine calls_hide fun R hR=>?_
 have HH0:=zh (half_any h c0)
 have HH:=zh (half_any (h.stay (Mod.refl No w).drew) ((Mod.refl No w).drew.cell c0 (fun f=>f)))
 have hn2:d.n<=4096:=h.n2
 have hE:atE d.dead (((side*(d.n / 2)+at_:Nat)):Int) d.n=0:=by
  rw [hw.1]
  have:side*(d.n / 2)+at_ < d.n:=by
   have h1:side=0\/side=1:=by omega
   rcases h1 with g | g
   ·subst g;omega
   ·subst g;omega
  unfold atE
  rw [if_neg Bool.false_ne_true,if_neg (by omega)]
 have HR:=read_any X b sb mb d (((side*(d.n / 2)+at_:Nat)):Int) w.drew (h.stay (Mod.refl No w).drew)
 rw [hE] at HR
 have HR:=zh HR
 have hS0:w.drew.cell? ⟨p,0,none⟩=some (.pointer (some ⟨b,0,none⟩)):=c0
 have hb:side*(d.n / 2)<=2*2048:=Nat.mul_le_mul (by omega) (by omega)
 have hb1:(0:Int)<=(side:Int)*((d.n / 2:Nat):Int):=by rw [<- Int.natCast_mul];omega
 have hb2:(side:Int)*((d.n / 2:Nat):Int)<=4096:=by rw [<- Int.natCast_mul];omega
 have HI:=zh (show IntKind.i64.wrap (IntKind.i64.wrap ((side:Int)*((d.n / 2:Nat):Int))+(at_:Int))=(((side*(d.n / 2)+at_:Nat)):Int) by
  rw [IntKind.wrap_i64,IntKind.wrap_i64,Int.natCast_add,Int.natCast_mul]
  generalize (side:Int)*((d.n / 2:Nat):Int)=q at *
  omega)
 clear h hw hE hb hb1 hb2
 generalize hk:d.n / 2=k at *
 have hk2:k<=2048:=by omega
 have ha':(at_:Int) < (k:Int):=by omega
 clear hk hn2
 go_enter func124,ntmps124
 go_wp2_with fail
 refine HH0.out.mono ?_
 clear HH0
 rintro e w' ⟨rfl,rfl⟩
 go_wp2_with fail
 refine (must_yes 0 w').mono ?_
 rintro e w2 ⟨rfl,rfl⟩
 go_upto_region 2 with fail
 refine wp_region_T (fun w'=>w'.cell? ⟨p,0,none⟩=some (.pointer (some ⟨b,0,none⟩))) 15 (by kernel_rfl) ?_
 refine wpAnyT_take 0 (some 15) ?_ rfl rfl (by kernel_rfl) (fun _ _ _ h=>h) hS0 (Or.inl ⟨by rfl,?_⟩) ?_
 rotate_left
 ·(intro w' hSw;go_simp;try with_reducible rfl)
 simp only [Act.put,yB,yC,yD]
 refine wpAnyT_take 1 (some 16) ?_ rfl rfl (by kernel_rfl) (fun _ _ _ h=>h) hS0 (Or.inl ⟨by rfl,?_⟩) ?_
 rotate_left
 ·(intro w' hSw;go_simp;try with_reducible rfl)
 simp only [Act.put,yB,yC,yD]
 refine wpAnyT_take 2 (some 17) ?_ rfl rfl (by kernel_rfl) (fun _ _ _ h=>h) hS0 (Or.inl ⟨by rfl,?_⟩) ?_
 rotate_left
 ·(intro w' hSw;go_simp;try with_reducible rfl)
 simp only [Act.put,yB,yC,yD]
 refine wpAnyT_take 3 (some 18) ?_ rfl rfl (by kernel_rfl) (fun _ _ _ h=>h) hS0 (Or.inl ⟨by rfl,?_⟩) ?_
 rotate_left
 ·(intro w' hSw;go_simp;try with_reducible rfl)
 simp only [Act.put,yB,yC,yD]
 refine wpAnyT_take 4 (some 19) ?_ rfl rfl (by kernel_rfl) (fun _ _ _ h=>h) hS0 (Or.inl ⟨by rfl,?_⟩) ?_
 rotate_left
 ·(intro w' hSw;go_simp;try with_reducible rfl)
 simp only [Act.put,yB,yC,yD]
 refine wpAnyT_take 5 (some 20) ?_ rfl rfl (by kernel_rfl) (fun _ _ _ h=>h) hS0 (Or.inl ⟨by rfl,?_⟩) ?_
 rotate_left
 ·(intro w' hSw;go_simp;try with_reducible rfl)
 simp only [Act.put,yB,yC,yD]
 refine wpAnyT_take 8 (some 23) ?_ rfl rfl (by kernel_rfl) (fun _ _ _ h=>h) hS0 (Or.inl ⟨by rfl,?_⟩) ?_
 rotate_left
 ·(intro w' hSw;go_simp;try with_reducible rfl)
 simp only [Act.put,yB,yC,yD]
 refine wpAnyT_one 6 rfl (by kernel_rfl) rfl ?_
 intro K hK
 go_simp
 (go_at_call 178;refine HH.out.mono ?_;rintro e w' ⟨rfl,rfl⟩)
 show K _ _
 refine hK.out _ _ (fun _=>hS0) ?_
 clear hK K
 refine wpAnyT_take 7 (some 22) ?_ rfl rfl (by kernel_rfl) (fun _ _ _ h=>h) hS0 (Or.inl ⟨by rfl,?_⟩) ?_
 rotate_left
 ·(intro w' hSw;go_simp;try with_reducible rfl)
 simp only [Act.put,yB,yC,yD]
 refine wpAnyT_take 9 (some 24) ?_ rfl rfl (by kernel_rfl) (fun _ _ _ h=>h) hS0 (Or.inl ⟨by rfl,?_⟩) ?_
 rotate_left
 ·(intro w' hSw;go_simp;try with_reducible rfl)
 simp only [Act.put,yB,yC,yD]
 refine wpAnyT_one 10 rfl (by kernel_rfl) rfl ?_
 intro K hK
 go_simp
 (go_at_call 179;rw [HI.out];refine HR.out.mono ?_;rintro e w1 ⟨v,rfl,hm1,_,hr1⟩)
 have hS1:=hm1.cell hS0 (fun f=>f)
 show K _ _
 refine hK.out _ _ (fun _=>hS1) ?_
 clear hK K
 refine wpAnyT_take 11 (some 14) ?_ rfl rfl (by kernel_rfl) (fun _ _ _ h=>h) hS1 (Or.inl ⟨by rfl,?_⟩) ?_
 rotate_left
 ·(intro w' hSw;go_simp;try with_reducible rfl)
 simp only [Act.put,yB,yC,yD]
 refine wpAnyT_take 12 (some 26) ?_ rfl rfl (by kernel_rfl) (fun _ _ _ h=>h) hS1 (Or.inl ⟨by rfl,?_⟩) ?_
 rotate_left
 ·(intro w' hSw;go_simp;try with_reducible rfl)
 simp only [Act.put,yB,yC,yD]
 refine wpAnyT_take 13 (some 27) ?_ rfl rfl (by kernel_rfl) (fun _ _ _ h=>h) hS1 (Or.inl ⟨by rfl,?_⟩) ?_
 rotate_left
 ·(intro w' hSw;go_simp;try with_reducible rfl)
 simp only [Act.put,yB,yC,yD]
 refine wpAnyT_take 14 (some 7) ?_ rfl rfl (by kernel_rfl) (fun _ _ _ h=>h) hS1 (Or.inl ⟨by rfl,?_⟩) ?_
 rotate_left
 ·(intro w' hSw;go_simp;try with_reducible rfl)
 simp only [Act.put,yB,yC,yD]
 refine wpAnyT_one 15 rfl (by kernel_rfl) rfl ?_
 intro K hK
 go_simp
 show K _ _
 refine hK.out _ _ (fun h=>absurd rfl h) ?_
 clear hK K
 refine wpAnyT_done (by kernel_rfl) ?_ _
 go_wp2_with fail
 refine (must_yes 0 w1).mono ?_
 rintro e w2 ⟨rfl,rfl⟩
 go_wp2_with fail
 exact fin hR ⟨v,rfl,(Mod.refl No _).drew.trans hm1,hr1 trivial⟩
set_option maxRecDepth 100000 in
theorem sector_no {X:Nat->Prop} {b sb mb p:Nat} {d:Dk} {w:World} (side at_:Nat) (ha:d.n / 2<=at_) (h:DkAt w X b sb mb d) (c0:w.cell? ⟨p,0,none⟩=some (.pointer (some ⟨b,0,none⟩))) :
  Calls prog 124 #[.pointer (some ⟨p,0,none⟩),.int .i64 (side:Int),.int .i64 (at_:Int)] w fun e w'=>e=Stopped/\w'=w:=by
 refine calls_hide fun R hR=>?_
 have HH0:=zh (half_any h c0)
 clear h c0
 generalize d.n / 2=k at *
 have ha':(k:Int)<=(at_:Int):=by omega
 have hdk:decide (at_ < k)=false:=decide_eq_false (by omega)
 go_enter func124,ntmps124
 go_wp2_with fail
 refine HH0.out.mono ?_
 clear HH0
 rintro e w' ⟨rfl,rfl⟩
 go_wp2_with fail
 refine (must_no w').mono ?_
 rintro e w2 ⟨rfl,rfl⟩
 go_wp2_with fail
 exact ⟨rfl,fin hR ⟨rfl,rfl⟩⟩
end Go.Proofs.YtmppeipgjcjdkaaGreatDoor
