/-
  Layers 0 to 14: helps of the laws of indexes. No statement is proved here; no condition.
-/
import Derived.Test.YtmppeipgjcjdkaaGreatDoorX07
import Derived.Test.YtmppeipgjcjdkaaGreatDoorX01
import Derived.Test.YtmppeipgjcjdkaaGreatDoorX03
import Derived.Test.YtmppeipgjcjdkaaGreatDoorX00
import Derived.Test.YtmppeipgjcjdkaaGreatDoorX05
import Derived.Deep.Light
import Derived.Lib.AppendStr
import Derived.Laws.Bits64b
namespace Go.Proofs.YtmppeipgjcjdkaaGreatDoor
open _root_.Go.Proofs.Tryz
open Go.RowKit
def decT (n:Nat):List UInt8:=if n < 10 then [UInt8.ofNat (48+n)] else decT (n / 10)++[UInt8.ofNat (48+n % 10)]
decreasing_by omega
theorem decT_small {n:Nat} (h:n < 10):decT n=[UInt8.ofNat (48+n)]:=by rw [decT,if_pos h]
theorem decT_great {n:Nat} (h:¬ n < 10):decT n=decT (n / 10)++[UInt8.ofNat (48+n % 10)]:=by rw [decT,if_neg h]
theorem dig_of {n:Nat} (h:n < 10):(UInt8.ofNat (48+n)).toNat=48+n/\dig (UInt8.ofNat (48+n))=true:=by
 have e:(UInt8.ofNat (48+n)).toNat=48+n:=by rw [UInt8.toNat_ofNat'];exact Nat.mod_eq_of_lt (by omega)
 refine ⟨e,?_⟩
 unfold dig
 rw [e]
 simp
 omega
theorem decT_all (n:Nat):(decT n).all dig=true/\decT n ≠ []/\decV (decT n)=n/\∀ k,n < 10 ^ (k+1)->(decT n).length<=k+1:=by
 induction n using Nat.strongRecOn with
 | ind n ih =>
  by_cases h:n < 10
  ·obtain ⟨h1,h2⟩:=dig_of h
   rw [decT_small h]
   generalize UInt8.ofNat (48+n)=c at *
   refine ⟨by simp [h2],by simp,by simp [decV,h1],fun k _=>by simp⟩
  ·obtain ⟨h1,h2⟩:=dig_of (n:=n % 10) (by omega)
   obtain ⟨a,b,c,d⟩:=ih (n / 10) (by omega)
   rw [decT_great h]
   generalize UInt8.ofNat (48+n % 10)=x at *
   refine ⟨by rw [List.all_append,a];simp [h2],by simp,?_,fun k hk=>?_⟩
   ·rw [decV_snoc,c,h1];omega
   ·match k,hk with
    | 0,hk=>exact absurd hk (by omega)
    | k+1,hk =>
     have:=d k (by rw [Nat.pow_succ] at hk;omega)
     rw [List.length_append]
     simp
     omega
def joinC (c:UInt8):List (List UInt8)->List UInt8
 | []=>[]
 | [x]=>x
 | x :: l=>x++c :: joinC c l
def verT (v:Ver):List UInt8:=decT v.ma.toNat++46 :: (decT v.mi.toNat++46 :: (decT v.pa.toNat++(if v.pre=[] then [] else 45 :: joinC 46 v.pre)))
theorem str_app (a b:List UInt8):(⟨a.toArray⟩:ByteArray) ++ ⟨b.toArray⟩=⟨(a++b).toArray⟩:=by
 apply ByteArray.ext
 rw [ByteArray.data_append]
 simp
theorem dig_cases {n:Nat} (h:n < 10):n=0\/n=1\/n=2\/n=3\/n=4\/n=5\/n=6\/n=7\/n=8\/n=9:=by omega
theorem ycat {w:World} {a b c:List UInt8} {o:Oper} {ρ:Operand->Value} (h:a++b=c/\c.length<=9223372036854775807) (x y:Operand) (ho:o.op=.binOp .add 9 x y 9) (hx:ρ x=.string ⟨a.toArray⟩) (hy:ρ y=.string ⟨b.toArray⟩) :
  (execOp ρ o).run prog w=.ok (.value (.string ⟨c.toArray⟩)) w:=by
 obtain ⟨h1,h2⟩:=h
 subst h1
 rw [List.length_append] at h2
 have hz:¬ (9223372036854775807 < a.length+b.length):=by omega
 unfold execOp
 simp only [ho,hx,hy,Sem.run_bind,Sem.run_pure]
 go_simp
 exact str_app a b
theorem cut_digit (r:Nat) (h:r < 10):(⟨#[48,49,50,51,52,53,54,55,56,57]⟩:ByteArray).extract r (r+1)=⟨[UInt8.ofNat (48+r)].toArray⟩:=by
 rcases dig_cases h with rfl | rfl | rfl | rfl | rfl | rfl | rfl | rfl | rfl | rfl <;> rfl
theorem ydigit {w:World} {r:Nat} {Z:ByteArray} {o:Oper} {ρ:Operand->Value} (hr:r < 10) (hc:(⟨#[48,49,50,51,52,53,54,55,56,57]⟩:ByteArray).extract r (r+1)=Z) (x y:Operand) (ho:o.op=.slice 9 (.const (.string ⟨#[48,49,50,51,52,53,54,55,56,57]⟩)) (some x) (some y) none) (hx:ρ x=.int .i64 (r:Int)) (hy:ρ y=.int .i64 ((r:Int)+1)) (hk:ρ (.const (.string ⟨#[48,49,50,51,52,53,54,55,56,57]⟩))=.string ⟨#[48,49,50,51,52,53,54,55,56,57]⟩) :
  (execOp ρ o).run prog w=.ok (.value (.string Z)) w:=by
 have h0:(0:Int)<=(r:Int):=Int.natCast_nonneg _
 have h1:(r:Int) < 10:=by omega
 have h2:0<=(r:Int)+1/\(r:Int)+1<=10:=by omega
 have h3:(r:Int)<=(r:Int)+1:=by omega
 unfold execOp
 simp only [ho,Option.map_none,Option.map_some,hx,hy,hk,Sem.run_bind,Sem.run_pure]
 go_simp
set_option maxRecDepth 100000 in
set_option maxHeartbeats 4000000 in
theorem dec_nat:∀ (m n:Nat),n < m->n < 1000000000000000000->∀ w,Calls prog 97 #[.int .i64 (n:Int)] w fun e w'=>e=.returned (strV (decT n))/\Mod No w w'
 | 0,n,h,_,_=>absurd h (Nat.not_lt_zero _)
 | m+1,n,h,hn,w=>by
  refine calls_hide fun R hR=>?_
  have h0:(0:Int)<=(n:Int):=Int.natCast_nonneg _
  by_cases h10:n < 10
  ·have HD:=zh (decT_small h10)
   have HC:=zh (cut_digit n h10)
   have h1:(n:Int) < 10:=by omega
   clear h
   go_enter func97,ntmps97
   go_wp2_with fail
   refine fin hR ⟨?_,Mod.refl _ _⟩
   rw [HD.out]
   exact congrArg (fun z=>Ending.returned (.string z)) HC.out
  ·have HIH:=zh (dec_nat m (n / 10) (by omega) (by omega))
   have HD:=zh (decT_great h10)
   have h1:¬ (n:Int) < 10:=by omega
   have hr10:n % 10 < 10:=by omega
   have hm:(n:Int).tmod 10=((n % 10:Nat):Int):=(Int.ofNat_tmod n 10).symm
   have hq:(n:Int).tdiv 10=((n / 10:Nat):Int):=(Int.ofNat_tdiv n 10).symm
   unfold strV at *
   have hn3:(n:Int) < 1000000000000000000:=by omega
   have hq0:(0:Int)<=((n / 10:Nat):Int):=Int.natCast_nonneg _
   have hr0:(0:Int)<=((n % 10:Nat):Int):=Int.natCast_nonneg _
   have hr9:((n % 10:Nat):Int) < 10:=by omega
   have hqn:n / 10 < 1000000000000000000:=by omega
   have hwq:IntKind.i64.wrap ((n / 10:Nat):Int)=((n / 10:Nat):Int):=by rw [IntKind.wrap_i64];omega
   have hwr:IntKind.i64.wrap (((n % 10:Nat):Int)+1)=((n % 10:Nat):Int)+1:=by rw [IntKind.wrap_i64];omega
   have hZe:=cut_digit (n % 10) hr10
   generalize n % 10=r at *
   generalize n / 10=q at *
   obtain ⟨d,hd⟩:∃ d,d=UInt8.ofNat (48+r):=⟨_,rfl⟩
   rw [<- hd] at HD
   have hZ:(⟨#[48,49,50,51,52,53,54,55,56,57]⟩:ByteArray).extract r (r+1)=⟨[d].toArray⟩:=by rw [hd];exact hZe
   clear hZe hd
   have HQL:=zh (show decT q++[d]=decT q++[d]/\(decT q++[d]).length<=9223372036854775807 from ⟨rfl,by have:=(decT_all q).2.2.2 18 (by omega);rw [List.length_append,List.length_singleton];omega⟩)
   clear h hn h10
   go_enter func97,ntmps97
   go_upto_region 4 with fail
   obtain ⟨wA,hwA⟩:∃ y,y=w.drew:=⟨_,rfl⟩
   have HWM:=zh (show Mod No w wA by rw [hwA];exact (Mod.refl No w).drew)
   have HWD:=zh hwA
   clear hwA
   have hS0:True:=trivial
   refine wp_region_T (fun _=>True) 99 (by kernel_rfl) ?_
   rw [<- HWD.out]
   refine yS 0 11 hS0 ?_
   refine yT 1 (some 12) (.int .i64 (q:Int)) hS0 ?_ ?_
   ·(intro w' hSw;go_simp;try with_reducible rfl)
   simp only [Act.put,yB,yC,yD]
   refine yS 3 14 hS0 ?_
   refine yT 4 (some 15) (.int .i64 (r:Int)) hS0 ?_ ?_
   ·(intro w' hSw;go_simp;try with_reducible rfl)
   simp only [Act.put,yB,yC,yD]
   refine yS 5 16 hS0 ?_
   refine yT 6 (some 17) (.int .i64 (r:Int)) hS0 ?_ ?_
   ·(intro w' hSw;go_simp;try with_reducible rfl)
   simp only [Act.put,yB,yC,yD]
   refine wpAnyT_takeV 7 (some 18) (.int .i64 ((r:Int)+1)) rfl rfl (by kernel_rfl) (fun _ _ _ h=>h) hS0 (Or.inl ⟨by rfl,?_⟩) ?_
   ·(intro w' hSw;go_simp;try with_reducible rfl)
   simp only [Act.put,yB,yC,yD]
   refine yT 8 (some 19) (.string ⟨[d].toArray⟩) hS0 ?_ ?_
   ·(intro w' hSw;apply ydigit hr10 hZ (.tmp 15) (.tmp 18) <;> rfl)
   simp only [Act.put,yB,yC,yD]
   refine wpAnyT_one 2 rfl (by kernel_rfl) rfl ?_
   intro K hK
   go_simp
   go_at_call 97
   with_reducible refine (HIH.out _).mono ?_
   rintro e wB ⟨rfl,hB⟩
   have HM:=zh (HWM.out.trans hB)
   clear hB
   show K _ _
   have hS1:=trivial
   refine hK.out _ _ (fun _=>hS1) ?_
   clear hK K
   refine yT 9 (some 20) (.string ⟨(decT q++[d]).toArray⟩) hS1 ?_ ?_
   ·(intro w' hSw;apply ycat HQL.out (.tmp 13) (.tmp 19) <;> rfl)
   simp only [Act.put,yB,yC,yD]
   refine yT 10 (some 2) ?_ hS1 ?_ ?_
   rotate_left
   ·(intro w' hSw;go_simp;try with_reducible rfl)
   simp only [Act.put]
   refine wpAnyT_done (by kernel_rfl) ?_ _
   clear hS0
   go_wp2_with fail
   refine fin hR ⟨?_,HM.out⟩
   rw [HD.out]
theorem dec_any (n:Int) (hn:n < 1000000000000000000) (w:World):Calls prog 97 #[.int .i64 n] w fun e w'=>e=.returned (strV (decT n.toNat))/\Mod No w w':=by
 by_cases h:0<=n
 ·have:=dec_nat (n.toNat+1) n.toNat (Nat.lt_succ_self _) (by omega) w
  rw [Int.toNat_of_nonneg h] at this
  exact this
 ·refine calls_hide fun R hR=>?_
  have HZ:=zh (show n.toNat=0 by omega)
  have HC:=zh (cut_digit 0 (by decide))
  have HD:=zh (decT_small (n:=0) (by decide))
  have h1:n < 10:=by omega
  have h2:max n 0=0:=by omega
  have h3:n<=0:=by omega
  go_enter func97,ntmps97
  go_wp2_with fail
  refine fin hR ⟨?_,Mod.refl _ _⟩
  rw [HZ.out,HD.out]
  exact congrArg (fun z=>Ending.returned (.string z)) HC.out
def coreT (v:Ver):List UInt8:=decT v.ma.toNat++46 :: (decT v.mi.toNat++46 :: decT v.pa.toNat)
def preT (pr:List (List UInt8)) (k:Nat):List UInt8:=if k=0 then [] else 45 :: joinC 46 (pr.take k)
theorem joinC_snoc (c:UInt8):∀ (l:List (List UInt8)) (x:List UInt8),l ≠ []->joinC c (l++[x])=joinC c l++c :: x
 | [],_,h=>absurd rfl h
 | [a],x,_=>rfl
 | a :: b :: l,x,_=>by
  have:=joinC_snoc c (b :: l) x (by simp)
  show a++c :: joinC c (b :: (l++[x]))=_
  rw [show b :: (l++[x])=(b :: l)++[x] from rfl,this]
  show _=(a++c :: joinC c (b :: l))++c :: x
  simp
theorem preT_succ {pr:List (List UInt8)} {k:Nat} (h:k < pr.length):preT pr (k+1)=preT pr k++(if k=0 then 45 else 46) :: pr[k]:=by
 unfold preT
 rw [if_neg (by omega),List.take_succ_eq_append_getElem h]
 by_cases hk:k=0
 ·subst hk
  simp [joinC]
 ·rw [if_neg hk,if_neg hk,joinC_snoc 46 _ _ (by
   intro e
   have:=congrArg List.length e
   rw [List.length_take,List.length_nil] at this
   omega)]
  simp
theorem verT_eq (v:Ver):verT v=coreT v++preT v.pre v.pre.length:=by
 unfold verT coreT preT
 by_cases h:v.pre=[]
 ·rw [if_pos h,h];simp
 ·rw [if_neg h,if_neg (by intro e;exact h (List.eq_nil_of_length_eq_zero e)),List.take_length]
  simp
theorem joinC_length (c:UInt8):∀ (l:List (List UInt8)) (m:Nat),(∀ x ∈ l,x.length<=m)->(joinC c l).length<=l.length*(m+1)
 | [],_,_=>by simp [joinC]
 | [a],m,h=>by
  have:=h a (by simp)
  simp [joinC];omega
 | a :: b :: l,m,h=>by
  have h1:=joinC_length c (b :: l) m (fun x hx=>h x (by simp [hx]))
  have h2:=h a (by simp)
  have e:joinC c (a :: b :: l)=a++c :: joinC c (b :: l):=rfl
  rw [e,List.length_append,List.length_cons,List.length_cons (a:=a),Nat.succ_mul]
  omega
theorem preT_length {v:Ver} (hv:Small v) {k:Nat} (hk:k<=v.pre.length):(preT v.pre k).length<=2000000000000:=by
 unfold preT
 split
 ·simp
 ·have:=joinC_length 46 (v.pre.take k) 1000000 (fun x hx=>hv.each x (List.mem_of_mem_take hx))
  have h2:=hv.len
  have h3:(v.pre.take k).length*(1000000+1)<=1000000*(1000000+1):=Nat.mul_le_mul_right _ (by rw [List.length_take];omega)
  rw [List.length_cons]
  omega
set_option maxRecDepth 100000 in
set_option maxHeartbeats 8000000 in
theorem vtext_any (v:Ver) (pv:Value) (hv:Small v) (hn:v.ma < 1000000000000000000/\v.mi < 1000000000000000000/\v.pa < 1000000000000000000) (w:World) (hpv:Sl w No 9 pv v.pre.length (strs v.pre)) :
  Calls prog 42 #[verV v pv] w fun e w'=>e=.returned (strV (verT v))/\Mod No w w':=by
 refine calls_hide fun R hR=>?_
 have HVT:=zh (verT_eq v)
 have HD0:=zh (dec_any v.ma hn.1)
 have HD1:=zh (dec_any v.mi hn.2.1)
 have HD2:=zh (dec_any v.pa hn.2.2)
 obtain ⟨va,vi,vp,pr⟩:=v
 have HPV:=zh hpv
 obtain ⟨qa,qc,rfl⟩:=hpv.len
 have hle:=hv.len
 dsimp only at *
 obtain ⟨n,hnn⟩:∃ n,n=pr.length:=⟨_,rfl⟩
 have HN:=zh hnn
 rw [<- hnn] at HPV hle ⊢
 clear hpv hnn
 unfold verV at *
 dsimp only at *
 have hl0:=(decT_all va.toNat).2.2.2 18 (by omega)
 have hl1:=(decT_all vi.toNat).2.2.2 18 (by omega)
 have hl2:=(decT_all vp.toNat).2.2.2 18 (by omega)
 have HCO:=zh (show coreT ⟨va,vi,vp,pr⟩=decT va.toNat++46 :: (decT vi.toNat++46 :: decT vp.toNat) from rfl)
 have HPL:=zh (fun k (h:k<=pr.length)=>preT_length hv h)
 unfold strV at HD0 HD1 HD2
 generalize decT va.toNat=D0 at *
 generalize decT vi.toNat=D1 at *
 generalize decT vp.toNat=D2 at *
 generalize coreT ⟨va,vi,vp,pr⟩=CO at *
 obtain ⟨S3,hS3⟩:∃ c,c=D0++[46]:=⟨_,rfl⟩
 have hlS3:S3.length=D0.length+1:=(congrArg List.length hS3).trans List.length_append
 have HS3:=zh (show D0++[46]=S3/\S3.length<=9223372036854775807 from ⟨hS3.symm,by omega⟩)
 obtain ⟨S7,hS7⟩:∃ c,c=S3++D1:=⟨_,rfl⟩
 have hlS7:S7.length=S3.length+D1.length:=(congrArg List.length hS7).trans List.length_append
 have HS7:=zh (show S3++D1=S7/\S7.length<=9223372036854775807 from ⟨hS7.symm,by omega⟩)
 obtain ⟨S8,hS8⟩:∃ c,c=S7++[46]:=⟨_,rfl⟩
 have hlS8:S8.length=S7.length+1:=(congrArg List.length hS8).trans List.length_append
 have HS8:=zh (show S7++[46]=S8/\S8.length<=9223372036854775807 from ⟨hS8.symm,by omega⟩)
 obtain ⟨S12,hS12⟩:∃ c,c=S8++D2:=⟨_,rfl⟩
 have hlS12:S12.length=S8.length+D2.length:=(congrArg List.length hS12).trans List.length_append
 have HS12:=zh (show S8++D2=S12/\S12.length<=9223372036854775807 from ⟨hS12.symm,by omega⟩)
 have HCL:=zh (show CO.length<=1000 by rw [HCO.out];simp only [List.length_append,List.length_cons];omega)
 have HCT:=zh (show (.string ⟨S12.toArray⟩:Value)=strV (CO++preT pr 0) by
  rw [HCO.out];unfold preT;rw [<- HS12.out.1,<- HS8.out.1,<- HS7.out.1,<- HS3.out.1];simp)
 clear hS3 hlS3 hS7 hlS7 hS8 hlS8 hS12 hlS12
 clear hl0 hl1 hl2 hv hn
 go_enter func42,ntmps42
 go_upto_region 1 with fail
 obtain ⟨gb,hgb⟩:∃ g,g=w.heap.size:=⟨_,rfl⟩
 rw [<- hgb]
 generalize hw0:World.alloc w _=w0
 obtain ⟨w1,hw1⟩:∃ y,y=w0.drew:=⟨_,rfl⟩
 have hmw:Mod No w w1:=by rw [hw1,<- hw0];exact ((Mod.refl No w).alloc _).drew
 have HMW:=zh hmw
 have HG1:=zh (show w1.heap[gb]? = some (.cells #[.int .i64 va,.int .i64 vi,.int .i64 vp,.slice qa n qc] 45 (0,0)) by rw [hw1,<- hw0,hgb];exact heap_alloc_new w _)
 have HP1:=zh (HPV.out.kn hmw)
 have HST:=zh (show ∀ w':World,Mod No w1 w'->w'.cell? ⟨gb,0,none⟩=some (.int .i64 va)/\w'.cell? ⟨gb,1,none⟩=some (.int .i64 vi)/\w'.cell? ⟨gb,2,none⟩=some (.int .i64 vp) from fun w' h =>
  ⟨h.cell (cell_ofA HG1.out (i:=0) rfl) (fun f=>f),h.cell (cell_ofA HG1.out (i:=1) rfl) (fun f=>f),h.cell (cell_ofA HG1.out (i:=2) rfl) (fun f=>f)⟩)
 have hS0:=HST.out w1 (Mod.refl _ _)
 have HWA:=zh hw1
 have HM0:=zh (Mod.refl No w1)
 clear hw0 hw1 hgb hmw HPV
 refine wp_region_T (fun w'=>w'.cell? ⟨gb,0,none⟩=some (.int .i64 va)/\w'.cell? ⟨gb,1,none⟩=some (.int .i64 vi)/\w'.cell? ⟨gb,2,none⟩=some (.int .i64 vp)) 99 (by kernel_rfl) ?_
 rw [<- HWA.out]
 clear HWA
 refine yS 0 5 hS0 ?_
 refine yS 1 6 hS0 ?_
 refine yS 4 9 hS0 ?_
 refine yS 5 10 hS0 ?_
 refine yS 9 14 hS0 ?_
 refine yS 10 15 hS0 ?_
 refine wpAnyT_one 2 rfl (by kernel_rfl) rfl ?_
 intro K hK
 go_simp
 go_at_call 97
 with_reducible refine (HD0.out w1).mono ?_
 rintro e wB ⟨rfl,hwB⟩
 have HM1:=zh (HM0.out.trans hwB)
 clear hwB
 show K _ _
 have hS1:=(HST.out wB HM1.out)
 refine hK.out _ _ (fun _=>hS1) ?_
 clear hK K
 refine yT 3 (some 8) (.string ⟨S3.toArray⟩) hS1 ?_ ?_
 ·(intro w' hSw;apply ycat HS3.out (.tmp 7) (.const (.string ⟨#[46]⟩)) <;> rfl)
 simp only [Act.put,yB,yC,yD]
 refine wpAnyT_one 6 rfl (by kernel_rfl) rfl ?_
 intro K hK
 go_simp
 go_at_call 97
 with_reducible refine (HD1.out wB).mono ?_
 rintro e wC ⟨rfl,hwC⟩
 have HM2:=zh (HM1.out.trans hwC)
 clear hwC
 show K _ _
 have hS2:=(HST.out wC HM2.out)
 refine hK.out _ _ (fun _=>hS2) ?_
 clear hK K
 refine yT 7 (some 12) (.string ⟨S7.toArray⟩) hS2 ?_ ?_
 ·(intro w' hSw;apply ycat HS7.out (.tmp 8) (.tmp 11) <;> rfl)
 simp only [Act.put,yB,yC,yD]
 refine yT 8 (some 13) (.string ⟨S8.toArray⟩) hS2 ?_ ?_
 ·(intro w' hSw;apply ycat HS8.out (.tmp 12) (.const (.string ⟨#[46]⟩)) <;> rfl)
 simp only [Act.put,yB,yC,yD]
 refine wpAnyT_one 11 rfl (by kernel_rfl) rfl ?_
 intro K hK
 go_simp
 go_at_call 97
 with_reducible refine (HD2.out wC).mono ?_
 rintro e wD ⟨rfl,hwD⟩
 have HM3:=zh (HM2.out.trans hwD)
 clear hwD
 show K _ _
 have hS3:=(HST.out wD HM3.out)
 refine hK.out _ _ (fun _=>hS3) ?_
 clear hK K
 refine yT 12 (some 17) (.string ⟨S12.toArray⟩) hS3 ?_ ?_
 ·(intro w' hSw;apply ycat HS12.out (.tmp 13) (.tmp 16) <;> rfl)
 simp only [Act.put,yB,yC,yD]
 refine yT 13 (some 3) ?_ hS3 ?_ ?_
 rotate_left
 ·(intro w' hSw;obtain ⟨q0,q1,q2⟩:=hSw;go_simp;try with_reducible rfl)
 simp only [Act.put]
 refine wpAnyT_done (by kernel_rfl) ?_ _
 clear hS0 hS1 hS2 hS3
 go_wp2_with fail
 go_loopw [3,4] (fun q3 q4 wr=>∃ k:Nat,k<=n/\q4=.int .i64 (k:Int)/\q3=strV (CO++preT pr k)/\Mod No w1 wr) (fun _ q _=>n - (intOf q).toNat)
 case atStart=>exact ⟨0,by omega,rfl,HCT.out,HM3.out⟩
 case round =>
  obtain ⟨k,hk,rfl,rfl,hm⟩:=hrel
  have HM:=zh hm
  have hk0:(0:Int)<=(k:Int):=Int.natCast_nonneg _
  have c3:=hm.cell (cell_ofA HG1.out (i:=3) rfl) (fun f=>f)
  clear hm
  by_cases hlt:k < n
  ·have hk1:(k:Int) < (n:Int):=by omega
   have hlt2:k < pr.length:=by rw [<- HN.out];exact hlt
   obtain ⟨p,o,c,hvs,_⟩:=HP1.out.shape (by omega)
   cases hvs
   have h1:=HM.out.cell (HP1.out.cellN (i:=k) (by rw [strs_length];exact hlt2)) (fun f=>f)
   rw [show (strs pr)[k]'(by rw [strs_length];exact hlt2)=.string ⟨pr[k].toArray⟩ from by simp [strs,strV]] at h1
   have HS:=zh (preT_succ hlt2)
   have hpl:=HPL.out (k+1) hlt2
   rw [HS.out,List.length_append,List.length_cons] at hpl
   have hcl:=HCL.out
   generalize hT:CO++preT pr k=TX at *
   have hTX:TX.length<=1000+(preT pr k).length:=by rw [<- hT,List.length_append];omega
   have hz1:¬ (9223372036854775807 < TX.length+1):=by omega
   have hz2:¬ (9223372036854775807 < TX.length+1+pr[k].length):=by omega
   rcases Nat.eq_zero_or_pos k with h0 | h0
   ·subst h0
    rw [Nat.add_zero] at h1
    go_wp2_with fail
    refine ⟨⟨0+1,by omega,rfl,?_,HM.out⟩,by show n - ((0:Int)+1).toNat < n - (0:Int).toNat;omega⟩
    rw [HS.out,if_pos rfl]
    rw [<- List.append_assoc,hT]
    first | rfl | simp [strV,str_app]
   ·have hk2:¬ ((k:Int)=0):=by omega
    have hk3:((k:Int) == 0)=false:=by simpa using hk2
    go_wp2_with fail
    refine ⟨⟨k+1,by omega,rfl,?_,HM.out⟩,by show n - ((k:Int)+1).toNat < n - (k:Int).toNat;omega⟩
    rw [HS.out,if_neg (by omega)]
    rw [<- List.append_assoc,hT]
    first | rfl | simp [strV,str_app]
  ·obtain rfl:k=n:=by omega
   go_wp2_with fail
   refine fin hR ⟨?_,HMW.out.trans HM.out⟩
   show Ending.returned (strV (CO++preT pr k))=_
   rw [HVT.out,HN.out]
structure WrAt (w:World) (base q:Nat) (v:Value) (L:List UInt8):Prop where
 obj:w.heap[q]? = some (.cells #[v] 230 (0,0))
 own:w.ownsRow base 5 1 v L.length (bv L)
 low:base<=q
theorem WrAt.stay {w w':World} {base q:Nat} {v:Value} {L:List UInt8} (h:WrAt w base q v L) (hm:Mod No w w'):WrAt w' base q v L :=
 ⟨hm.keep h.obj (fun f=>f),own_keepM h.own hm (fun _ _ f=>f),h.low⟩
abbrev From (base k:Nat):Prop:=base<=k
theorem newWriter_any (w:World):Calls prog 76 #[] w fun e w'=>e=.returned (.pointer (some ⟨w.heap.size,0,none⟩))/\WrAt w' w.heap.size w.heap.size (.slice none 0 0) []/\Mod No w w':=by
 refine calls_hide fun R hR=>?_
 go_enter func76,ntmps76
 go_wp2_with fail
 exact fin hR ⟨rfl,⟨heap_alloc_new w _,World.ownsRow_nil _ _ _ _,Nat.le_refl _⟩,(Mod.refl No w).alloc _⟩
def Wm (base q:Nat) (w:World) (k:Nat):Prop:=k=q\/(base<=k/\∃ cur fz,w.heap[k]? = some (.cells cur 5 fz))
theorem Wm.trans {base q:Nat} {a b c:World} (h:Mod (Wm base q a) a b) (k:Mod (Wm base q b) b c):Mod (Wm base q a) a c :=
 h.then k fun i hi e=>by
  rcases e with e | ⟨e1,cur,fz,e2⟩
  ·exact .inl e
  ·by_cases hn:Wm base q a i
   ·exact hn
   ·exact .inr ⟨e1,cur,fz,by rw [<- h.block i hi hn];exact e2⟩
theorem Wm.no {base q:Nat} {a b:World} (h:Mod No a b):Mod (Wm base q a) a b:=h.weaken fun _ _ f=>f.elim
theorem Wm.ofFrom {base q:Nat} {a b:World} (h:Mod (Wm base q a) a b) (hq:base<=q):Mod (From base) a b:=h.weaken fun k _ e=>by
 rcases e with rfl | e
 ·exact hq
 ·exact e.1
theorem WrAt.push {w w':World} {base q:Nat} {v v':Value} {L M:List UInt8} (h:WrAt w base q v L) (hg:w.grownBy w' v.ownBlock) (hown:w'.ownsRow base 5 1 v' (L++M).length (bv (L++M))) :
  WrAt (w'.setCell ⟨q,0,none⟩ v') base q v' (L++M)/\Mod (Wm base q w) w (w'.setCell ⟨q,0,none⟩ v')/\w'.heap[q]? = some (.cells #[v] 230 (0,0)):=by
 have hm:=Mod.of_grown (S:=fun k=>v.ownBlock=some k) hg (fun k e _=>e)
 have hne:¬ v.ownBlock=some q:=fun e=>by
  obtain ⟨cur,hc⟩:=own_heapM h.own e
  rw [h.obj] at hc;cases hc
 have hq':=hm.keep h.obj hne
 have hms:Mod (fun k=>k=q) w' (w'.setCell ⟨q,0,none⟩ v'):=(Mod.refl (fun k=>k=q) w').setCell (fun _=>rfl) _
 refine ⟨⟨by rw [heap_setCell hq'];rfl,own_keepM hown hms (fun k hk e=>?_),h.low⟩,?_,hq'⟩
 ·subst e
  obtain ⟨cur,hc⟩:=own_heapM hown hk
  rw [hq'] at hc;cases hc
 ·exact Wm.trans (hm.weaken fun k _ e=>.inr ⟨(h.own.lt _ e).1,(own_heapM h.own e).imp fun _ h=>⟨_,h⟩⟩) (hms.weaken fun k _ e=>.inl e)
theorem or128 (x:Nat):bits .or .u8 ((x:Int) % 256) 128=((x % 128+128:Nat):Int):=by
 have h1:(x:Int) % 256=((x % 256:Nat):Int):=by omega
 have:∀ y:Fin 256,bits .or .u8 ((y.val:Nat):Int) 128=((y.val % 128+128:Nat):Int):=by decide +kernel
 rw [h1]
 have h2:=this ⟨x % 256,Nat.mod_lt _ (by decide)⟩
 dsimp only at h2
 rw [h2,show x % 256 % 128=x % 128 by omega]
theorem numB_bound (n:Nat) (h:n < 18446744073709551616):(cnB n).length<=10:=numB_len 9 n (by omega)
set_option maxRecDepth 100000 in
set_option maxHeartbeats 4000000 in
theorem wnumW_any {w:World} {base q:Nat} {v0:Value} {L:List UInt8} (h:WrAt w base q v0 L) (hL:L.length<=1000000000) (hb:base<=w.heap.size) {a:Addr} {c n:Nat} (c0:w.cell? ⟨a.block,a.off,none⟩=some (.int .u64 (n:Int))) (ha:a.spot=none) (hn:n < 18446744073709551616) :
  Calls prog 77 #[.pointer (some ⟨q,0,none⟩),.slice (some a) 1 c] w fun e w'=>∃ v,e=.returned (.tuple #[])/\WrAt w' base q v (L++cnB n)/\Mod (Wm base q w) w w':=by
 obtain ⟨i0,hi,hz0,hz1,hz2⟩:=info_parts info_u8
 refine calls_hide fun R hR=>?_
 obtain ⟨ab,ao,sp⟩:=a
 dsimp only at c0 ha
 subst ha
 have hnb:=numB_bound n hn
 have H:=zh h
 have HN:=zh hn
 have HNB:=zh hnb
 have hn64:(n:Int)<=18446744073709551615:=by omega
 clear h hn hnb
 go_enter func77,ntmps77
 go_wp2_with fail
 go_loopw [5,8] (fun x i wr=>(i=.int .i64 0/\wr=w)\/(i=.int .i64 1/\∃ v,WrAt wr base q v (L++cnB n)/\Mod (Wm base q w) w wr)) (fun _ i _=>2 - (intOf i).toNat)
 case atStart=>exact .inl ⟨rfl,rfl⟩
 case round =>
  rcases hrel with ⟨rfl,rfl⟩ | ⟨rfl,v,hw,hm⟩
  ·go_wp2_with fail
   go_loopw [5] (fun x ws=>∃ (m:Nat) (v:Value) (pre:List UInt8),x=.int .u64 (m:Int)/\m<=n/\cnB n=pre++cnB m/\WrAt ws base q v (L++pre)/\Mod (Wm base q wr) wr ws) (fun x _=>(intOf x).toNat)
   case atStart=>exact ⟨n,v0,[],rfl,Nat.le_refl _,rfl,by rw [List.append_nil];exact H.out,Mod.refl _ _⟩
   case round =>
    obtain ⟨m,v,pre,rfl,hmn,hpre,hw,hm⟩:=hrel
    have hm0:(0:Int)<=(m:Int):=Int.natCast_nonneg _
    have hm1:(m:Int)<=18446744073709551615:=by omega
    have hpl:pre.length<=10:=by
     have:=HNB.out
     rw [hpre,List.length_append] at this;omega
    obtain ⟨va,vc,rfl⟩:=own_len hw.own
    have cq:=cell_of (i:=0) hw.obj rfl
    have HW:=zh hw
    have HM:=zh hm
    have hbs:base<=wr.heap.size:=by have:=hm.size;omega
    clear hw hm
    by_cases hs:m < 128
    ·have hs1:(m:Int) < 128:=by omega
     have HP:=zh (show cnB n=pre++[UInt8.ofNat m] by rw [hpre,numB_lt hs])
     clear hpre
     have hmod:(m:Int) % 256=(m:Int):=by omega
     have HBY:=zh (show (m:Int)=(((UInt8.ofNat m).toNat:Nat):Int) by simp;omega)
     have HOW:=zh (own_keepM HW.out.own ((Mod.refl No wr).alloc (.cells #[.int .u8 (m:Int)] 5)) (fun _ _ f=>f))
     have HBX:=zh (show Sl (wr.alloc (.cells #[.int .u8 (m:Int)] 5)) No 5 (.slice (some ⟨wr.heap.size,0,none⟩) 1 1) 1 (bv [UInt8.ofNat m]) from
      .inr ⟨wr.heap.size,0,1,#[.int .u8 (m:Int)],(0,0),rfl,Nat.le_refl _,by unfold maxLen;omega,fun f=>f,heap_alloc_new wr _,Nat.le_refl _,fun i hi=>by
       obtain rfl:i=0:=by simpa using hi
       rw [HBY.out];rfl⟩)
     have hLp:(L++pre).length<=1000000010:=by rw [List.length_append];omega
     generalize hlp:(L++pre).length=lp at *
     have HLP:=zh hlp
     clear hlp
     go_wp2_with (at_builtin;refine app_sl _ rfl _ _ 41 rfl base 5 i0 (.int .u8 0) 1 1 underlying41 hi hz0 hz1 hz2 rfl (by decide) _ _ _ rfl HOW.out No 5 _ _ _ rfl HBX.out rfl (bv_one _) ?_ ?_ ?_ ?_)
     ·unfold maxLen;omega
     ·omega
     ·simp;omega
     intro v' w6 hown6 hg6 _
     obtain ⟨a6,c6,rfl⟩:=own_len hown6
     have hWa:WrAt (wr.alloc (.cells #[.int .u8 (m:Int)] 5)) base q (.slice va lp vc) (L++pre):=HW.out.stay ((Mod.refl No wr).alloc _)
     obtain ⟨hW7,hM7,hq6⟩:=hWa.push (M:=[UInt8.ofNat m]) hg6 (by
      rw [bv_append,List.length_append,HLP.out];exact hown6)
     have cq6:=cell_of (i:=0) hq6 rfl
     have fq6:=frozen_of 0 hq6
     have HW7:=zh hW7
     have HM7:=zh (Wm.trans (Wm.trans HM.out (Wm.no ((Mod.refl No wr).alloc (.cells #[.int .u8 (m:Int)] 5)))) hM7)
     clear hown6 hg6 hWa hW7 hM7 hq6 HW HM HOW HBX cq
     go_wp2_with fail
     exact ⟨.inr ⟨rfl,_,by rw [HP.out,<- List.append_assoc];exact HW7.out,HM7.out⟩,by go_light;simp only [intOf];omega⟩
    ·have hs1:(128:Int)<=(m:Int):=by omega
     have HP:=zh (show cnB n=(pre++[UInt8.ofNat (m % 128+128)])++cnB (m / 128) by rw [hpre,numB_ge (by omega)];simp)
     clear hpre
     have hor:=or128 m
     obtain ⟨y,hy⟩:∃ y,y=m % 128+128:=⟨_,rfl⟩
     rw [<- hy] at hor HP
     have HBY:=zh (show (y:Int)=(((UInt8.ofNat y).toNat:Nat):Int) by simp;omega)
     clear hy
     have HOW:=zh (own_keepM HW.out.own ((Mod.refl No wr).alloc (.cells #[.int .u8 (y:Int)] 5)) (fun _ _ f=>f))
     have HBX:=zh (show Sl (wr.alloc (.cells #[.int .u8 (y:Int)] 5)) No 5 (.slice (some ⟨wr.heap.size,0,none⟩) 1 1) 1 (bv [UInt8.ofNat y]) from
      .inr ⟨wr.heap.size,0,1,#[.int .u8 (y:Int)],(0,0),rfl,Nat.le_refl _,by unfold maxLen;omega,fun f=>f,heap_alloc_new wr _,Nat.le_refl _,fun i hi=>by
       obtain rfl:i=0:=by simpa using hi
       rw [HBY.out];rfl⟩)
     have hLp:(L++pre).length<=1000000010:=by rw [List.length_append];omega
     generalize hlp:(L++pre).length=lp at *
     have HLP:=zh hlp
     clear hlp
     go_wp2_with (at_builtin;refine app_sl _ rfl _ _ 41 rfl base 5 i0 (.int .u8 0) 1 1 underlying41 hi hz0 hz1 hz2 rfl (by decide) _ _ _ rfl HOW.out No 5 _ _ _ rfl HBX.out rfl (bv_one _) ?_ ?_ ?_ ?_)
     ·unfold maxLen;omega
     ·omega
     ·simp;omega
     intro v' w6 hown6 hg6 _
     obtain ⟨a6,c6,rfl⟩:=own_len hown6
     have hWa:WrAt (wr.alloc (.cells #[.int .u8 (y:Int)] 5)) base q (.slice va lp vc) (L++pre):=HW.out.stay ((Mod.refl No wr).alloc _)
     obtain ⟨hW7,hM7,hq6⟩:=hWa.push (M:=[UInt8.ofNat y]) hg6 (by
      rw [bv_append,List.length_append,HLP.out];exact hown6)
     have cq6:=cell_of (i:=0) hq6 rfl
     have fq6:=frozen_of 0 hq6
     have HW7:=zh hW7
     have HM7:=zh (Wm.trans (Wm.trans HM.out (Wm.no ((Mod.refl No wr).alloc (.cells #[.int .u8 (y:Int)] 5)))) hM7)
     clear hown6 hg6 hWa hW7 hM7 hq6 HW HM HOW HBX cq
     go_wp2_with fail
     exact ⟨⟨m / 128,_,pre++[UInt8.ofNat y],by go_num,by omega,HP.out,by rw [<- List.append_assoc];exact HW7.out,HM7.out⟩,by go_light;simp only [intOf];omega⟩
  ·have HW:=zh hw
   have HM:=zh hm
   clear hw hm
   go_wp2_with fail
   go_end0
   exact fin hR ⟨v,rfl,HW.out,HM.out⟩
theorem wnum_any {w:World} {base q:Nat} {v0:Value} {L:List UInt8} (h:WrAt w base q v0 L) (hL:L.length<=1000000000) (hb:base<=w.heap.size) {a:Addr} {c n:Nat} (c0:w.cell? ⟨a.block,a.off,none⟩=some (.int .u64 (n:Int))) (ha:a.spot=none) (hn:n < 18446744073709551616) :
  Calls prog 77 #[.pointer (some ⟨q,0,none⟩),.slice (some a) 1 c] w fun e w'=>∃ v,e=.returned (.tuple #[])/\WrAt w' base q v (L++cnB n)/\Mod (From base) w w' :=
 (wnumW_any h hL hb c0 ha hn).mono fun _ _ ⟨v,h1,h2,h3⟩=>⟨v,h1,h2,Wm.ofFrom h3 h.low⟩
theorem strCells_bv (s:ByteArray):Lib.strCells s=bv s.data.toList:=by
 unfold Lib.strCells bv
 rfl
theorem str_size (s:ByteArray):s.size=s.data.toList.length:=by simp
set_option maxRecDepth 100000 in
set_option maxHeartbeats 4000000 in
theorem wtext_any {w:World} {base q:Nat} {v0:Value} {L:List UInt8} (h:WrAt w base q v0 L) (hL:L.length<=900000000) (hb:base<=w.heap.size) {ab ao c:Nat} {s:ByteArray} (c0:w.cell? ⟨ab,ao,none⟩=some (.string s)) (hs:s.size<=10000000) :
  Calls prog 78 #[.pointer (some ⟨q,0,none⟩),.slice (some ⟨ab,ao,none⟩) 1 c] w fun e w'=>∃ v,e=.returned (.tuple #[])/\WrAt w' base q v (L++textB s.data.toList)/\Mod (From base) w w':=by
 obtain ⟨i0,hi,hz0,hz1,hz2⟩:=info_parts info_u8
 refine calls_hide fun R hR=>?_
 have H:=zh h
 have HSL:=zh (str_size s)
 have HNB:=zh (numB_bound s.size (by omega))
 have HSC:=zh (strCells_bv s)
 have hsI:(s.size:Int)<=10000000:=by omega
 clear h
 go_enter func78,ntmps78
 go_wp2_with fail
 go_loopw [5,8] (fun x i wr=>(i=.int .i64 0/\wr=w)\/(i=.int .i64 1/\∃ v,WrAt wr base q v (L++textB s.data.toList)/\Mod (From base) w wr)) (fun _ i _=>2 - (intOf i).toNat)
 case atStart=>exact .inl ⟨rfl,rfl⟩
 case round =>
  rcases hrel with ⟨rfl,rfl⟩ | ⟨rfl,v,hw,hm⟩
  ·have hm1:Mod No wr (wr.alloc (.cells #[.int .u64 (s.size:Int)] 130)):=(Mod.refl No wr).alloc _
   have HN:=zh (wnum_any (a:=⟨wr.heap.size,0,none⟩) (c:=1) (n:=s.size) (H.out.stay hm1) (by omega) (by simp;omega) (cell_of (i:=0) (xs:=[.int .u64 (s.size:Int)]) (heap_alloc_new wr _) rfl) rfl (by omega))
   clear hm1
   go_wp2_with fail
   with_reducible refine HN.out.mono ?_
   clear HN
   rintro e w2 ⟨v,rfl,hw2,hm2⟩
   have hlen:(L++cnB s.size).length=L.length+(cnB s.size).length:=List.length_append
   have hnb:=HNB.out
   obtain ⟨va,vc,rfl⟩:=own_len hw2.own
   have cq:=cell_of (i:=0) hw2.obj rfl
   have HW:=zh hw2
   have HM:=zh ((((Mod.refl No wr).alloc (.cells #[.int .u64 (s.size:Int)] 130)).weaken fun _ _ f=>f.elim).trans hm2)
   have hb2:base<=w2.heap.size:=by have:=HM.out.size;omega
   have ho:=hw2.own
   generalize hlp:(L++cnB s.size).length=lp at *
   have HOWN:=zh ho
   clear ho
   have HLP:=zh hlp
   have hlp2:lp<=900000010:=by omega
   clear hw2 hm2 hlen hnb hlp
   go_wp2_with (at_builtin;refine Lib.wpList_append_own_string (P:=prog) _ rfl _ _ 41 9 rfl base 5 i0 underlying41 underlying9 hi hz0 hz1 hz2 _ _ _ rfl HOWN.out s rfl ?_ ?_ hb2 ?_)
   ·unfold maxLen;omega
   ·omega
   intro v' w6 hown6 hg6 _
   obtain ⟨a6,c6,rfl⟩:=own_len hown6
   obtain ⟨hW7,hM7,hq6⟩:=HW.out.push (M:=s.data.toList) hg6 (by
    rw [bv_append,List.length_append,HLP.out,<- HSL.out,<- HSC.out];exact hown6)
   have cq6:=cell_of (i:=0) hq6 rfl
   have fq6:=frozen_of 0 hq6
   have HW7:=zh hW7
   have HM7:=zh (HM.out.trans (Wm.ofFrom hM7 H.out.low))
   clear hown6 hg6 hW7 hM7 hq6 HW HM cq
   go_wp2_with fail
   exact ⟨.inr ⟨rfl,_,by unfold textB;rw [<- HSL.out,<- List.append_assoc];exact HW7.out,HM7.out⟩,by go_light;simp only [intOf];omega⟩
  ·have HW:=zh hw
   have HM:=zh hm
   clear hw hm
   go_wp2_with fail
   go_end0
   exact fin hR ⟨v,rfl,HW.out,HM.out⟩
set_option maxRecDepth 100000 in
set_option maxHeartbeats 4000000 in
theorem wtexts_any {w:World} {base q:Nat} {v0:Value} {L:List UInt8} (h:WrAt w base q v0 L) (hb:base<=w.heap.size) {ab ao c:Nat} (ss:List (List UInt8)) (hab:∃ cur fz,w.heap[ab]? = some (.cells cur 9 fz)) (hc:∀ i (hi:i < ss.length),w.cell? ⟨ab,ao+i,none⟩=some (.string ⟨ss[i].toArray⟩)) (hs:∀ s ∈ ss,s.length<=1000000) (hn:ss.length<=20) (hL:L.length<=800000000) :
  Calls prog 78 #[.pointer (some ⟨q,0,none⟩),.slice (some ⟨ab,ao,none⟩) ss.length c] w fun e w'=>∃ v,e=.returned (.tuple #[])/\WrAt w' base q v (L++ss.flatMap textB)/\Mod (Wm base q w) w w':=by
 obtain ⟨i0,hi,hz0,hz1,hz2⟩:=info_parts info_u8
 refine calls_hide fun R hR=>?_
 have H:=zh h
 have HC:=zh hc
 have HS:=zh hs
 have HTL:=zh (show ∀ k,((ss.take k).flatMap textB).length<=1000010*k from fun k=>by
  induction k with
  | zero=>simp
  | succ k ih =>
   rcases Nat.lt_or_ge k ss.length with hk | hk
   ·rw [List.take_succ_eq_append_getElem hk,List.flatMap_append,List.length_append]
    have h1:=hs _ (List.getElem_mem hk)
    have h2:=numB_bound ss[k].length (by omega)
    simp only [List.flatMap_cons,List.flatMap_nil,List.append_nil,textB,List.length_append]
    omega
   ·rw [List.take_of_length_le (by omega)]
    rw [List.take_of_length_le hk] at ih
    omega)
 have HAB:=zh hab
 have HQ:=zh (show ab ≠ q from fun e=>by
  obtain ⟨cur,fz,h1⟩:=hab
  rw [e,h.obj] at h1
  cases h1)
 have HNW:=zh (show ∀ wr,Mod (Wm base q w) w wr->∀ i (hi:i < ss.length),wr.cell? ⟨ab,ao+i,none⟩=some (.string ⟨ss[i].toArray⟩) from fun wr hm i hi=>hm.cell (hc i hi) (fun e=>by
  rcases e with e | ⟨-,cur,fz,e⟩
  ·exact HQ.out e
  ·obtain ⟨cur2,fz2,h1⟩:=hab
   dsimp only at e
   rw [e] at h1;cases h1))
 clear h hc hs hab
 go_enter func78,ntmps78
 go_wp2_with fail
 go_loopw [8] (fun i wr=>∃ (k:Nat) (v:Value),k<=ss.length/\i=.int .i64 (k:Int)/\WrAt wr base q v (L++(ss.take k).flatMap textB)/\Mod (Wm base q w) w wr) (fun i _=>ss.length - (intOf i).toNat)
 case atStart=>exact ⟨0,v0,Nat.zero_le _,rfl,by simpa using H.out,Mod.refl _ _⟩
 case round =>
  obtain ⟨k,v,hk,rfl,hw,hm⟩:=hrel
  have hk0:(0:Int)<=(k:Int):=Int.natCast_nonneg _
  by_cases hlt:k < ss.length
  ·have hk1:(k:Int) < (ss.length:Int):=by omega
   have cc:=HNW.out _ hm k hlt
   have hsk:=HS.out _ (List.getElem_mem hlt)
   have htl:=HTL.out k
   have HTK:=zh (show L++(ss.take (k+1)).flatMap textB=(L++(ss.take k).flatMap textB)++textB ss[k] by rw [List.take_succ_eq_append_getElem hlt,List.flatMap_append];simp)
   generalize ss[k]=x at *
   have HLL:=zh (show (L++(ss.take k).flatMap textB).length<=850000000 by rw [List.length_append];omega)
   generalize L++(ss.take k).flatMap textB=L1 at *
   have hxs:(⟨x.toArray⟩:ByteArray).size=x.length:=by rw [str_size]
   have HSC:=zh (strCells_bv ⟨x.toArray⟩)
   have HNB:=zh (numB_bound x.length (by omega))
   have hsI:(x.length:Int)<=1000000:=by omega
   have HXL:=zh (show (⟨x.toArray⟩:ByteArray).data.toList=x from rfl)
   generalize (⟨x.toArray⟩:ByteArray)=s at *
   have HM0:=zh hm
   have hbr:base<=wr.heap.size:=Nat.le_trans hb hm.size
   have hm1:Mod No wr (wr.alloc (.cells #[.int .u64 (x.length:Int)] 130)):=(Mod.refl No wr).alloc _
   have HN:=zh (wnumW_any (a:=⟨wr.heap.size,0,none⟩) (c:=1) (n:=x.length) (hw.stay hm1) (by have:=HLL.out;omega) (by simp;omega) (cell_of (i:=0) (xs:=[.int .u64 (x.length:Int)]) (heap_alloc_new wr _) rfl) rfl (by omega))
   clear hm1 hw hm htl
   go_wp2_with fail
   with_reducible refine HN.out.mono ?_
   clear HN
   rintro e w2 ⟨v,rfl,hw2,hm2⟩
   have hlen:(L1++cnB x.length).length=L1.length+(cnB x.length).length:=List.length_append
   have hnb:=HNB.out
   have hll:=HLL.out
   obtain ⟨va,vc,rfl⟩:=own_len hw2.own
   have cq:=cell_of (i:=0) hw2.obj rfl
   have HW:=zh hw2
   have HM:=zh (Wm.trans (Wm.no (base:=base) (q:=q) ((Mod.refl No wr).alloc (.cells #[.int .u64 (x.length:Int)] 130))) hm2)
   have hb2:base<=w2.heap.size:=by have:=HM.out.size;omega
   have ho:=hw2.own
   generalize hlp:(L1++cnB x.length).length=lp at *
   have HOWN:=zh ho
   clear ho
   have HLP:=zh hlp
   have hlp2:lp<=900000010:=by omega
   clear hw2 hm2 hlen hnb hlp hll
   go_wp2_with (at_builtin;refine Lib.wpList_append_own_string (P:=prog) _ rfl _ _ 41 9 rfl base 5 i0 underlying41 underlying9 hi hz0 hz1 hz2 _ _ _ rfl HOWN.out s rfl ?_ ?_ hb2 ?_)
   ·unfold maxLen;omega
   ·omega
   intro v' w6 hown6 hg6 _
   obtain ⟨a6,c6,rfl⟩:=own_len hown6
   obtain ⟨hW7,hM7,hq6⟩:=HW.out.push (M:=x) hg6 (by
    have h9:=hown6
    rw [HSC.out,HXL.out] at h9
    (try rw [hxs] at h9)
    rw [bv_append,List.length_append,HLP.out];exact h9)
   have cq6:=cell_of (i:=0) hq6 rfl
   have fq6:=frozen_of 0 hq6
   have HW7:=zh hW7
   have HM7:=zh (Wm.trans HM0.out (Wm.trans HM.out hM7))
   clear hown6 hg6 hW7 hM7 hq6 HW HM cq
   go_wp2_with fail
   exact ⟨⟨k+1,_,by omega,by simp,by rw [HTK.out];unfold textB;rw [<- List.append_assoc];exact HW7.out,HM7.out⟩,by show ss.length - ((k:Int)+1).toNat < ss.length - (k:Int).toNat;omega⟩
  ·obtain rfl:k=ss.length:=by omega
   rw [List.take_length] at hw
   have HW:=zh hw
   have HM:=zh hm
   clear hw hm
   go_wp2_with fail
   go_end0
   exact fin hR ⟨v,rfl,HW.out,HM.out⟩
set_option maxRecDepth 100000 in
set_option maxHeartbeats 4000000 in
theorem wbool_any {w:World} {base q:Nat} {v0:Value} {L:List UInt8} (h:WrAt w base q v0 L) (hL:L.length<=900000000) (hb:base<=w.heap.size) {ab ao c:Nat} {o:Bool} (c0:w.cell? ⟨ab,ao,none⟩=some (.bool o)) :
  Calls prog 79 #[.pointer (some ⟨q,0,none⟩),.slice (some ⟨ab,ao,none⟩) 1 c] w fun e w'=>∃ v,e=.returned (.tuple #[])/\WrAt w' base q v (L++boolB o)/\Mod (From base) w w':=by
 refine calls_hide fun R hR=>?_
 have H:=zh h
 clear h
 go_enter func79,ntmps79
 go_wp2_with fail
 go_loopw [5,6,9] (fun x y i wr=>(i=.int .i64 0/\wr=w)\/(i=.int .i64 1/\∃ v,WrAt wr base q v (L++boolB o)/\Mod (From base) w wr)) (fun _ _ i _=>2 - (intOf i).toNat)
 case atStart=>exact .inl ⟨rfl,rfl⟩
 case round =>
  rcases hrel with ⟨rfl,rfl⟩ | ⟨rfl,v,hw,hm⟩
  ·obtain ⟨n,hn⟩:∃ n:Nat,n=if o then 1 else 0:=⟨_,rfl⟩
   have hn1:n<=1:=by rw [hn];split <;> omega
   have HBB:=zh (show cnB n=boolB o by rw [hn];cases o <;> (rw [numB_lt (by decide)];rfl))
   have hm1:Mod No wr (wr.alloc (.cells #[.int .u64 (n:Int)] 130)):=(Mod.refl No wr).alloc _
   have HNX:=zh (wnum_any (a:=⟨wr.heap.size,0,none⟩) (c:=1) (n:=n) (H.out.stay hm1) (by omega) (by simp;omega) (cell_of (i:=0) (xs:=[.int .u64 (n:Int)]) (heap_alloc_new wr _) rfl) rfl (by omega))
   clear hm1
   cases o with
   | true =>
    obtain rfl:n=1:=hn
    go_wp2_with fail
    refine HNX.out.mono ?_
    clear HNX
    rintro e w2 ⟨v,rfl,hw2,hm2⟩
    have HW:=zh hw2
    have HM:=zh ((((Mod.refl No wr).alloc (.cells #[.int .u64 ((1:Nat):Int)] 130)).weaken fun _ _ f=>f.elim).trans hm2)
    clear hw2 hm2
    go_wp2_with fail
    exact ⟨.inr ⟨rfl,v,by rw [<- HBB.out];exact HW.out,HM.out⟩,by go_light;simp only [intOf];omega⟩
   | false =>
    obtain rfl:n=0:=hn
    go_wp2_with fail
    refine HNX.out.mono ?_
    clear HNX
    rintro e w2 ⟨v,rfl,hw2,hm2⟩
    have HW:=zh hw2
    have HM:=zh ((((Mod.refl No wr).alloc (.cells #[.int .u64 ((0:Nat):Int)] 130)).weaken fun _ _ f=>f.elim).trans hm2)
    clear hw2 hm2
    go_wp2_with fail
    exact ⟨.inr ⟨rfl,v,by rw [<- HBB.out];exact HW.out,HM.out⟩,by go_light;simp only [intOf];omega⟩
  ·have HW:=zh hw
   have HM:=zh hm
   clear hw hm
   go_wp2_with fail
   go_end0
   exact fin hR ⟨v,rfl,HW.out,HM.out⟩
theorem wbytes_any {w:World} {base q:Nat} {v0:Value} {L:List UInt8} (h:WrAt w base q v0 L) (hL:L.length<=1000000000) :
  Calls prog 80 #[.pointer (some ⟨q,0,none⟩)] w fun e w'=>∃ v,e=.returned v/\w'.ownsRow w.heap.size 5 1 v L.length (bv L)/\Mod No w w':=by
 refine calls_hide fun R hR=>?_
 have cq:=cell_of (i:=0) h.obj rfl
 have HC:=clone_bytes No v0 (bv L) w (by rw [bv_length];exact Sl.of_own h.own (fun _ _ f=>f)) (bv_one _) (by rw [bv_length];omega)
 rw [bv_length] at HC
 have HC:=zh HC
 obtain ⟨va,vc,rfl⟩:=own_len h.own
 clear h
 go_enter func80,ntmps80
 go_wp2_with fail
 with_reducible refine HC.out.mono ?_
 rintro e w2 ⟨v,rfl,ho,-,hm⟩
 have HO:=zh ho
 have HM:=zh hm
 clear ho hm HC cq
 go_wp2_with fail
 exact fin hR ⟨v,rfl,HO.out,HM.out⟩
theorem sizeOf_u8 (W:World):(sizeOf (prog.elem 41)).run prog W=.ok 1 W:=by kernel_rfl
theorem elem_u8:prog.underlying 41=some (.slice (prog.elem 41)):=by kernel_rfl
theorem slice_from {w:World} {X:Nat->Prop} {a:Option Addr} {n c k:Nat} {kd:IntKind} {xs:List Value} (h:Sl w X 5 (.slice a n c) n xs) (hx:xs.length=n) (hk:k<=n) :
  ∃ a',(∀ W,(Instr.slice 41 (.slice a n c) (some (.int kd (k:Int))) none none).run prog W=.ok (.slice a' (n - k) (c - k)) W)/\Sl w X 5 (.slice a' (n - k) (c - k)) (n - k) (xs.drop k):=by
 have hrun:∀ W,(Instr.slice 41 (.slice a n c) (some (.int kd (k:Int))) none none).run prog W=.ok (sliced a k n c 1) W:=fun W=>by
  rw [run_slice_l W 41 a n c elem_u8 kd (k:Int) (by omega) (by omega),sizeOf_u8]
  rfl
 refine ⟨_,hrun,?_⟩
 rcases h with ⟨h,h0,rfl⟩ | ⟨blk,o,c',cur,fz,hv,hn,hc,hX,hh,hl,hr⟩
 ·cases h
  obtain rfl:k=0:=by omega
  exact .inl ⟨rfl,rfl,by simp⟩
 ·cases hv
  by_cases hck:c=k
  ·subst hck
   obtain rfl:n=c:=by omega
   rw [if_pos rfl,List.drop_of_length_le (by omega)]
   exact .inr ⟨blk,o,n - n,cur,fz,rfl,by omega,by omega,hX,hh,by simp only [List.length_nil];omega,fun i hi=>by cases hi⟩
  ·rw [if_neg hck]
   refine .inr ⟨blk,o+k,c - k,cur,fz,?_,by omega,by omega,hX,hh,by rw [List.length_drop];omega,fun i hi=>?_⟩
   ·simp only [Option.map_some,Nat.mul_one]
    congr 2
    exact Addr.add_lit _ _ _
   ·rw [List.length_drop] at hi
    rw [List.getElem?_drop,<- hr (k+i) (by omega),Nat.add_assoc]
theorem slice_to {w:World} {X:Nat->Prop} {a:Option Addr} {n c k:Nat} {kd:IntKind} {xs:List Value} (h:Sl w X 5 (.slice a n c) n xs) (hx:xs.length=n) (hk:k<=n) :
  ∃ a',(∀ W,(Instr.slice 41 (.slice a n c) none (some (.int kd (k:Int))) none).run prog W=.ok (.slice a' k c) W)/\Sl w X 5 (.slice a' k c) k (xs.take k):=by
 have hnc:n<=c:=by
  rcases h with ⟨h,h0,_⟩ | ⟨blk,o,c',cur,fz,hv,hn,_⟩
  ·cases h;exact Nat.le_refl _
  ·cases hv;exact hn
 have hrun:∀ W,(Instr.slice 41 (.slice a n c) none (some (.int kd (k:Int))) none).run prog W=.ok (sliced a 0 k c 1) W:=fun W=>by
  rw [run_slice_h W 41 a n c elem_u8 kd (k:Int) (by omega) (by omega),sizeOf_u8]
  rfl
 refine ⟨_,hrun,?_⟩
 rcases h with ⟨h,h0,rfl⟩ | ⟨blk,o,c',cur,fz,hv,hn,hc,hX,hh,hl,hr⟩
 ·cases h
  obtain rfl:k=0:=by omega
  exact .inl ⟨rfl,rfl,by simp⟩
 ·cases hv
  have e:(if c=0 then some (⟨blk,o,none⟩:Addr) else Option.map (fun x:Addr=>x.add (0*1)) (some ⟨blk,o,none⟩))=some ⟨blk,o,none⟩:=by
   split
   ·rfl
   ·simp [Addr.add]
  rw [e]
  exact .inr ⟨blk,o,c,cur,fz,rfl,by omega,hc,hX,hh,by rw [List.length_take];omega,fun i hi=>by
   rw [List.length_take] at hi
   rw [List.getElem?_take_of_lt (by omega)]
   exact hr i (by omega)⟩
abbrev stopC:Value:=.iface 265 (.agg #[])
abbrev StoppedC:Ending:=.panicked [{ v:=stopC,recovered:=false }]
theorem cmust_yes (w:World):Calls prog 181 #[.bool true] w fun e w'=>e=.returned (.tuple #[])/\w'=w:=by
 refine calls_hide fun R hR=>?_
 go_enter func181,ntmps181
 go_wp2_with fail
 go_end0
 exact fin hR ⟨rfl,rfl⟩
theorem cmust_no (w:World):Calls prog 181 #[.bool false] w fun e w'=>e=StoppedC/\w'=w:=by
 refine calls_hide fun R hR=>?_
 go_enter func181,ntmps181
 go_wp2_with fail
 exact ⟨rfl,fin hR ⟨rfl,rfl⟩⟩
structure RdAt (w:World) (q:Nat) (v:Value) (L:List UInt8) (failed:Bool):Prop where
 obj:w.heap[q]? = some (.cells #[v,.bool failed] 221 (0,0))
 row:Sl w No 5 v L.length (bv L)
theorem RdAt.keep {S:Nat->Prop} {w w':World} {q:Nat} {v:Value} {L:List UInt8} {f:Bool} (h:RdAt w q v L f) (hm:Mod S w w') (hq:¬ S q) (hs:∀ k cur fz,S k->w.heap[k]? ≠ some (.cells cur 5 fz)):RdAt w' q v L f :=
 ⟨hm.keep h.obj hq,h.row.keep hm fun k cur fz s _=>hs k cur fz s⟩
theorem RdAt.stay {w w':World} {q:Nat} {v:Value} {L:List UInt8} {f:Bool} (h:RdAt w q v L f) (hm:Mod No w w'):RdAt w' q v L f :=
 h.keep hm (fun f=>f) (fun _ _ _ f=>f.elim)
theorem RdAt.set {w:World} {q:Nat} {v v':Value} {L L':List UInt8} {f:Bool} (h:RdAt w q v L f) (h':Sl w No 5 v' L'.length (bv L')):RdAt (w.setCell ⟨q,0,none⟩ v') q v' L' f/\Mod (fun k=>k=q) w (w.setCell ⟨q,0,none⟩ v'):=by
 have hm:Mod (fun k=>k=q) w (w.setCell ⟨q,0,none⟩ v'):=(Mod.refl (fun k=>k=q) w).setCell (fun _=>rfl) _
 exact ⟨⟨by rw [heap_setCell h.obj];rfl,h'.keep hm fun k cur fz s _ e=>by subst s;rw [h.obj] at e;cases e⟩,hm⟩
theorem newReader_any {w:World} {X:Nat->Prop} {v:Value} {L:List UInt8} (h:Sl w X 5 v L.length (bv L)) (hl:L.length<=1000000000) :
  Calls prog 66 #[v] w fun e w'=>∃ q v',e=.returned (.pointer (some ⟨q,0,none⟩))/\RdAt w' q v' L false/\Mod No w w'/\w.heap.size<=q:=by
 refine calls_hide fun R hR=>?_
 have HC:=clone_bytes X v (bv L) w (by rw [bv_length];exact h) (bv_one _) (by rw [bv_length];omega)
 rw [bv_length] at HC
 have HC:=zh HC
 obtain ⟨va,vc,rfl⟩:=h.len
 clear h
 go_enter func66,ntmps66
 go_wp2_with fail
 with_reducible refine HC.out.mono ?_
 rintro e w2 ⟨v',rfl,ho,-,hm⟩
 have hm2:Mod No w2 (w2.alloc (.cells #[v',.bool false] 221)):=(Mod.refl No w2).alloc _
 have HR:=zh (show RdAt (w2.alloc (.cells #[v',.bool false] 221)) w2.heap.size v' L false from ⟨heap_alloc_new w2 _,(Sl.of_own ho (fun _ _ f=>f)).kn hm2⟩)
 have HM:=zh (hm.trans hm2)
 have HZ:=zh hm.size
 obtain ⟨ha,hc,rfl⟩:=own_len ho
 clear ho hm hm2 HC
 go_wp2_with fail
 exact fin hR ⟨_,_,rfl,HR.out,HM.out,HZ.out⟩
theorem andNot128 (x:Nat) (h:x < 256):bits .andNot .u8 (x:Int) 128=((x % 128:Nat):Int):=by
 have:∀ y:Fin 256,bits .andNot .u8 ((y.val:Nat):Int) 128=((y.val % 128:Nat):Int):=by decide +kernel
 exact this ⟨x,h⟩
theorem and128 (x:Nat) (h:x < 256):bits .and .u8 (x:Int) 128=if x < 128 then 0 else 128:=by
 have:∀ y:Fin 256,bits .and .u8 ((y.val:Nat):Int) 128=if y.val < 128 then 0 else 128:=by decide +kernel
 exact this ⟨x,h⟩
theorem or_part (acc y k:Nat) (hk:k<=63) (h:acc < 2 ^ k) (hy:y*2 ^ k < 18446744073709551616):bits .or .u64 (acc:Int) ((y*2 ^ k:Nat):Int)=((acc+y*2 ^ k:Nat):Int):=by
 have ha:acc < 18446744073709551616:=Nat.lt_of_lt_of_le h (Nat.le_trans (Nat.pow_le_pow_right (by decide) hk) (by decide))
 rw [bits_or_u64_nat _ _ ha hy,Nat.or_comm,Nat.mul_comm y,<- Nat.two_pow_add_eq_or_of_lt h y,Nat.add_comm]
theorem or_wrap (acc y k:Nat) (hk:k<=63) (h:acc < 2 ^ k) (hy:y*2 ^ k < 18446744073709551616):bits .or .u64 (acc:Int) (IntKind.u64.wrap ((y:Int)*2 ^ k))=((acc+y*2 ^ k:Nat):Int):=by
 have e:IntKind.u64.wrap ((y:Int)*2 ^ k)=((y*2 ^ k:Nat):Int):=by
  have e1:(y:Int)*2 ^ k=((y*2 ^ k:Nat):Int):=by rw [Int.natCast_mul,Int.natCast_pow];rfl
  rw [e1,IntKind.wrap_u64]
  exact Int.emod_eq_of_lt (Int.natCast_nonneg _) (by omega)
 rw [e]
 exact or_part acc y k hk h hy
theorem cmust_if (b:Bool) (hb:b=true) (w:World):Calls prog 181 #[.bool b] w fun e w'=>e=.returned (.tuple #[])/\w'=w:=by
 subst hb;exact cmust_yes w
theorem cmust_not (b:Bool) (hb:b=false) (w:World):Calls prog 181 #[.bool b] w fun e w'=>e=StoppedC/\w'=w:=by
 subst hb;exact cmust_no w
theorem part_lt {acc y k:Nat} (h:acc < 2 ^ (7*k)) (hy:y < 128):acc+y*2 ^ (7*k) < 2 ^ (7*(k+1)):=by
 have hp:2 ^ (7*(k+1))=128*2 ^ (7*k):=by rw [show 7*(k+1)=7*k+7 by omega,Nat.pow_add];omega
 have:y*2 ^ (7*k)<=127*2 ^ (7*k):=Nat.mul_le_mul_right _ (by omega)
 omega
theorem part_64 {y k:Nat} (hk:k<=9) (hy:y < 128) (h9:k=9->y<=1):y*2 ^ (7*k) < 18446744073709551616:=by
 by_cases e:k=9
 ·subst e;have:=h9 rfl;omega
 ·have h1:2 ^ (7*k)<=2 ^ 56:=Nat.pow_le_pow_right (by decide) (by omega)
  have h2:y*2 ^ (7*k)<=127*2 ^ 56:=Nat.mul_le_mul (by omega) h1
  omega
theorem part_sum {acc y k:Nat} (h:acc < 2 ^ (7*k)) (hk:k<=9) (hy:y < 128) (h9:k=9->y<=1):acc+y*2 ^ (7*k) < 18446744073709551616:=by
 by_cases e:k=9
 ·subst e;have:=h9 rfl;omega
 ·have h1:2 ^ (7*k)<=2 ^ 56:=Nat.pow_le_pow_right (by decide) (by omega)
  have h2:y*2 ^ (7*k)<=127*2 ^ 56:=Nat.mul_le_mul (by omega) h1
  omega
def NumPost (w:World) (q:Nat) (L:List UInt8) (e:Ending) (w':World):Prop :=
 Mod (fun k=>k=q) w w'/\∃ v L',RdAt w' q v L' false/\((∃ n,rdNum L=some (n,L')/\e=.returned (.int .u64 (n:Int))/\n < 18446744073709551616)\/(rdNum L=none/\e=StoppedC))
set_option maxRecDepth 100000 in
set_option maxHeartbeats 4000000 in
theorem num_any {w:World} {q:Nat} {v0:Value} {L:List UInt8} (h:RdAt w q v0 L false) (_:L.length<=1000000000) :
  Calls prog 154 #[.pointer (some ⟨q,0,none⟩)] w (NumPost w q L):=by
 refine calls_hide fun R hR=>?_
 have H:=zh h
 clear h
 go_enter func154,ntmps154
 go_wp2_with fail
 go_loopw [3,4] (fun n i wr=>∃ (k acc:Nat) (v:Value) (l:List UInt8),k<=9/\i=.int .i64 (k:Int)/\n=.int .u64 (acc:Int)/\acc < 2 ^ (7*k)/\RdAt wr q v l false/\Mod (fun k=>k=q) w wr/\rdNum L=rdNumG k acc l/\l.length<=L.length) (fun _ i _=>10 - (intOf i).toNat)
 case atStart=>exact ⟨0,0,v0,L,by omega,rfl,rfl,by decide,H.out,Mod.refl _ _,rfl,Nat.le_refl _⟩
 case round =>
  obtain ⟨k,acc,v,l,hk,rfl,rfl,hacc,hrd,hm,hG,hll⟩:=hrel
  have hk0:(0:Int)<=(k:Int):=Int.natCast_nonneg _
  have hk9:(k:Int)<=9:=by omega
  have HACC:=zh hacc
  have HM:=zh hm
  obtain ⟨a,c,rfl⟩:=hrd.row.len
  have cq:=cell_of (i:=0) hrd.obj rfl
  have fq:=frozen_of 0 hrd.obj
  have HRD:=zh hrd
  clear hacc hm hrd
  cases l with
  | nil =>
   have HG:=zh (show rdNum L=none from hG)
   clear hG
   go_wp2_with fail
   with_reducible refine (cmust_no wr).mono ?_
   rintro e w2 ⟨rfl,h2⟩
   subst h2
   go_wp2_with fail
   exact ⟨rfl,fin hR ⟨HM.out,_,_,HRD.out,.inr ⟨HG.out,rfl⟩⟩⟩
  | cons x l =>
   have hxb:=UInt8.toNat_lt x
   obtain ⟨g,o,c',hv,-⟩:=HRD.out.row.shape (by simp)
   cases hv
   have hcx:=HRD.out.row.cell (i:=0) (by simp)
   rw [bv_get _ _ (by simp)] at hcx
   dsimp only [List.getElem_cons_zero] at hcx
   rw [Nat.add_zero] at hcx
   obtain ⟨a',hsf,hsl⟩:=slice_from (kd:=.i64) (k:=1) HRD.out.row (by rw [bv_length]) (by simp)
   rw [show ((1:Nat):Int)=1 from rfl] at hsf
   have hsf:=hsf wr
   have hl1:(x :: l).length - 1=l.length:=by simp
   rw [hl1] at hsf hsl
   have HSL:=zh (show Sl wr No 5 (.slice a' l.length (c - 1)) l.length (bv l) from hsl)
   obtain ⟨w2,hw2⟩:∃ w2,w2=wr.setCell ⟨q,0,none⟩ (.slice a' l.length (c - 1)):=⟨_,rfl⟩
   obtain ⟨hR2,hM2⟩:=HRD.out.set HSL.out
   rw [<- hw2] at hR2 hM2
   have HR2:=zh hR2
   have HM2:=zh (HM.out.trans hM2)
   have HW2:=zh hw2
   have hlen1:(x :: l).length=l.length+1:=rfl
   rw [hlen1] at hsf cq
   clear hsl hl1 hR2 hM2 hw2 hlen1
   unfold rdNumG at hG
   generalize x.toNat=xv at *
   rw [if_neg (by omega)] at hG
   by_cases h9:k=9/\1 < xv
   ·rw [if_pos h9] at hG
    have HG:=zh hG
    obtain ⟨rfl,hx1⟩:=h9
    have hx1':(1:Int) < (xv:Int):=by omega
    clear hG
    go_wp2_with fail
    with_reducible refine (cmust_yes wr).mono ?_
    rintro e w3 ⟨rfl,h2⟩
    subst h2
    go_wp2_with fail
    rw [<- HW2.out,show decide ((xv:Int)<=1)=false from decide_eq_false (by omega)]
    with_reducible refine (cmust_no w2).mono ?_
    rintro e w4 ⟨rfl,h2⟩
    subst h2
    go_wp2_with fail
    exact ⟨rfl,fin hR ⟨HM2.out,_,_,HR2.out,.inr ⟨HG.out,rfl⟩⟩⟩
   ·rw [if_neg h9] at hG
    by_cases hs:xv < 128
    ·have hsI:(xv:Int) < 128:=by omega
     rw [if_pos hs] at hG
     by_cases h0:xv=0/\k ≠ 0
     ·rw [if_pos h0] at hG
      have hx0:(xv:Int)=0:=by omega
      have hk1:¬ (k:Int)=0:=by omega
      have hk1':(0:Int) < (k:Int):=by omega
      have hkb:((k:Int) == 0)=false:=by simpa using hk1
      have hxb0:((xv:Int) != 0)=false:=by simp;omega
      by_cases hk8:k<=8
      ·have hk8I:(k:Int) < 9:=by omega
       clear hx0
       have ha1:=andNot128 xv hxb
       have ha2:=and128 xv hxb
       rw [if_pos hs] at ha2
       have HP64:=zh (part_64 (y:=xv % 128) hk (Nat.mod_lt _ (by decide)) (fun e=>by omega))
       have HOR:=zh (or_wrap acc (xv % 128) (7*k) (by omega) HACC.out HP64.out)
       have HLT:=zh (part_lt (y:=xv % 128) HACC.out (Nat.mod_lt _ (by decide)))
       have HS64:=zh (part_sum (y:=xv % 128) HACC.out hk (Nat.mod_lt _ (by decide)) (fun e=>by omega))
       have HG:=zh hG
       clear hG h9
       generalize hy:xv % 128=y at *
       have HY:=zh hy
       clear hy
       have hyI:(y:Int) < 128:=by have:=HY.out;omega
       go_wp2_with fail
       with_reducible refine (cmust_yes wr).mono ?_
       rintro e w3 ⟨rfl,h2⟩
       subst h2
       go_wp2_with fail
       rw [<- HW2.out]
       refine (cmust_if _ ?hb w2).mono ?_
       case hb=>first | rfl | (exact decide_eq_true (by omega))
       rintro e w4 ⟨rfl,h2⟩
       subst h2
       go_wp2_with fail
       refine (cmust_not _ ?hb2 w4).mono ?_
       case hb2=>first | rfl | (simp;omega) | (exact decide_eq_false (by omega))
       rintro e w5 ⟨rfl,h2⟩
       subst h2
       go_wp2_with fail
       exact ⟨rfl,fin hR ⟨HM2.out,_,_,HR2.out,.inr ⟨HG.out,rfl⟩⟩⟩
      ·have hk8I:¬ (k:Int) < 9:=by omega
       have hk8J:(9:Int)<=(k:Int):=by omega
       clear hx0
       have ha1:=andNot128 xv hxb
       have ha2:=and128 xv hxb
       rw [if_pos hs] at ha2
       have HP64:=zh (part_64 (y:=xv % 128) hk (Nat.mod_lt _ (by decide)) (fun e=>by omega))
       have HOR:=zh (or_wrap acc (xv % 128) (7*k) (by omega) HACC.out HP64.out)
       have HLT:=zh (part_lt (y:=xv % 128) HACC.out (Nat.mod_lt _ (by decide)))
       have HS64:=zh (part_sum (y:=xv % 128) HACC.out hk (Nat.mod_lt _ (by decide)) (fun e=>by omega))
       have HG:=zh hG
       clear hG h9
       generalize hy:xv % 128=y at *
       have HY:=zh hy
       clear hy
       have hyI:(y:Int) < 128:=by have:=HY.out;omega
       go_wp2_with fail
       with_reducible refine (cmust_yes wr).mono ?_
       rintro e w3 ⟨rfl,h2⟩
       subst h2
       go_wp2_with fail
       rw [<- HW2.out]
       refine (cmust_if _ ?hb w2).mono ?_
       case hb=>first | rfl | (exact decide_eq_true (by omega))
       rintro e w4 ⟨rfl,h2⟩
       subst h2
       go_wp2_with fail
       refine (cmust_not _ ?hb2 w4).mono ?_
       case hb2=>first | rfl | (simp;omega) | (exact decide_eq_false (by omega))
       rintro e w5 ⟨rfl,h2⟩
       subst h2
       go_wp2_with fail
       exact ⟨rfl,fin hR ⟨HM2.out,_,_,HR2.out,.inr ⟨HG.out,rfl⟩⟩⟩
     ·rw [if_neg h0] at hG
      by_cases hx:xv=0
      ·have hkb:((k:Int) == 0)=true:=by simp;omega
       have hxb0:((xv:Int) != 0)=false:=by simp;omega
       have hk8I:(k:Int) < 9:=by omega
       have hkz:k<=8:=by omega
       clear hx h0
       have ha1:=andNot128 xv hxb
       have ha2:=and128 xv hxb
       rw [if_pos hs] at ha2
       have HP64:=zh (part_64 (y:=xv % 128) hk (Nat.mod_lt _ (by decide)) (fun e=>by omega))
       have HOR:=zh (or_wrap acc (xv % 128) (7*k) (by omega) HACC.out HP64.out)
       have HLT:=zh (part_lt (y:=xv % 128) HACC.out (Nat.mod_lt _ (by decide)))
       have HS64:=zh (part_sum (y:=xv % 128) HACC.out hk (Nat.mod_lt _ (by decide)) (fun e=>by omega))
       have HG:=zh hG
       clear hG h9
       generalize hy:xv % 128=y at *
       have HY:=zh hy
       clear hy
       have hyI:(y:Int) < 128:=by have:=HY.out;omega
       go_wp2_with fail
       with_reducible refine (cmust_yes wr).mono ?_
       rintro e w3 ⟨rfl,h2⟩
       subst h2
       go_wp2_with fail
       rw [<- HW2.out]
       refine (cmust_if _ ?hb w2).mono ?_
       case hb=>first | rfl | (exact decide_eq_true (by omega))
       rintro e w4 ⟨rfl,h2⟩
       subst h2
       go_wp2_with fail
       refine (cmust_if _ ?hb2 w4).mono ?_
       case hb2=>first | rfl | (simp;omega) | (exact decide_eq_true (by omega))
       rintro e w5 ⟨rfl,h2⟩
       subst h2
       go_wp2_with fail
       refine fin hR ⟨HM2.out,_,_,HR2.out,.inl ⟨_,HG.out,?_,?_⟩⟩
       ·first | (rw [HOR.out];rfl) | rw [HOR.out]
       ·exact HS64.out
      ·have hx0:¬ (xv:Int)=0:=by omega
       have hxb0:((xv:Int) != 0)=true:=by simp;omega
       by_cases hk8:k<=8
       ·have hk8I:(k:Int) < 9:=by omega
        have ha1:=andNot128 xv hxb
        have ha2:=and128 xv hxb
        rw [if_pos hs] at ha2
        have HP64:=zh (part_64 (y:=xv % 128) hk (Nat.mod_lt _ (by decide)) (fun e=>by omega))
        have HOR:=zh (or_wrap acc (xv % 128) (7*k) (by omega) HACC.out HP64.out)
        have HLT:=zh (part_lt (y:=xv % 128) HACC.out (Nat.mod_lt _ (by decide)))
        have HS64:=zh (part_sum (y:=xv % 128) HACC.out hk (Nat.mod_lt _ (by decide)) (fun e=>by omega))
        have HG:=zh hG
        clear hG h9
        generalize hy:xv % 128=y at *
        have HY:=zh hy
        clear hy
        have hyI:(y:Int) < 128:=by have:=HY.out;omega
        go_wp2_with fail
        with_reducible refine (cmust_yes wr).mono ?_
        rintro e w3 ⟨rfl,h2⟩
        subst h2
        go_wp2_with fail
        rw [<- HW2.out]
        refine (cmust_if _ ?hb w2).mono ?_
        case hb=>first | rfl | (exact decide_eq_true (by omega))
        rintro e w4 ⟨rfl,h2⟩
        subst h2
        go_wp2_with fail
        refine (cmust_if _ ?hb2 w4).mono ?_
        case hb2=>first | rfl | (simp;omega) | (exact decide_eq_true (by omega))
        rintro e w5 ⟨rfl,h2⟩
        subst h2
        go_wp2_with fail
        refine fin hR ⟨HM2.out,_,_,HR2.out,.inl ⟨_,HG.out,?_,?_⟩⟩
        ·first | (rw [HOR.out];rfl) | rw [HOR.out]
        ·exact HS64.out
       ·have hk8I:¬ (k:Int) < 9:=by omega
        have hk8J:(9:Int)<=(k:Int):=by omega
        have hx1I:(xv:Int)<=1:=by omega
        have ha1:=andNot128 xv hxb
        have ha2:=and128 xv hxb
        rw [if_pos hs] at ha2
        have HP64:=zh (part_64 (y:=xv % 128) hk (Nat.mod_lt _ (by decide)) (fun e=>by omega))
        have HOR:=zh (or_wrap acc (xv % 128) (7*k) (by omega) HACC.out HP64.out)
        have HLT:=zh (part_lt (y:=xv % 128) HACC.out (Nat.mod_lt _ (by decide)))
        have HS64:=zh (part_sum (y:=xv % 128) HACC.out hk (Nat.mod_lt _ (by decide)) (fun e=>by omega))
        have HG:=zh hG
        clear hG h9
        generalize hy:xv % 128=y at *
        have HY:=zh hy
        clear hy
        have hyI:(y:Int) < 128:=by have:=HY.out;omega
        go_wp2_with fail
        with_reducible refine (cmust_yes wr).mono ?_
        rintro e w3 ⟨rfl,h2⟩
        subst h2
        go_wp2_with fail
        rw [<- HW2.out]
        refine (cmust_if _ ?hb w2).mono ?_
        case hb=>first | rfl | (exact decide_eq_true (by omega))
        rintro e w4 ⟨rfl,h2⟩
        subst h2
        go_wp2_with fail
        refine (cmust_if _ ?hb2 w4).mono ?_
        case hb2=>first | rfl | (simp;omega) | (exact decide_eq_true (by omega))
        rintro e w5 ⟨rfl,h2⟩
        subst h2
        go_wp2_with fail
        refine fin hR ⟨HM2.out,_,_,HR2.out,.inl ⟨_,HG.out,?_,?_⟩⟩
        ·first | (rw [HOR.out];rfl) | rw [HOR.out]
        ·exact HS64.out
    ·have hk8:k<=8:=by omega
     rw [if_neg hs] at hG
     have ha1:=andNot128 xv hxb
     have ha2:=and128 xv hxb
     rw [if_neg hs] at ha2
     have hk8I:(k:Int) < 9:=by omega
     have HP64:=zh (part_64 (y:=xv % 128) hk (Nat.mod_lt _ (by decide)) (fun e=>by omega))
     have HOR:=zh (or_wrap acc (xv % 128) (7*k) (by omega) HACC.out HP64.out)
     have HLT:=zh (part_lt (y:=xv % 128) HACC.out (Nat.mod_lt _ (by decide)))
     have HS64:=zh (part_sum (y:=xv % 128) HACC.out hk (Nat.mod_lt _ (by decide)) (fun e=>by omega))
     have HG:=zh hG
     clear hG h9
     generalize hy:xv % 128=y at *
     have HY:=zh hy
     clear hy
     have hyI:(y:Int) < 128:=by have:=HY.out;omega
     go_wp2_with fail
     with_reducible refine (cmust_yes wr).mono ?_
     rintro e w3 ⟨rfl,h2⟩
     subst h2
     go_wp2_with fail
     rw [<- HW2.out]
     with_reducible refine (cmust_yes w2).mono ?_
     rintro e w4 ⟨rfl,h2⟩
     subst h2
     go_wp2_with fail
     exact ⟨⟨k+1,acc+y*2 ^ (7*k),_,l,by omega,by go_num,by rw [HOR.out],HLT.out,HR2.out,HM2.out,HG.out,by simp only [List.length_cons] at hll;omega⟩,by go_light;simp only [intOf];omega⟩
end Go.Proofs.YtmppeipgjcjdkaaGreatDoor
