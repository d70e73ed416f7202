/-
  Layers 0 to 14: helps of the laws of indexes. No statement is proved here; no condition.
-/
import Derived.Test.YtgiigemfbebcgaaGreatDoorT14
import Derived.Test.YtgiigemfbebcgaaGreatDoorT13
import Derived.Test.YtgiigemfbebcgaaGreatDoorT16
import Derived.Test.YtgiigemfbebcgaaGreatDoorT02
import Derived.Test.YtgiigemfbebcgaaGreatDoorT09
import Derived.Test.YtgiigemfbebcgaaGreatDoorT04
import Derived.Test.YtgiigemfbebcgaaGreatDoorT11
namespace Go.Proofs.YtgiigemfbebcgaaGreatDoor
open _root_.Go.Proofs.Tryz
open Go.RowKit
theorem ymax {w:World} {n:Nat} {o:Oper} {ρ:Operand->Value} (x y:Operand) (ho:o.op=.call { callee:=.builtin .max,args:=#[x,y],argTypes:=#[3,3] }) (hx:ρ x=.int .i64 (n:Int)) (hy:ρ y=.int .i64 0) :
  (execOp ρ o).run prog w=.ok (.value (.int .i64 (n:Int))) w:=by
 have hn:(0:Int)<=(n:Int):=Int.natCast_nonneg _
 have hn2:¬ ((n:Int) < 0):=by omega
 unfold execOp
 simp only [ho,Sem.run_bind]
 go_simp
theorem dec100:∀ k:Fin 100,Lib.decDigits k.1=if k.1 < 10 then [UInt8.ofNat (48+k.1)] else [UInt8.ofNat (48+k.1 / 10),UInt8.ofNat (48+k.1 % 10)]:=by decide +kernel
theorem dec_digits {n:Nat} (h:n < 100):Lib.decDigits n=decT n:=by
 have h1:=dec100 ⟨n,h⟩
 dsimp only at h1
 rw [h1]
 by_cases h2:n < 10
 ·rw [if_pos h2,decT_small h2]
 ·rw [if_neg h2,decT_great h2,decT_small (by omega)]
  rfl
theorem itoa_small (n:Nat) (h:n < 100) (w:World):Calls prog 73 #[.int .i64 (n:Int)] w fun e w'=>e=.returned (strV (decT n))/\w'=w:=by
 have h1:=Tryz.strconv_Itoa_small n h w
 rw [dec_digits h] at h1
 exact h1
theorem dec_len {n:Nat} (h:n < 100):(decT n).length<=2:=by
 by_cases h2:n < 10
 ·rw [decT_small h2];simp
 ·rw [decT_great h2,decT_small (by omega)];simp
set_option maxRecDepth 100000 in
set_option maxHeartbeats 8000000 in
theorem vertext_tiny (na nb nc:Nat) (ha:na < 100) (hb:nb < 100) (hc:nc < 100) (va:Option Addr) (vc:Nat) (w:World) :
  Calls prog 71 #[.agg #[.int .i64 (na:Int),.int .i64 (nb:Int),.int .i64 (nc:Int),.slice va 0 vc]] w fun e w'=>e=.returned (strV (verT ⟨na,nb,nc,[]⟩))/\Mod No w w':=by
 refine calls_hide fun R hR=>?_
 have HDa:=zh (itoa_small na ha)
 have HDb:=zh (itoa_small nb hb)
 have HDc:=zh (itoa_small nc hc)
 have hla:=dec_len ha
 have hlb:=dec_len hb
 have hlc:=dec_len hc
 unfold strV at HDa HDb HDc
 clear ha hb hc
 go_enter func71,ntmps71
 go_upto_region 1 with fail
 obtain ⟨gb,hgb⟩:∃ g,g=w.heap.size:=⟨_,rfl⟩
 rw [<- hgb]
 obtain ⟨w1,hw1⟩:∃ z,z=(World.alloc w (.cells #[.int .i64 (na:Int),.int .i64 (nb:Int),.int .i64 (nc:Int),.slice va 0 vc] 40)).drew:=⟨_,rfl⟩
 have HM1:=zh (show Mod No w w1 by rw [hw1];exact ((Mod.refl No w).alloc _).drew)
 have hga:w1.heap[gb]? = some (.cells #[.int .i64 (na:Int),.int .i64 (nb:Int),.int .i64 (nc:Int),.slice va 0 vc] 40 (0,0)):=by rw [hw1,hgb];exact ((Mod.refl No _).drew).keep (heap_alloc_new w _) (fun f=>f)
 have hS0:w1.cell? ⟨gb,0,none⟩=some (.int .i64 (na:Int))/\w1.cell? ⟨gb,1,none⟩=some (.int .i64 (nb:Int))/\w1.cell? ⟨gb,2,none⟩=some (.int .i64 (nc:Int)):=⟨cell_ofA hga rfl,cell_ofA hga rfl,cell_ofA hga rfl⟩
 have c3:=cell_ofA hga (i:=3) rfl
 have HW1:=zh hw1
 clear hw1 hga hgb
 obtain ⟨S4,hS4⟩:∃ c,c=(decT na)++[46]:=⟨_,rfl⟩
 have hlS4:S4.length=(decT na).length+1:=(congrArg List.length hS4).trans List.length_append
 have HS4:=zh (show (decT na)++[46]=S4/\S4.length<=9223372036854775807 from ⟨hS4.symm,by omega⟩)
 obtain ⟨S9,hS9⟩:∃ c,c=S4++(decT nb):=⟨_,rfl⟩
 have hlS9:S9.length=S4.length+(decT nb).length:=(congrArg List.length hS9).trans List.length_append
 have HS9:=zh (show S4++(decT nb)=S9/\S9.length<=9223372036854775807 from ⟨hS9.symm,by omega⟩)
 obtain ⟨S10,hS10⟩:∃ c,c=S9++[46]:=⟨_,rfl⟩
 have hlS10:S10.length=S9.length+1:=(congrArg List.length hS10).trans List.length_append
 have HS10:=zh (show S9++[46]=S10/\S10.length<=9223372036854775807 from ⟨hS10.symm,by omega⟩)
 obtain ⟨S15,hS15⟩:∃ c,c=S10++(decT nc):=⟨_,rfl⟩
 have hlS15:S15.length=S10.length+(decT nc).length:=(congrArg List.length hS15).trans List.length_append
 have HS15:=zh (show S10++(decT nc)=S15/\S15.length<=9223372036854775807 from ⟨hS15.symm,by omega⟩)
 clear hS4 hlS4 hS9 hlS9 hS10 hlS10 hS15 hlS15
 refine wp_region_T (fun w'=>w'.cell? ⟨gb,0,none⟩=some (.int .i64 (na:Int))/\w'.cell? ⟨gb,1,none⟩=some (.int .i64 (nb:Int))/\w'.cell? ⟨gb,2,none⟩=some (.int .i64 (nc:Int))) 99 (by kernel_rfl) ?_
 rw [<- HW1.out]
 refine yT 0 (some 4) ?_ hS0 ?_ ?_
 rotate_left
 ·(intro w' hSw;obtain ⟨q0,q1,q2⟩:=hSw;go_simp;try with_reducible rfl)
 simp only [Act.put,yB,yC,yD]
 refine yT 1 (some 5) ?_ hS0 ?_ ?_
 rotate_left
 ·(intro w' hSw;obtain ⟨q0,q1,q2⟩:=hSw;go_simp;try with_reducible rfl)
 simp only [Act.put,yB,yC,yD]
 refine yT 2 (some 6) (.int .i64 (na:Int)) hS0 ?_ ?_
 ·(intro w' hSw;apply ymax (.tmp 5) (.const (.int .i64 0)) <;> rfl)
 simp only [Act.put,yB,yC,yD]
 refine yT 5 (some 9) ?_ hS0 ?_ ?_
 rotate_left
 ·(intro w' hSw;obtain ⟨q0,q1,q2⟩:=hSw;go_simp;try with_reducible rfl)
 simp only [Act.put,yB,yC,yD]
 refine yT 6 (some 10) ?_ hS0 ?_ ?_
 rotate_left
 ·(intro w' hSw;obtain ⟨q0,q1,q2⟩:=hSw;go_simp;try with_reducible rfl)
 simp only [Act.put,yB,yC,yD]
 refine yT 7 (some 11) (.int .i64 (nb:Int)) hS0 ?_ ?_
 ·(intro w' hSw;apply ymax (.tmp 10) (.const (.int .i64 0)) <;> rfl)
 simp only [Act.put,yB,yC,yD]
 refine yT 11 (some 15) ?_ hS0 ?_ ?_
 rotate_left
 ·(intro w' hSw;obtain ⟨q0,q1,q2⟩:=hSw;go_simp;try with_reducible rfl)
 simp only [Act.put,yB,yC,yD]
 refine yT 12 (some 16) ?_ hS0 ?_ ?_
 rotate_left
 ·(intro w' hSw;obtain ⟨q0,q1,q2⟩:=hSw;go_simp;try with_reducible rfl)
 simp only [Act.put,yB,yC,yD]
 refine yT 13 (some 17) (.int .i64 (nc:Int)) hS0 ?_ ?_
 ·(intro w' hSw;apply ymax (.tmp 16) (.const (.int .i64 0)) <;> rfl)
 simp only [Act.put,yB,yC,yD]
 refine wpAnyT_one 3 rfl (by kernel_rfl) rfl ?_
 intro K hK
 go_simp
 go_at_call 73
 with_reducible refine (HDa.out _).mono ?_
 rintro e wB ⟨rfl,hB⟩
 rw [hB]
 clear hB wB
 show K _ _
 have hS1:=hS0
 refine hK.out _ _ (fun _=>hS1) ?_
 clear hK K
 refine yT 4 (some 8) (.string ⟨S4.toArray⟩) hS1 ?_ ?_
 ·(intro w' hSw;apply ycat HS4.out (.tmp 7) (.const (.string ⟨#[46]⟩)) <;> rfl)
 simp only [Act.put,yB,yC,yD]
 refine wpAnyT_one 8 rfl (by kernel_rfl) rfl ?_
 intro K hK
 go_simp
 go_at_call 73
 with_reducible refine (HDb.out _).mono ?_
 rintro e wB ⟨rfl,hB⟩
 rw [hB]
 clear hB wB
 show K _ _
 have hS2:=hS1
 refine hK.out _ _ (fun _=>hS2) ?_
 clear hK K
 refine yT 9 (some 13) (.string ⟨S9.toArray⟩) hS2 ?_ ?_
 ·(intro w' hSw;apply ycat HS9.out (.tmp 8) (.tmp 12) <;> rfl)
 simp only [Act.put,yB,yC,yD]
 refine yT 10 (some 14) (.string ⟨S10.toArray⟩) hS2 ?_ ?_
 ·(intro w' hSw;apply ycat HS10.out (.tmp 13) (.const (.string ⟨#[46]⟩)) <;> rfl)
 simp only [Act.put,yB,yC,yD]
 refine wpAnyT_one 14 rfl (by kernel_rfl) rfl ?_
 intro K hK
 go_simp
 go_at_call 73
 with_reducible refine (HDc.out _).mono ?_
 rintro e wB ⟨rfl,hB⟩
 rw [hB]
 clear hB wB
 show K _ _
 have hS3:=hS2
 refine hK.out _ _ (fun _=>hS3) ?_
 clear hK K
 refine yT 15 (some 19) (.string ⟨S15.toArray⟩) hS3 ?_ ?_
 ·(intro w' hSw;apply ycat HS15.out (.tmp 14) (.tmp 18) <;> rfl)
 simp only [Act.put,yB,yC,yD]
 refine yT 16 (some 3) ?_ hS3 ?_ ?_
 rotate_left
 ·(intro w' hSw;obtain ⟨q0,q1,q2⟩:=hSw;go_simp;try with_reducible rfl)
 simp only [Act.put]
 refine wpAnyT_done (by kernel_rfl) ?_ _
 clear hS0 hS1 hS2 hS3
 go_wp2_with fail
 refine fin hR ⟨?_,HM1.out⟩
 show Ending.returned (.string ⟨S15.toArray⟩)=_
 rw [<- HS15.out.1,<- HS10.out.1,<- HS9.out.1,<- HS4.out.1]
 unfold verT strV
 simp
def Gl (w:World):Prop:=∃ m,w.cell? ⟨0,0,none⟩=some (.int .i64 m)
theorem Gl.stay {S:Nat->Prop} {w w':World} (h:Gl w) (hm:Mod S w w') (hs:¬ S 0):Gl w':=by
 obtain ⟨m,hm2⟩:=h
 exact ⟨m,hm.cell hm2 hs⟩
theorem split_any (c:UInt8) (l:List UInt8) (hl:l.length<=1000000) (w:World) (hg:Gl w) :
  Calls prog 79 #[strV l,.string ⟨#[c]⟩] w fun e w'=>∃ v,e=.returned v/\w'.ownsRow w.heap.size 9 1 v (splitC c l).length (strs (splitC c l))/\Mod No w w':=by
 obtain ⟨m,hm⟩:=hg
 have hlen:=splitC_length_le c l
 refine (Tryz.strings_Split ⟨l.toArray⟩ ⟨#[c]⟩ m w (by rw [str_len3];omega) hm (Nat.le_refl _)).mono fun e w' ⟨he,hw⟩=>?_
 have hs:=splitB_strs c l
 have hn:Lib.countB ⟨l.toArray⟩ ⟨#[c]⟩+1=(splitC c l).length:=by
  rw [<- Lib.splitB_all ⟨#[c]⟩ (Nat.le_refl _) 0 _ ⟨l.toArray⟩ rfl,<- List.length_map (f:=Value.string),hs,strs_length]
 rw [hs] at hw
 rw [hn] at he
 refine ⟨_,he,?_,?_⟩
 ·rw [hw]
  have:=own_alloc (w:=w) (e:=9) (xs:=strs (splitC c l)) (by rw [strs_length];unfold maxLen;omega)
  rw [strs_length] at this
  exact this
 ·rw [hw];exact (Mod.refl No w).alloc _
theorem cut_any (c:UInt8) (l:List UInt8) (hl:l.length<=1000000) (w:World) (hg:Gl w) :
  Calls prog 80 #[strV l,.string ⟨#[c]⟩] w fun e w'=>e=.returned (.tuple #[strV (headC c l),strV (tailC c l),.bool (decide (c ∈ l))])/\Mod No w w':=by
 obtain ⟨m,hm⟩:=hg
 refine (Tryz.strings_Cut ⟨l.toArray⟩ ⟨#[c]⟩ m w (by rw [str_len3];omega) hm).mono fun e w' ⟨he,n,hw⟩=>?_
 have h:=cut_C c l
 refine ⟨?_,by rw [hw];exact (Mod.refl No w).drewN n⟩
 rw [he]
 show Ending.returned (.tuple #[.string ⟨(Lib.cut l.toArray.toList [c]).1.toArray⟩,.string ⟨(Lib.cut l.toArray.toList [c]).2.1.toArray⟩,.bool (Lib.cut l.toArray.toList [c]).2.2])=_
 rw [List.toList_toArray,h]
def findI {α:Type} (p:α->Bool) (l:List α):Int:=match l.findIdx? p with
 | some i=>(i:Int)
 | none=>-1
theorem findI_none {α:Type} {p:α->Bool} {l:List α} (h:∀ i (hi:i < l.length),p l[i]=false):findI p l = -1:=by
 unfold findI
 rw [List.findIdx?_eq_none_iff.2 (fun x hx=>by
  obtain ⟨i,hi,rfl⟩:=List.getElem_of_mem hx
  exact h i hi)]
theorem findI_hit {α:Type} {p:α->Bool} {l:List α} {k:Nat} (hk:k < l.length) (h:∀ i (hi:i < l.length),i < k->p l[i]=false) (h2:p l[k]=true):findI p l=(k:Int):=by
 unfold findI
 rw [List.findIdx?_eq_some_iff_getElem.2 ⟨hk,h2,fun j hj=>by rw [h j (by omega) hj];simp⟩]
theorem findI_any {α:Type} (p:α->Bool) (l:List α):decide (0<=findI p l)=l.any p:=by
 by_cases h:l.any p=true
 ·rw [h]
  obtain ⟨x,hx,hp⟩:=List.any_eq_true.1 h
  unfold findI
  cases hf:l.findIdx? p with
  | none=>rw [List.findIdx?_eq_none_iff] at hf;rw [hf x hx] at hp;cases hp
  | some i=>simp
 ·have h2:l.any p=false:=by simpa using h
  rw [h2]
  unfold findI
  rw [List.findIdx?_eq_none_iff.2 (fun x hx=>by
   have:=List.any_eq_false.1 h2 x hx
   simpa using this)]
  rfl
set_option maxRecDepth 100000 in
set_option maxHeartbeats 4000000 in
theorem indexfunc_strs (g:Nat) (lb:Array Value) (eg:∀ args w,(callFunc g args).run prog w=.ok (.enter g args) w) (p:List UInt8->Bool) (xs:List (List UInt8)) (hx:xs.length<=1000000) (v:Value) (w:World) (hv:Sl w No 9 v xs.length (strs xs))
  (hp:∀ i (hi:i < xs.length),∀ W,Mod No w W->Calls prog g (#[strV xs[i]]++lb) W fun e w'=>e=.returned (.bool (p xs[i]))/\Mod No W w') :
  Calls prog 173 #[v,.func (.func g) #[] lb] w fun e w'=>e=.returned (.int .i64 (findI p xs))/\Mod No w w':=by
 refine calls_hide fun R hR=>?_
 obtain ⟨va,vc,rfl⟩:=hv.len
 have HV:=zh hv
 have HP:=zh hp
 clear hv hp
 go_enter func173,ntmps173
 go_wp2_with fail
 go_loopw [8] (fun q wr=>∃ k:Nat,k<=xs.length/\q=.int .i64 k/\Mod No w wr/\∀ i (hi:i < xs.length),i < k->p xs[i]=false) (fun q _=>xs.length - (intOf q).toNat)
 case atStart=>exact ⟨0,by omega,rfl,Mod.refl _ _,fun i _ hi=>absurd hi (by omega)⟩
 case round =>
  obtain ⟨k,hk,rfl,hmod,hno⟩:=hrel
  have HM:=zh hmod
  have HNO:=zh hno
  have hk0:(0:Int)<=(k:Int):=Int.natCast_nonneg _
  clear hmod hno
  by_cases hlt:k < xs.length
  ·have hk1:(k:Int) < (xs.length:Int):=by omega
   obtain ⟨b,o,c,hvs,_⟩:=HV.out.shape (by omega)
   cases hvs
   have hcell:=HM.out.cell (HV.out.cellN (i:=k) (by rw [strs_length];exact hlt)) (fun f=>f)
   rw [show (strs xs)[k]'(by rw [strs_length];exact hlt)=.string ⟨xs[k].toArray⟩ from by simp [strs,strV]] at hcell
   have HC:=zh (HP.out k hlt _ HM.out)
   have HN:=zh (show p xs[k]=false->∀ i (hi:i < xs.length),i < k+1->p xs[i]=false from fun h i hi hik=>by
    rcases Nat.lt_or_ge i k with h3 | h3
    ·exact HNO.out i hi h3
    ·obtain rfl:i=k:=by omega
     exact h)
   have HH:=zh (show p xs[k]=true->findI p xs=(k:Int) from fun h=>findI_hit hlt HNO.out h)
   clear HNO
   go_wp2_with fail
   with_reducible refine HC.out.mono ?_
   rintro e w2 ⟨rfl,hm2⟩
   have HM2:=zh (HM.out.trans hm2)
   clear hm2
   generalize p xs[k]=pk at *
   rcases pk with _ | _
   ·go_wp2_with fail
    exact ⟨⟨k+1,by omega,rfl,HM2.out,HN.out (by trivial)⟩,by show xs.length - ((k:Int)+1).toNat < xs.length - (k:Int).toNat;omega⟩
   ·have hf:=HH.out (by trivial)
    go_wp2_with fail
    refine fin hR ⟨?_,HM2.out⟩
    rw [hf]
    rfl
  ·go_wp2_with fail
   refine fin hR ⟨?_,HM.out⟩
   rw [findI_none (p:=p) (l:=xs) (fun i hi=>HNO.out i hi (by omega))]
   rfl
set_option maxRecDepth 100000 in
theorem containsfunc_strs (g:Nat) (lb:Array Value) (eg:∀ args w,(callFunc g args).run prog w=.ok (.enter g args) w) (p:List UInt8->Bool) (xs:List (List UInt8)) (hx:xs.length<=1000000) (v:Value) (w:World) (hv:Sl w No 9 v xs.length (strs xs))
  (hp:∀ i (hi:i < xs.length),∀ W,Mod No w W->Calls prog g (#[strV xs[i]]++lb) W fun e w'=>e=.returned (.bool (p xs[i]))/\Mod No W w') :
  Calls prog 141 #[v,.func (.func g) #[] lb] w fun e w'=>e=.returned (.bool (xs.any p))/\Mod No w w':=by
 refine calls_hide fun R hR=>?_
 have HC:=zh (indexfunc_strs g lb eg p xs hx v w hv hp)
 obtain ⟨va,vc,rfl⟩:=hv.len
 have HA:=zh (findI_any p xs)
 clear hv hp
 go_enter func141,ntmps141
 go_wp2_with fail
 with_reducible refine HC.out.mono ?_
 rintro e w2 ⟨rfl,hm2⟩
 have HM2:=zh hm2
 clear hm2 HC
 generalize findI p xs=r at *
 go_wp2_with fail
 refine fin hR ⟨bool_ret ?_,HM2.out⟩
 exact HA.out
set_option maxRecDepth 100000 in
set_option maxHeartbeats 4000000 in
theorem indexfunc_nds (g:Nat) (lb:Array Value) (eg:∀ args w,(callFunc g args).run prog w=.ok (.enter g args) w) (p:NdX->Bool) (xs:List NdX) (hx:xs.length<=1000000) (hc:∀ x ∈ xs,(NdX.cells x).length=4) (v:Value) (w:World) (hv:Sl w No 81 v xs.length (xs.flatMap NdX.cells))
  (hp:∀ i (hi:i < xs.length),∀ W,Mod No w W->Calls prog g (#[.agg (NdX.cells xs[i]).toArray]++lb) W fun e w'=>e=.returned (.bool (p xs[i]))/\Mod No W w') :
  Calls prog 151 #[v,.func (.func g) #[] lb] w fun e w'=>e=.returned (.int .i64 (findI p xs))/\Mod No w w':=by
 refine calls_hide fun R hR=>?_
 obtain ⟨va,vc,rfl⟩:=hv.len
 have HV:=zh hv
 have HP:=zh hp
 have HCL:=zh hc
 clear hv hp hc
 go_enter func151,ntmps151
 go_wp2_with fail
 go_loopw [8] (fun q wr=>∃ k:Nat,k<=xs.length/\q=.int .i64 k/\Mod No w wr/\∀ i (hi:i < xs.length),i < k->p xs[i]=false) (fun q _=>xs.length - (intOf q).toNat)
 case atStart=>exact ⟨0,by omega,rfl,Mod.refl _ _,fun i _ hi=>absurd hi (by omega)⟩
 case round =>
  obtain ⟨k,hk,rfl,hmod,hno⟩:=hrel
  have HM:=zh hmod
  have HNO:=zh hno
  have hk0:(0:Int)<=(k:Int):=Int.natCast_nonneg _
  clear hmod hno
  by_cases hlt:k < xs.length
  ·have hk1:(k:Int) < (xs.length:Int):=by omega
   obtain ⟨b,o,c,hvs,_⟩:=HV.out.shape (by omega)
   cases hvs
   have hrg:=HM.out.rangeAt (Sl.atM HCL.out HV.out hlt) (fun f=>f)
   have HRG:=zh hrg
   have HCK:=zh (HCL.out _ (List.getElem_mem hlt))
   have HC:=zh (HP.out k hlt _ HM.out)
   have HN:=zh (show p xs[k]=false->∀ i (hi:i < xs.length),i < k+1->p xs[i]=false from fun h i hi hik=>by
    rcases Nat.lt_or_ge i k with h3 | h3
    ·exact HNO.out i hi h3
    ·obtain rfl:i=k:=by omega
     exact h)
   have HH:=zh (show p xs[k]=true->findI p xs=(k:Int) from fun h=>findI_hit hlt HNO.out h)
   clear HNO hrg
   generalize NdX.cells xs[k]=cs at *
   go_wp2_with (refine wpList_load_mid rfl 81 _ rfl b (o+k*4) rfl cs _ HRG.out (underlying81) rfl (by rw [HCK.out];kernel_rfl) ?_)
   with_reducible refine HC.out.mono ?_
   rintro e w2 ⟨rfl,hm2⟩
   have HM2:=zh (HM.out.trans hm2)
   clear hm2 HC HRG HCK
   generalize p xs[k]=pk at *
   rcases pk with _ | _
   ·go_wp2_with fail
    exact ⟨⟨k+1,by omega,rfl,HM2.out,HN.out (by trivial)⟩,by show xs.length - ((k:Int)+1).toNat < xs.length - (k:Int).toNat;omega⟩
   ·have hf:=HH.out (by trivial)
    go_wp2_with fail
    refine fin hR ⟨?_,HM2.out⟩
    rw [hf]
    rfl
  ·go_wp2_with fail
   refine fin hR ⟨?_,HM.out⟩
   rw [findI_none (p:=p) (l:=xs) (fun i hi=>HNO.out i hi (by omega))]
   rfl
set_option maxRecDepth 100000 in
set_option maxHeartbeats 4000000 in
theorem indexfunc_rws (g:Nat) (lb:Array Value) (eg:∀ args w,(callFunc g args).run prog w=.ok (.enter g args) w) (p:RwX->Bool) (xs:List RwX) (hx:xs.length<=1000000) (hc:∀ x ∈ xs,(RwX.cells x).length=39) (v:Value) (w:World) (hv:Sl w No 46 v xs.length (xs.flatMap RwX.cells))
  (hp:∀ i (hi:i < xs.length),∀ W,Mod No w W->Calls prog g (#[.agg (RwX.cells xs[i]).toArray]++lb) W fun e w'=>e=.returned (.bool (p xs[i]))/\Mod No W w') :
  Calls prog 86 #[v,.func (.func g) #[] lb] w fun e w'=>e=.returned (.int .i64 (findI p xs))/\Mod No w w':=by
 refine calls_hide fun R hR=>?_
 obtain ⟨va,vc,rfl⟩:=hv.len
 have HV:=zh hv
 have HP:=zh hp
 have HCL:=zh hc
 clear hv hp hc
 go_enter func86,ntmps86
 go_wp2_with fail
 go_loopw [8] (fun q wr=>∃ k:Nat,k<=xs.length/\q=.int .i64 k/\Mod No w wr/\∀ i (hi:i < xs.length),i < k->p xs[i]=false) (fun q _=>xs.length - (intOf q).toNat)
 case atStart=>exact ⟨0,by omega,rfl,Mod.refl _ _,fun i _ hi=>absurd hi (by omega)⟩
 case round =>
  obtain ⟨k,hk,rfl,hmod,hno⟩:=hrel
  have HM:=zh hmod
  have HNO:=zh hno
  have hk0:(0:Int)<=(k:Int):=Int.natCast_nonneg _
  clear hmod hno
  by_cases hlt:k < xs.length
  ·have hk1:(k:Int) < (xs.length:Int):=by omega
   obtain ⟨b,o,c,hvs,_⟩:=HV.out.shape (by omega)
   cases hvs
   have hrg:=HM.out.rangeAt (Sl.atM HCL.out HV.out hlt) (fun f=>f)
   have HRG:=zh hrg
   have HCK:=zh (HCL.out _ (List.getElem_mem hlt))
   have HC:=zh (HP.out k hlt _ HM.out)
   have HN:=zh (show p xs[k]=false->∀ i (hi:i < xs.length),i < k+1->p xs[i]=false from fun h i hi hik=>by
    rcases Nat.lt_or_ge i k with h3 | h3
    ·exact HNO.out i hi h3
    ·obtain rfl:i=k:=by omega
     exact h)
   have HH:=zh (show p xs[k]=true->findI p xs=(k:Int) from fun h=>findI_hit hlt HNO.out h)
   clear HNO hrg
   generalize RwX.cells xs[k]=cs at *
   go_wp2_with (refine wpList_load_mid rfl 46 _ rfl b (o+k*39) rfl cs _ HRG.out (underlying46) rfl (by rw [HCK.out];kernel_rfl) ?_)
   with_reducible refine HC.out.mono ?_
   rintro e w2 ⟨rfl,hm2⟩
   have HM2:=zh (HM.out.trans hm2)
   clear hm2 HC HRG HCK
   generalize p xs[k]=pk at *
   rcases pk with _ | _
   ·go_wp2_with fail
    exact ⟨⟨k+1,by omega,rfl,HM2.out,HN.out (by trivial)⟩,by show xs.length - ((k:Int)+1).toNat < xs.length - (k:Int).toNat;omega⟩
   ·have hf:=HH.out (by trivial)
    go_wp2_with fail
    refine fin hR ⟨?_,HM2.out⟩
    rw [hf]
    rfl
  ·go_wp2_with fail
   refine fin hR ⟨?_,HM.out⟩
   rw [findI_none (p:=p) (l:=xs) (fun i hi=>HNO.out i hi (by omega))]
   rfl
theorem bytes_of_toList {G:ByteArray} {l:List UInt8} (h:G.toList=l):G=⟨l.toArray⟩:=by
 rw [<- h,ByteArray.toList_eq]
set_option maxRecDepth 100000 in
theorem hasfn_any (x:NdX) (oa:Option Addr) (om oc:Nat) (hov:x.ov=.slice oa om oc) (name:List UInt8) (nb:Nat) (w:World) (hn:w.heap[nb]? = some (.cells #[strV name] 9 (0,0))) :
  Calls prog 112 #[.agg (NdX.cells x).toArray,.pointer (some ⟨nb,0,none⟩)] w fun e w'=>e=.returned (.bool (decide (x.n.name=name)))/\Mod No w w':=by
 refine calls_hide fun R hR=>?_
 unfold NdX.cells
 rw [hov]
 obtain ⟨⟨nm,⟨an,os⟩,tx⟩,ov⟩:=x
 dsimp only at *
 have h1:=str_list nm
 have h2:=str_list name
 unfold strV at *
 generalize (⟨nm.toArray⟩:ByteArray)=A1 at *
 generalize (⟨name.toArray⟩:ByteArray)=A2 at *
 generalize (⟨tx.toArray⟩:ByteArray)=A3 at *
 have HN:=zh hn
 clear hn
 go_enter func112,ntmps112
 go_upto_region 1 with fail
 obtain ⟨gx,hgx⟩:∃ g,g=w.heap.size:=⟨_,rfl⟩
 rw [<- hgx]
 generalize hw1:World.alloc w _=w1
 have hx1:w1.heap[gx]? = some (.cells #[.string A1,.bool an,.slice oa om oc,.string A3] 81 (0,0)):=by rw [<- hw1,hgx];exact heap_alloc_new w _
 have c0:w1.cell? ⟨nb,0,none⟩=some (.string A2):=cell_ofA (show w1.heap[nb]? = _ by rw [<- hw1];exact heap_alloc_old _ HN.out) rfl
 have c1:w1.cell? ⟨gx,0,none⟩=some (.string A1):=cell_ofA hx1 rfl
 have HM:=zh (show Mod No w w1 by rw [<- hw1];exact (Mod.refl No w).alloc _)
 clear hw1 hgx hx1
 go_wp2_with fail
 refine fin hR ⟨bool_ret ?_,HM.out⟩
 by_cases hh:nm=name
 ·rw [decide_eq_true hh,hh];simp
 ·rw [decide_eq_false hh];simpa using hh
set_option maxRecDepth 100000 in
theorem containsfunc_nds (g:Nat) (lb:Array Value) (eg:∀ args w,(callFunc g args).run prog w=.ok (.enter g args) w) (p:NdX->Bool) (xs:List NdX) (hx:xs.length<=1000000) (v:Value) (w:World) (hv:Sl w No 81 v xs.length (xs.flatMap NdX.cells))
  (hp:∀ i (hi:i < xs.length),∀ W,Mod No w W->Calls prog g (#[.agg (NdX.cells xs[i]).toArray]++lb) W fun e w'=>e=.returned (.bool (p xs[i]))/\Mod No W w') :
  Calls prog 111 #[v,.func (.func g) #[] lb] w fun e w'=>e=.returned (.bool (xs.any p))/\Mod No w w':=by
 refine calls_hide fun R hR=>?_
 have HC:=zh (indexfunc_nds g lb eg p xs hx (fun x _=>NdX.cells_length x) v w hv hp)
 obtain ⟨va,vc,rfl⟩:=hv.len
 have HA:=zh (findI_any p xs)
 clear hv hp
 go_enter func111,ntmps111
 go_wp2_with fail
 with_reducible refine HC.out.mono ?_
 rintro e w2 ⟨rfl,hm2⟩
 have HM2:=zh hm2
 clear hm2 HC
 generalize findI p xs=r at *
 go_wp2_with fail
 refine fin hR ⟨bool_ret ?_,HM2.out⟩
 exact HA.out
set_option maxRecDepth 100000 in
theorem has_any (xs:List NdX) (hx:xs.length<=1000000) (hov:∀ x ∈ xs,∃ oa om oc,x.ov=.slice oa om oc) (name:List UInt8) (v:Value) (w:World) (hv:Sl w No 81 v xs.length (xs.flatMap NdX.cells)) :
  Calls prog 83 #[v,strV name] w fun e w'=>e=.returned (.bool (xs.any fun x=>decide (x.n.name=name)))/\Mod No w w':=by
 refine calls_hide fun R hR=>?_
 have HC:=zh (fun W hvW (hn:W.heap[w.heap.size]? = some (.cells #[strV name] 9 (0,0)))=>containsfunc_nds 112 #[.pointer (some ⟨w.heap.size,0,none⟩)] (fun _ _=>rfl) (fun x=>decide (x.n.name=name)) xs hx v W hvW (fun i hi W' hm=>by
  obtain ⟨oa,om,oc,h⟩:=hov _ (List.getElem_mem hi)
  exact hasfn_any xs[i] oa om oc h name w.heap.size W' (hm.keep hn (fun f=>f))))
 have HV:=zh (Sl.keep (S:=No) hv ((Mod.refl No w).alloc (.cells #[strV name] 9)) (fun _ _ _ f=>f.elim))
 have HN:=zh (heap_alloc_new w (.cells #[strV name] 9))
 obtain ⟨va,vc,rfl⟩:=hv.len
 clear hv hov
 unfold strV at *
 generalize (⟨name.toArray⟩:ByteArray)=A2 at *
 generalize (xs.any fun x=>decide (x.n.name=name))=r at *
 go_enter func83,ntmps83
 go_wp2_with fail
 with_reducible refine (HC.out _ HV.out HN.out).mono ?_
 rintro e w2 ⟨rfl,hm2⟩
 have HM2:=zh (((Mod.refl No w).alloc (.cells #[.string A2] 9)).trans hm2)
 clear hm2 HC HV HN
 go_wp2_with fail
 exact fin hR ⟨rfl,HM2.out⟩
structure RwOk (w:World) (x:RwX):Prop where
 sum:x.r.sum.length=32
 small:Small x.r.v
 pre:Sl w No 9 x.pv x.r.v.pre.length (strs x.r.v.pre)
 nv:∃ a m c,x.nv=.slice a m c
set_option maxRecDepth 100000 in
set_option maxHeartbeats 4000000 in
theorem atfn_any (x:RwX) (name:List UInt8) (v:Ver) (pv:Value) (nb vb:Nat) (w:World) (hx:RwOk w x) (hv:Small v) (hpv:SvX w No pv v.pre.length (strs v.pre))
  (hn:w.heap[nb]? = some (.cells #[strV name] 9 (0,0))) (hvb:w.heap[vb]? = some (.cells #[.int .i64 v.ma,.int .i64 v.mi,.int .i64 v.pa,pv] 40 (0,0))) :
  Calls prog 87 #[.agg (RwX.cells x).toArray,.pointer (some ⟨nb,0,none⟩),.pointer (some ⟨vb,0,none⟩)] w fun e w'=>e=.returned (.bool (decide (x.r.name=name) && decide (verC x.r.v v=0)))/\Mod No w w':=by
 refine calls_hide fun R hR=>?_
 have HCM:=zh (fun (W:World) (h1:Sl W No 9 x.pv x.r.v.pre.length (strs x.r.v.pre)) h2=>vercmp_sv x.r.v v hx.small hv x.pv pv W (.of h1) h2)
 have HC:=zh (show RwX.cells x=strV x.r.name :: (verCs x.r.v x.pv++(bv x.r.sum++[.int .i64 x.r.size,x.nv])) from rfl)
 have HP:=zh hx.pre
 have HV:=zh hpv
 obtain ⟨pa,pc,hp⟩:=hx.pre.len
 obtain ⟨qa,qc,hq⟩:=hpv.len
 have HL:=zh (RwX.cells_length x hx.sum)
 have HN:=zh hn
 have HVB:=zh hvb
 clear hx hpv hn hvb
 have hT1:=str_list x.r.name
 have hT2:=str_list name
 generalize RwX.cells x=cs at *
 generalize verC x.r.v v=vc at *
 obtain ⟨⟨nm,⟨xa,xb,xc,xp⟩,sm,sz,nds⟩,xpv,xnv⟩:=x
 obtain ⟨va,vb',vc',vp⟩:=v
 dsimp only at *
 subst hp
 subst hq
 unfold strV verCs verV at *
 dsimp only at *
 generalize (⟨nm.toArray⟩:ByteArray)=A1 at *
 generalize (⟨name.toArray⟩:ByteArray)=A2 at *
 go_enter func87,ntmps87
 go_upto_region 1 with fail
 obtain ⟨gx,hgx⟩:∃ g,g=w.heap.size:=⟨_,rfl⟩
 rw [<- hgx]
 generalize hw1:World.alloc w _=w1
 have hx1:w1.heap[gx]? = some (.cells cs.toArray 46 (0,0)):=by rw [<- hw1,hgx];exact heap_alloc_new w _
 have hm1:Mod No w w1:=by rw [<- hw1];exact (Mod.refl No w).alloc _
 have n0:=cell_ofA (hm1.keep HN.out (fun f=>f)) (i:=0) rfl
 have v0:=cell_ofA (hm1.keep HVB.out (fun f=>f)) (i:=0) rfl
 have v1:=cell_ofA (hm1.keep HVB.out (fun f=>f)) (i:=1) rfl
 have v2:=cell_ofA (hm1.keep HVB.out (fun f=>f)) (i:=2) rfl
 have v3:=cell_ofA (hm1.keep HVB.out (fun f=>f)) (i:=3) rfl
 have c0:w1.cell? ⟨gx,0,none⟩=some (.string A1):=cell_of hx1 (by rw [HC.out];rfl)
 have c1:w1.cell? ⟨gx,1,none⟩=some (.int .i64 xa):=cell_of hx1 (by rw [HC.out];rfl)
 have c2:w1.cell? ⟨gx,2,none⟩=some (.int .i64 xb):=cell_of hx1 (by rw [HC.out];rfl)
 have c3:w1.cell? ⟨gx,3,none⟩=some (.int .i64 xc):=cell_of hx1 (by rw [HC.out];rfl)
 have c4:w1.cell? ⟨gx,4,none⟩=some (.slice pa xp.length pc):=cell_of hx1 (by rw [HC.out];rfl)
 have HM:=zh hm1
 have HCW:=zh (HCM.out w1 (HP.out.kn hm1) (HV.out.kn hm1))
 clear hw1 hgx hx1 hm1 HCM HC HL
 by_cases hh:nm=name
 ·subst hh
  have he:A1.toList=nm:=hT1
  have h12:A1=A2:=by
   have:A1.toList=A2.toList:=by rw [hT1,hT2]
   rw [bytes_of_toList hT1,bytes_of_toList hT2]
  subst h12
  clear hT1 hT2 he
  go_wp2_with fail
  with_reducible refine HCW.out.mono ?_
  rintro e w2 ⟨rfl,hm2⟩
  have HM2:=zh (HM.out.trans hm2)
  clear hm2 HCW HM
  go_wp2_with fail
  refine fin hR ⟨bool_ret ?_,HM2.out⟩
  by_cases hz:vc=0
  ·subst hz;rfl
  ·rw [decide_eq_false hz];simpa using hz
 ·have he:(A1.toList == A2.toList)=false:=by rw [hT1,hT2];simpa using hh
  have hF:decide (nm=name)=false:=decide_eq_false hh
  rw [hF] at hR
  clear hT1 hT2
  go_wp2_with fail
  exact fin hR ⟨rfl,HM.out⟩
set_option maxRecDepth 100000 in
set_option maxHeartbeats 4000000 in
theorem at_any (xs:List RwX) (hx:xs.length<=1000000) (name:List UInt8) (v:Ver) (pv:Value) (rv:Value) (w:World) (hok:∀ x ∈ xs,RwOk w x) (hv:Small v) (hpv:SvX w No pv v.pre.length (strs v.pre))
  (hrv:Sl w No 46 rv xs.length (xs.flatMap RwX.cells)) :
  Calls prog 50 #[rv,strV name,verV v pv] w fun e w'=>e=.returned (.int .i64 (findI (fun r=>decide (r.name=name) && decide (verC r.v v=0)) (xs.map RwX.r)))/\Mod No w w':=by
 refine calls_hide fun R hR=>?_
 obtain ⟨ra,rc,rfl⟩:=hrv.len
 obtain ⟨qa,qc,rfl⟩:=hpv.len
 have HFM:=zh (show findI (fun r:Rw=>decide (r.name=name) && decide (verC r.v v=0)) (xs.map RwX.r)=findI (fun x:RwX=>decide (x.r.name=name) && decide (verC x.r.v v=0)) xs by
  unfold findI
  rw [List.findIdx?_map]
  rfl)
 have HC:=zh (fun (W:World) (hm:Mod No w W) (nb vb:Nat) (hn:W.heap[nb]? = some (.cells #[strV name] 9 (0,0))) (hvb:W.heap[vb]? = some (.cells #[.int .i64 v.ma,.int .i64 v.mi,.int .i64 v.pa,.slice qa v.pre.length qc] 40 (0,0))) =>
  indexfunc_rws 87 #[.pointer (some ⟨nb,0,none⟩),.pointer (some ⟨vb,0,none⟩)] (fun _ _=>rfl) (fun x=>decide (x.r.name=name) && decide (verC x.r.v v=0)) xs hx (fun x hx=>RwX.cells_length x (hok x hx).sum) (.slice ra xs.length rc) W (hrv.kn hm) (fun i hi W' hm'=>by
   have ho:=hok _ (List.getElem_mem hi)
   exact atfn_any xs[i] name v _ nb vb W' ⟨ho.sum,ho.small,ho.pre.kn (hm.trans hm'),ho.nv⟩ hv (hpv.kn (hm.trans hm')) (hm'.keep hn (fun f=>f)) (hm'.keep hvb (fun f=>f))))
 rw [HFM.out] at hR
 clear hok hpv hrv HFM hv
 generalize findI (fun x:RwX=>decide (x.r.name=name) && decide (verC x.r.v v=0)) xs=r at *
 unfold strV verV at *
 generalize (⟨name.toArray⟩:ByteArray)=A2 at *
 go_enter func50,ntmps50
 go_upto_region 1 with fail
 obtain ⟨gn,hgn⟩:∃ g,g=w.heap.size:=⟨_,rfl⟩
 rw [<- hgn]
 generalize hw1:World.alloc (World.alloc w _) _=w1
 have hn1:w1.heap[gn]? = some (.cells #[.string A2] 9 (0,0)):=by rw [<- hw1,hgn];exact heap_alloc_old _ (heap_alloc_new w _)
 have hv1:w1.heap[gn+1]? = some (.cells #[.int .i64 v.ma,.int .i64 v.mi,.int .i64 v.pa,.slice qa v.pre.length qc] 40 (0,0)):=by rw [<- hw1,hgn];exact heap_at_new _ _ (by simp)
 have hm1:Mod No w w1:=by rw [<- hw1];exact ((Mod.refl No w).alloc _).alloc _
 have HCW:=zh (HC.out w1 hm1 gn (gn+1) hn1 hv1)
 have HM:=zh hm1
 clear hw1 hgn hn1 hv1 hm1 HC
 go_wp2_with fail
 with_reducible refine HCW.out.mono ?_
 rintro e w2 ⟨rfl,hm2⟩
 have HM2:=zh (HM.out.trans hm2)
 clear hm2 HCW
 go_wp2_with fail
 exact fin hR ⟨rfl,HM2.out⟩
set_option maxRecDepth 100000 in
set_option maxHeartbeats 4000000 in
theorem number_any (l:List UInt8) (hl:l.length<=1000000) (w:World):Calls prog 140 #[strV l] w fun e w'=>(∃ n:Int,e=.returned (.tuple #[.int .i64 n,.bool (numB l)])/\(numB l=true->n=(decV l:Int)))/\Mod No w w':=by
 refine calls_hide fun R hR=>?_
 have HZ:=zh (str_len3 l)
 have hT:=str_list l
 have HDG:=zh (digits_any l hl)
 have HPL:=zh (plain_any l hl)
 have HAT:=zh (show digitsB l=true->l.length<=9->∀ W,Calls prog 172 #[strV l] W fun e w'=>e=.returned (.tuple #[.int .i64 (decV l:Int),.nilIface])/\Mod No W w' from fun h h9 W =>
  (Tryz.strconv_Atoi ⟨l.toArray⟩ (decV l) (by rw [HZ.out];omega) (atoi_dig h) W).mono fun e w' ⟨he,t,ht⟩=>⟨he,by
   rw [ht]
   exact ⟨rfl,rfl,rfl,by rw [Lib.bytesWorld_size];omega,fun k hk _=>Lib.bytesWorld_at_old W _ _ k hk⟩⟩)
 unfold strV at *
 generalize (⟨l.toArray⟩:ByteArray)=Z at *
 have hZs:(Z.size:Int)=(l.length:Int):=by rw [HZ.out]
 have HNB:=zh (show numB l=(digitsB l && decide (l.length<=9) && plainB l) from rfl)
 have HDN:=zh (nonempty_of_digits (l:=l))
 go_enter func140,ntmps140
 go_wp2_with fail
 with_reducible refine (HDG.out _).mono ?_
 rintro e w ⟨rfl,rfl⟩
 rcases hd:digitsB l with _ | _
 ·go_wp2_with fail
  have hb:numB l=false:=by rw [HNB.out,hd];rfl
  refine fin hR ⟨⟨0,by rw [hb];rfl,fun h=>by rw [hb] at h;cases h⟩,Mod.refl _ _⟩
 by_cases h9:(9:Int) < (l.length:Int)
 ·go_wp2_with fail
  have hb:numB l=false:=by rw [HNB.out,decide_eq_false (by omega:¬ l.length<=9),Bool.and_false];rfl
  refine fin hR ⟨⟨0,by rw [hb];rfl,fun h=>by rw [hb] at h;cases h⟩,Mod.refl _ _⟩
 go_wp2_with fail
 with_reducible refine (HPL.out (HDN.out hd) _).mono ?_
 rintro e w ⟨rfl,rfl⟩
 rcases hp:plainB l with _ | _
 ·go_wp2_with fail
  have hb:numB l=false:=by rw [HNB.out,hp,Bool.and_false]
  refine fin hR ⟨⟨0,by rw [hb];rfl,fun h=>by rw [hb] at h;cases h⟩,Mod.refl _ _⟩
 ·go_wp2_with fail
  with_reducible refine (HAT.out hd (by omega) _).mono ?_
  rintro e w1 ⟨rfl,hm⟩
  have HM:=zh hm
  clear hm
  go_wp2_with fail
  have hb:numB l=true:=by rw [HNB.out,hd,hp,decide_eq_true (by omega:l.length<=9)];rfl
  refine fin hR ⟨⟨(decV l:Int),by rw [hb];rfl,fun _=>rfl⟩,HM.out⟩
end Go.Proofs.YtgiigemfbebcgaaGreatDoor
