/-
  Layers 0 to 14: helps of the laws of indexes. No statement is proved here; no condition.
-/
import Derived.Test.YticfcmdjplmaeaaGreatDoorX09
import Derived.Test.YticfcmdjplmaeaaGreatDoorX06
import Derived.Test.YticfcmdjplmaeaaGreatDoorX16
import Derived.Test.YticfcmdjplmaeaaGreatDoorX02
import Derived.Test.YticfcmdjplmaeaaGreatDoorX08
import Derived.Test.YticfcmdjplmaeaaGreatDoorX04
set_option maxRecDepth 100000
set_option maxHeartbeats 64000000
namespace Go.Proofs.YticfcmdjplmaeaaGreatDoor
open _root_.Go.Proofs.Tryz
open Go.RowKit Go.Sort
def pinT (p:Pn):List UInt8:=p.name++32 :: (verT p.v++32 :: (hexL p.sum++[10]))
def lockHead:List UInt8:=[108,111,99,107,32,49,10]
end Go.Proofs.YticfcmdjplmaeaaGreatDoor
namespace Go.Proofs.YticfcmdjplmaeaaGreatDoor
open _root_.Go.Proofs.Tryz
open Go.RowKit
theorem ymaxG {w:World} {n:Nat} {o:Oper} {ρ:Operand->Value} (x y:Operand) (ho:o.op=.call { callee:=.builtin .max,args:=#[x,y],argTypes:=#[3,3] }) (hx:ρ x=.int .i64 (n:Int)) (hy:ρ y=.int .i64 0) :
  (execOp ρ o).run prog w=.ok (.value (.int .i64 (n:Int))) w:=by
 have hn:(0:Int)<=(n:Int):=Int.natCast_nonneg _;have hn2:¬ ((n:Int) < 0):=by omega
 unfold execOp;simp only [ho,Sem.run_bind];go_simp
theorem dec_digits_any:∀ (m n:Nat),n < m->Lib.decDigits n=decT n
 | 0,n,h=>by omega
 | m+1,n,h=>by
  by_cases h2:n < 10
  ·rw [Lib.decDigits,dif_pos h2,decT_small h2]
  ·rw [Lib.decDigits,dif_neg h2,decT_great h2,dec_digits_any m (n / 10) (by omega)]
def TabOk (w : World) : Prop := Lib.TabIs prog w "internal/strconv.uint64pow10" .u64 Lib.pow10Tab
theorem TabOk.keep {S:Nat->Prop} {w w':World} (h:TabOk w) (hm:Mod S w w') (hs:¬ S 1):TabOk w':=by
 have hg : prog.globalNamed "internal/strconv.uint64pow10" = some 1 := by kernel_rfl
 unfold TabOk Lib.TabIs World.var? at *;rw [hg,Option.bind_some] at h ⊢;split at h
 ·rename_i cs ty fz hc;rw [hm.keep hc hs];exact h
 ·cases h
theorem itoa_any (n:Nat) (hn:n < 1000000000000000000) (w:World) (ht:TabOk w):Calls prog 92 #[.int .i64 (n:Int)] w fun e w'=>e=.returned (strV (decT n))/\Mod No w w':=by
 have h:=Tryz.strconv_Itoa (n:Int) (by omega) (by omega) w ht;refine h.mono fun e w' ⟨he,k,os,hw⟩=>⟨?_,(Gr.mod ⟨k,os,hw⟩)⟩
 rw [he];have e1:Lib.itoa (n:Int)=decT n:=by
  unfold Lib.itoa;rw [if_neg (by omega),Int.toNat_natCast,dec_digits_any (n+1) n (by omega)]
 rw [e1]
theorem joinC_join (c:UInt8):∀ l:List (List UInt8),joinC c l=Lib.join l [c]
 | []=>rfl
 | [a]=>by simp [joinC,Lib.join]
 | a :: b :: l=>by
  have h:=joinC_join c (b :: l);show a++c :: joinC c (b :: l)=_
  rw [h];simp [Lib.join,List.intercalate]
theorem join_dots (out:List (List UInt8)) (v:Value) (w:World) (hv:SvX w No v out.length (strs out)) (hn:out.length<=1000000) (hg:(joinC 46 out).length<=2000000000000) :
  Calls prog 93 #[v,.string ⟨#[46]⟩] w fun e w'=>e=.returned (strV (joinC 46 out))/\Mod No w w':=by
 rcases Nat.eq_zero_or_pos out.length with h0 | h0
 ·obtain rfl:out=[]:=List.eq_nil_of_length_eq_zero h0;obtain ⟨a,c,rfl⟩:=hv.len;exact (Tryz.strings_Join_none a c ⟨#[46]⟩ w).mono fun e w' ⟨he,hw⟩=>⟨he,by rw [hw];exact Mod.refl _ _⟩
 ·obtain ⟨b,o,c,rfl,hc,-⟩:=hv.shape h0;have hcell:∀ (j:Nat) x,(out.map fun s=>(⟨s.toArray⟩:ByteArray))[j]? = some x->w.cell? ⟨b,o+j,none⟩=some (.string x):=fun j x hj=>by
   rw [List.getElem?_map] at hj;obtain ⟨y,hy,rfl⟩:=Option.map_eq_some_iff.1 hj;obtain ⟨hj2,rfl⟩:=List.getElem?_eq_some_iff.1 hy;rw [hv.cellN (i:=j) (by rw [strs_length];exact hj2)];simp [strs,strV]
  have hb:b < w.heap.size:=by
   have h1:=hv.cellN (i:=0) (by rw [strs_length];exact h0);rcases Nat.lt_or_ge b w.heap.size with h | h
   ·exact h
   ·simp [World.cell?,Array.getElem?_eq_none h] at h1
  have hdl:(out.map fun s=>(⟨s.toArray⟩:ByteArray)).map (·.data.toList)=out:=by rw [List.map_map];exact List.map_id _
  have hlen:(out.map fun s=>(⟨s.toArray⟩:ByteArray)).length=out.length:=List.length_map ..;have h:=Tryz.strings_Join b o c (out.map fun s=>(⟨s.toArray⟩:ByteArray)) ⟨#[46]⟩ w hcell hb (by omega) (by omega) (by rw [hdl];show (Lib.join out [46]).length<=_;rw [<- joinC_join];omega);rw [hdl,hlen] at h;refine h.mono fun e w' ⟨he,hw⟩=>⟨?_,Mod.of_below hw⟩
  rw [he,joinC_join]
theorem vertext_nat (na ni np:Nat) (pr:List (List UInt8)) (pv:Value) (hv:Small ⟨na,ni,np,pr⟩) (hn:na < 1000000000000000000/\ni < 1000000000000000000/\np < 1000000000000000000) (w:World) (hpv:SvX w No pv pr.length (strs pr)) (ht:TabOk w) :
  Calls prog 61 #[verV ⟨na,ni,np,pr⟩ pv] w fun e w'=>e=.returned (strV (verT ⟨na,ni,np,pr⟩))/\Mod No w w':=by
 refine calls_hide fun R hR=>?_
 have HVT:=zh (verT_eq ⟨na,ni,np,pr⟩);have HD0:=zh (itoa_any na hn.1);have HD1:=zh (itoa_any ni hn.2.1);have HD2:=zh (itoa_any np hn.2.2);have HPV:=zh hpv;have HTA:=zh ht;obtain ⟨qa,qc,rfl⟩:=hpv.len;have HLE:=zh (show pr.length<=1000000 from hv.len);dsimp only at *;obtain ⟨n,hnn⟩:∃ n,n=pr.length:=⟨_,rfl⟩
 have HN:=zh hnn;rw [<- hnn] at HPV ⊢;clear hpv hnn ht;unfold verV at *;dsimp only at *;have hl0:=(decT_all na).2.2.2 18 (by omega);have hl1:=(decT_all ni).2.2.2 18 (by omega);have hl2:=(decT_all np).2.2.2 18 (by omega);have HCO:=zh (show coreT ⟨na,ni,np,pr⟩=decT na++46 :: (decT ni++46 :: decT np) from rfl);have HPL:=zh (show (joinC 46 pr).length<=2000000000000 by
  have h1:=joinC_length 46 pr 1000000 hv.each;have h2:=HLE.out;have h3:pr.length*(1000000+1)<=1000000*(1000000+1):=Nat.mul_le_mul_right _ h2;omega)
 unfold strV at HD0 HD1 HD2;generalize decT na=D0 at *;generalize decT ni=D1 at *;generalize decT np=D2 at *;generalize coreT ⟨na,ni,np,pr⟩=CO at *;obtain ⟨S4,hS4⟩:∃ c,c=D0++[46]:=⟨_,rfl⟩
 have hlS4:S4.length=D0.length+1:=(congrArg List.length hS4).trans List.length_append;have HS4:=zh (show D0++[46]=S4/\S4.length<=9223372036854775807 from ⟨hS4.symm,by omega⟩);obtain ⟨S9,hS9⟩:∃ c,c=S4++D1:=⟨_,rfl⟩
 have hlS9:S9.length=S4.length+D1.length:=(congrArg List.length hS9).trans List.length_append;have HS9:=zh (show S4++D1=S9/\S9.length<=9223372036854775807 from ⟨hS9.symm,by omega⟩);obtain ⟨S10,hS10⟩:∃ c,c=S9++[46]:=⟨_,rfl⟩
 have hlS10:S10.length=S9.length+1:=(congrArg List.length hS10).trans List.length_append;have HS10:=zh (show S9++[46]=S10/\S10.length<=9223372036854775807 from ⟨hS10.symm,by omega⟩);obtain ⟨S15,hS15⟩:∃ c,c=S10++D2:=⟨_,rfl⟩
 have hlS15:S15.length=S10.length+D2.length:=(congrArg List.length hS15).trans List.length_append;have HS15:=zh (show S10++D2=S15/\S15.length<=9223372036854775807 from ⟨hS15.symm,by omega⟩);have HS9X:=zh (show S15.length<=1000 by omega);have HCT:=zh (show (.string ⟨S15.toArray⟩:Value)=strV (CO++preT pr 0) by
  rw [HCO.out];unfold preT;rw [<- HS15.out.1,<- HS10.out.1,<- HS9.out.1,<- HS4.out.1];simp)
 clear hS4 hlS4 hS9 hlS9 hS10 hlS10 hS15 hlS15;clear hl0 hl1 hl2 hv hn;go_enter func61,ntmps61
 go_upto_region 1 with fail
 obtain ⟨gb,hgb⟩:∃ g,g=w.heap.size:=⟨_,rfl⟩
 rw [<- hgb];generalize hw0:World.alloc w _=w0;obtain ⟨w1,hw1⟩:∃ y,y=w0.drew:=⟨_,rfl⟩
 have hmw:Mod No w w1:=by rw [hw1,<- hw0];exact ((Mod.refl No w).alloc _).drew
 have HMW:=zh hmw;have HT1:=zh (HTA.out.keep hmw (fun f=>f));have HG1:=zh (show w1.heap[gb]? = some (.cells #[.int .i64 (na:Int),.int .i64 (ni:Int),.int .i64 (np:Int),.slice qa n qc] 40 (0,0)) by rw [hw1,<- hw0,hgb];exact heap_alloc_new w _);have HP1:=zh (HPV.out.kn hmw);have HST:=zh (show ∀ w':World,Mod No w1 w'->w'.cell? ⟨gb,0,none⟩=some (.int .i64 (na:Int))/\w'.cell? ⟨gb,1,none⟩=some (.int .i64 (ni:Int))/\w'.cell? ⟨gb,2,none⟩=some (.int .i64 (np:Int)) from fun w' h =>
  ⟨h.cell (cell_ofA HG1.out (i:=0) rfl) (fun f=>f),h.cell (cell_ofA HG1.out (i:=1) rfl) (fun f=>f),h.cell (cell_ofA HG1.out (i:=2) rfl) (fun f=>f)⟩)
 have hS0:=HST.out w1 (Mod.refl _ _);have HWA:=zh hw1;have HM0:=zh (Mod.refl No w1);clear hw0 hw1 hgb hmw HPV HTA;refine wp_region_T (fun w'=>w'.cell? ⟨gb,0,none⟩=some (.int .i64 (na:Int))/\w'.cell? ⟨gb,1,none⟩=some (.int .i64 (ni:Int))/\w'.cell? ⟨gb,2,none⟩=some (.int .i64 (np:Int))) 99 (by kernel_rfl) ?_;rw [<- HWA.out];clear HWA;refine yS 0 4 hS0 ?_;refine yS 1 5 hS0 ?_;refine yT 2 (some 6) (.int .i64 (na:Int)) hS0 ?_ ?_
 ·(intro w' hSw;apply ymaxG (.tmp 5) (.const (.int .i64 0)) <;> rfl)
 simp only [Act.put,yB,yC,yD];refine yS 5 9 hS0 ?_;refine yS 6 10 hS0 ?_;refine yT 7 (some 11) (.int .i64 (ni:Int)) hS0 ?_ ?_
 ·(intro w' hSw;apply ymaxG (.tmp 10) (.const (.int .i64 0)) <;> rfl)
 simp only [Act.put,yB,yC,yD];refine yS 11 15 hS0 ?_;refine yS 12 16 hS0 ?_;refine yT 13 (some 17) (.int .i64 (np:Int)) hS0 ?_ ?_
 ·(intro w' hSw;apply ymaxG (.tmp 16) (.const (.int .i64 0)) <;> rfl)
 simp only [Act.put,yB,yC,yD];refine wpAnyT_one 3 rfl (by kernel_rfl) rfl ?_;intro K hK;go_simp
 go_at_call 92
 with_reducible refine (HD0.out w1 (HT1.out.keep HM0.out (fun f=>f))).mono ?_
 rintro e wB ⟨rfl,hwB⟩;have HM1:=zh (HM0.out.trans hwB);clear hwB;show K _ _
 have hS1:=(HST.out wB HM1.out)
 refine hK.out _ _ (fun _=>hS1) ?_;clear hK K;refine yT 4 (some 8) (.string ⟨S4.toArray⟩) hS1 ?_ ?_
 ·(intro w' hSw;apply ycat HS4.out (.tmp 7) (.const (.string ⟨#[46]⟩)) <;> rfl)
 simp only [Act.put,yB,yC,yD];refine wpAnyT_one 8 rfl (by kernel_rfl) rfl ?_;intro K hK;go_simp
 go_at_call 92
 with_reducible refine (HD1.out wB (HT1.out.keep HM1.out (fun f=>f))).mono ?_
 rintro e wC ⟨rfl,hwC⟩;have HM2:=zh (HM1.out.trans hwC);clear hwC;show K _ _
 have hS2:=(HST.out wC HM2.out)
 refine hK.out _ _ (fun _=>hS2) ?_;clear hK K;refine yT 9 (some 13) (.string ⟨S9.toArray⟩) hS2 ?_ ?_
 ·(intro w' hSw;apply ycat HS9.out (.tmp 8) (.tmp 12) <;> rfl)
 simp only [Act.put,yB,yC,yD];refine yT 10 (some 14) (.string ⟨S10.toArray⟩) hS2 ?_ ?_
 ·(intro w' hSw;apply ycat HS10.out (.tmp 13) (.const (.string ⟨#[46]⟩)) <;> rfl)
 simp only [Act.put,yB,yC,yD];refine wpAnyT_one 14 rfl (by kernel_rfl) rfl ?_;intro K hK;go_simp
 go_at_call 92
 with_reducible refine (HD2.out wC (HT1.out.keep HM2.out (fun f=>f))).mono ?_
 rintro e wD ⟨rfl,hwD⟩;have HM3:=zh (HM2.out.trans hwD);clear hwD;show K _ _
 have hS3:=(HST.out wD HM3.out)
 refine hK.out _ _ (fun _=>hS3) ?_;clear hK K;refine yT 15 (some 19) (.string ⟨S15.toArray⟩) hS3 ?_ ?_
 ·(intro w' hSw;apply ycat HS15.out (.tmp 14) (.tmp 18) <;> rfl)
 simp only [Act.put,yB,yC,yD];refine yT 16 (some 3) ?_ hS3 ?_ ?_;rotate_left
 ·(intro w' hSw;obtain ⟨q0,q1,q2⟩:=hSw;go_simp;try with_reducible rfl)
 simp only [Act.put];refine wpAnyT_done (by kernel_rfl) ?_ _
 clear hS0 hS1 hS2 hS3;have c3:=HM3.out.cell (cell_ofA HG1.out (i:=3) rfl) (fun f=>f);rcases Nat.eq_zero_or_pos n with h0 | h0
 ·subst h0;go_wp2_with fail
  refine fin hR ⟨?_,HMW.out.trans HM3.out⟩
  rw [HVT.out,show pr=[] from List.eq_nil_of_length_eq_zero HN.out.symm];exact congrArg Ending.returned HCT.out
 ·have hn1:(0:Int) < (n:Int):=by omega
  have HJ:=zh (join_dots pr (.slice qa n qc) wD (by rw [<- HN.out];exact HP1.out.kn HM3.out) HLE.out HPL.out);have HJL:=zh (show preT pr pr.length=45 :: joinC 46 pr by unfold preT;rw [if_neg (by rw [<- HN.out];omega),List.take_length]);obtain ⟨J,hJ⟩:∃ J,J=joinC 46 pr:=⟨_,rfl⟩
  have HJE:=zh hJ;have HJ9:=zh (show J.length<=2000000000000 by rw [hJ];exact HPL.out);rw [<- hJ] at HJ HJL;clear hJ;have HC1:=zh (show [45]++J=45 :: J/\(45 :: J).length<=9223372036854775807 from ⟨rfl,by have:=HJ9.out;rw [List.length_cons];omega⟩);have HC2:=zh (show S15++(45 :: J)=S15++(45 :: J)/\(S15++(45 :: J)).length<=9223372036854775807 from ⟨rfl,by have:=HJ9.out;have:=HS9X.out;rw [List.length_append,List.length_cons];omega⟩);have hb1:¬ (9223372036854775807 < 1+J.length):=by have:=HJ9.out;omega
  have hb2:¬ (9223372036854775807 < S15.length+(J.length+1)):=by have:=HJ9.out;have:=HS9X.out;omega
  unfold strV at HJ;go_wp2_with fail
  with_reducible refine HJ.out.mono ?_
  rintro e wE ⟨rfl,hmE⟩;have HME:=zh ((HMW.out.trans HM3.out).trans hmE);clear hmE HJ;have hz:(⟨J.toArray⟩:ByteArray).size=J.length:=rfl;go_wp2_with fail
  refine fin hR ⟨?_,HME.out⟩
  rw [HVT.out,HJL.out];show Ending.returned _=Ending.returned _
  congr 1
  have hct:=HCT.out;simp only [strV,Value.string.injEq,ByteArray.mk.injEq] at hct ⊢;unfold preT at hct;rw [if_pos rfl,List.append_nil] at hct;rw [hct];first | rfl | simp [str_app]
theorem vertext_sv (v:Ver) (pv:Value) (hv:Small v) (h0:0<=v.ma/\0<=v.mi/\0<=v.pa) (hn:v.ma < 1000000000000000000/\v.mi < 1000000000000000000/\v.pa < 1000000000000000000) (w:World) (hpv:SvX w No pv v.pre.length (strs v.pre)) (ht:TabOk w) :
  Calls prog 61 #[verV v pv] w fun e w'=>e=.returned (strV (verT v))/\Mod No w w':=by
 obtain ⟨a,b,c,pr⟩:=v;obtain ⟨na,rfl⟩:=Int.eq_ofNat_of_zero_le h0.1;obtain ⟨nb,rfl⟩:=Int.eq_ofNat_of_zero_le h0.2.1;obtain ⟨nc,rfl⟩:=Int.eq_ofNat_of_zero_le h0.2.2;exact vertext_nat na nb nc pr pv hv ⟨by have:=hn.1;dsimp only at this;omega,by have:=hn.2.1;dsimp only at this;omega,by have:=hn.2.2;dsimp only at this;omega⟩ w hpv ht
theorem vertext_any (v:Ver) (pv:Value) (hv:Small v) (h0:0<=v.ma/\0<=v.mi/\0<=v.pa) (hn:v.ma < 1000000000000000000/\v.mi < 1000000000000000000/\v.pa < 1000000000000000000) (w:World) (hpv:Sl w No 9 pv v.pre.length (strs v.pre)) (ht:TabOk w) :
  Calls prog 61 #[verV v pv] w fun e w'=>e=.returned (strV (verT v))/\Mod No w w':=vertext_sv v pv hv h0 hn w (.of hpv) ht
end Go.Proofs.YticfcmdjplmaeaaGreatDoor
