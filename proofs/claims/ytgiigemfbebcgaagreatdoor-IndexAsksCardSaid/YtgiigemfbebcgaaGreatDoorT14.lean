/-
  Layers 0 to 14: helps of the laws of indexes. No statement is proved here; no condition.
-/
import Derived.Test.YtgiigemfbebcgaaGreatDoorT07
import Derived.Test.YtgiigemfbebcgaaGreatDoorT13
import Derived.Test.YtgiigemfbebcgaaGreatDoorT02
import Derived.Test.YtgiigemfbebcgaaGreatDoorT06
import Derived.Test.YtgiigemfbebcgaaGreatDoorT01
import Derived.Lib.SlicesCompact
namespace Go.Proofs.YtgiigemfbebcgaaGreatDoor
open _root_.Go.Proofs.Tryz
open Go.RowKit
abbrev Asc (a:List (List UInt8)):Prop:=a.Pairwise (fun x y=>x < y)
theorem asc_unique:∀ (a b:List (List UInt8)),Asc a->Asc b->(∀ y,y ∈ a ↔ y ∈ b)->a=b
 | [],[],_,_,_=>rfl
 | [],y :: b,_,_,h=>absurd ((h y).2 (by simp)) (by simp)
 | x :: a,[],_,_,h=>absurd ((h x).1 (by simp)) (by simp)
 | x :: a,y :: b,ha,hb,h=>by
  obtain ⟨h1,h2⟩:=List.pairwise_cons.1 ha
  obtain ⟨h3,h4⟩:=List.pairwise_cons.1 hb
  have hxy:x=y:=by
   rcases List.mem_cons.1 ((h x).1 (by simp)) with e | e
   ·exact e
   ·rcases List.mem_cons.1 ((h y).2 (by simp)) with e2 | e2
    ·exact e2.symm
    ·exact absurd (h1 y e2) (List.lt_asymm (h3 x e))
  subst hxy
  refine congrArg (x :: ·) (asc_unique a b h2 h4 fun z=>?_)
  constructor
  ·intro hz
   rcases List.mem_cons.1 ((h z).1 (by simp [hz])) with e | e
   ·subst e;exact absurd (h1 z hz) (List.lt_irrefl z)
   ·exact e
  ·intro hz
   rcases List.mem_cons.1 ((h z).2 (by simp [hz])) with e | e
   ·subst e;exact absurd (h3 z hz) (List.lt_irrefl z)
   ·exact e
theorem asc_ins {a:List (List UInt8)} {n:List UInt8} (h:Asc a) {j:Nat} (hj:j<=a.length) (h1:∀ i (hi:i < a.length),i < j->a[i] < n) (h2:∀ (hj:j < a.length),n < a[j]):Asc (a.take j++n :: a.drop j):=by
 refine List.pairwise_append.2 ⟨h.sublist (List.take_sublist _ _),List.pairwise_cons.2 ⟨fun y hy=>?_,h.sublist (List.drop_sublist _ _)⟩,fun x hx y hy=>?_⟩
 ·obtain ⟨i,hi,rfl⟩:=List.getElem_of_mem hy
  rw [List.length_drop] at hi
  rw [List.getElem_drop]
  have h3:=h2 (by omega)
  rcases Nat.eq_zero_or_pos i with h0 | h0
  ·subst h0;exact h3
  ·exact List.lt_trans h3 (List.pairwise_iff_getElem.1 h j (j+i) (by omega) (by omega) (by omega))
 ·obtain ⟨i,hi,rfl⟩:=List.getElem_of_mem hx
  rw [List.length_take] at hi
  rw [List.getElem_take]
  have h3:=h1 i (by omega) (by omega)
  rcases List.mem_cons.1 hy with rfl | hy
  ·exact h3
  ·obtain ⟨k,hk,rfl⟩:=List.getElem_of_mem hy
   rw [List.length_drop] at hk
   rw [List.getElem_drop]
   exact List.pairwise_iff_getElem.1 h i (j+k) (by omega) (by omega) (by omega)
theorem ins_mem {a:List (List UInt8)} {n:List UInt8} (j:Nat) (y:List UInt8):y ∈ a.take j++n :: a.drop j ↔ y=n\/y ∈ a:=by
 have h:y ∈ a ↔ y ∈ a.take j\/y ∈ a.drop j:=by
  rw [<- List.mem_append,List.take_append_drop]
 rw [h,List.mem_append,List.mem_cons]
 constructor
 ·rintro (h | h | h)
  ·exact .inr (.inl h)
  ·exact .inl h
  ·exact .inr (.inr h)
 ·rintro (h | h | h)
  ·exact .inr (.inl h)
  ·exact .inl h
  ·exact .inr (.inr h)
end Go.Proofs.YtgiigemfbebcgaaGreatDoor
namespace Go.Proofs.YtgiigemfbebcgaaGreatDoor
open _root_.Go.Proofs.Tryz
open Go.RowKit Go.Lib Go.Sort
theorem text_le {a b:List UInt8}:a<=b ↔ a < b\/a=b:=by
 constructor
 ·intro h
  rcases Std.lt_trichotomy a b with h3 | h3 | h3
  ·exact .inl h3
  ·exact .inr h3
  ·exact absurd h3 h
 ·rintro (h | h)
  ·exact List.lt_asymm h
  ·rw [h];exact List.lt_irrefl _
theorem text_le_trans {a b c:List UInt8} (h:a<=b) (h2:b<=c):a<=c:=by
 rw [text_le] at h h2 ⊢
 rcases h with h | rfl
 ·rcases h2 with h2 | rfl
  ·exact .inl (List.lt_trans h h2)
  ·exact .inl h
 ·exact h2
theorem compact_asc (d:Array (List UInt8)) (hs:∀ i j,i < j->j < d.size->d[i]!<=d[j]!):∀ m,m<=d.size->Asc (compactUpTo d m)/\∀ y,y ∈ compactUpTo d m ↔ ∃ i,i < m/\d[i]! = y
 | 0,_=>⟨by simp [compactUpTo],by simp [compactUpTo]⟩
 | m+1,hm=>by
  obtain ⟨h1,h2⟩:=compact_asc d hs m (by omega)
  rw [compactUpTo_succ]
  by_cases hk:keeps d m=true
  ·rw [if_pos hk]
   refine ⟨List.pairwise_append.2 ⟨h1,by simp,fun x hx y hy=>?_⟩,fun y=>?_⟩
   ·obtain rfl:=List.mem_singleton.1 hy
    obtain ⟨i,hi,rfl⟩:=(h2 x).1 hx
    unfold keeps at hk
    have hk2:=of_decide_eq_true hk
    have hm0:m ≠ 0:=by omega
    have hne:d[m]! ≠ d[m - 1]!:=by
     rcases hk2 with h | h
     ·exact absurd h hm0
     ·exact h
    have h3:d[m - 1]! < d[m]!:=by
     rcases text_le.1 (hs (m - 1) m (by omega) (by omega)) with h | h
     ·exact h
     ·exact absurd h.symm hne
    rcases Nat.lt_or_ge i (m - 1) with h4 | h4
    ·rcases text_le.1 (hs i (m - 1) h4 (by omega)) with h5 | h5
     ·exact List.lt_trans h5 h3
     ·rw [h5];exact h3
    ·obtain rfl:i=m - 1:=by omega
     exact h3
   ·rw [List.mem_append,h2,List.mem_singleton]
    constructor
    ·rintro (⟨i,hi,rfl⟩ | rfl)
     ·exact ⟨i,by omega,rfl⟩
     ·exact ⟨m,by omega,rfl⟩
    ·rintro ⟨i,hi,rfl⟩
     by_cases e:i=m
     ·subst e;exact .inr rfl
     ·exact .inl ⟨i,by omega,rfl⟩
  ·rw [if_neg hk,List.append_nil]
   refine ⟨h1,fun y=>?_⟩
   rw [h2]
   have hk2:¬ (m=0\/d[m]! ≠ d[m - 1]!):=fun h=>hk (decide_eq_true h)
   have hm0:m ≠ 0:=fun h=>hk2 (.inl h)
   have he:d[m]! = d[m - 1]!:=Classical.byContradiction fun h=>hk2 (.inr h)
   constructor
   ·rintro ⟨i,hi,rfl⟩;exact ⟨i,by omega,rfl⟩
   ·rintro ⟨i,hi,rfl⟩
    by_cases e:i=m
    ·subst e;exact ⟨i - 1,by omega,he.symm⟩
    ·exact ⟨i,by omega,rfl⟩
theorem names_sorted (ss:List (List UInt8)):Asc (Lib.compact (ss.mergeSort fun x y=>decide (x<=y)))/\∀ y,y ∈ Lib.compact (ss.mergeSort fun x y=>decide (x<=y)) ↔ y ∈ ss:=by
 have hp:(ss.mergeSort fun x y=>decide (x<=y)).Pairwise (fun x y=>decide (x<=y)=true):=List.pairwise_mergeSort (le:=fun (x y:List UInt8)=>decide (x<=y)) (fun a b c h1 h2=>decide_eq_true (text_le_trans (of_decide_eq_true h1) (of_decide_eq_true h2))) (fun a b=>by
  rw [Bool.or_eq_true,decide_eq_true_iff,decide_eq_true_iff]
  rcases Std.lt_trichotomy a b with h | h | h
  ·exact .inl (text_le.2 (.inl h))
  ·exact .inl (text_le.2 (.inr h))
  ·exact .inr (text_le.2 (.inl h))) ss
 obtain ⟨zs,hz⟩:∃ zs,zs=ss.mergeSort fun x y=>decide (x<=y):=⟨_,rfl⟩
 have hmem:∀ y,y ∈ zs ↔ y ∈ ss:=fun y=>by rw [hz];exact List.mem_mergeSort
 rw [<- hz] at hp ⊢
 have hg:∀ i,i < zs.length->zs.toArray[i]! = zs[i]!:=fun i hi=>by simp
 obtain ⟨h1,h2⟩:=compact_asc zs.toArray (fun i j hij hj=>by
  have hj':j < zs.length:=by simpa using hj
  rw [hg i (by omega),hg j hj',getElem!_pos zs i (by omega),getElem!_pos zs j hj']
  exact of_decide_eq_true (List.pairwise_iff_getElem.1 hp i j (by omega) hj' hij)) zs.length (by simp)
 refine ⟨h1,fun y=>?_⟩
 show y ∈ compactUpTo zs.toArray zs.length ↔ _
 rw [h2,<- hmem]
 constructor
 ·rintro ⟨i,hi,rfl⟩
  rw [hg i hi,getElem!_pos zs i hi]
  exact List.getElem_mem hi
 ·intro h
  obtain ⟨i,hi,rfl⟩:=List.getElem_of_mem h
  exact ⟨i,hi,by rw [hg i hi,getElem!_pos zs i hi]⟩
end Go.Proofs.YtgiigemfbebcgaaGreatDoor
namespace Go.Proofs.YtgiigemfbebcgaaGreatDoor
open _root_.Go.Proofs.Tryz
open Go.RowKit
def coreT (v:Ver):List UInt8:=decT v.ma.toNat++46 :: (decT v.mi.toNat++46 :: decT v.pa.toNat)
def preT (pr:List (List UInt8)) (k:Nat):List UInt8:=if k=0 then [] else 45 :: joinC 46 (pr.take k)
theorem joinC_snoc (c:UInt8):∀ (l:List (List UInt8)) (x:List UInt8),l ≠ []->joinC c (l++[x])=joinC c l++c :: x
 | [],_,h=>absurd rfl h
 | [a],x,_=>rfl
 | a :: b :: l,x,_=>by
  have:=joinC_snoc c (b :: l) x (by simp)
  show a++c :: joinC c (b :: (l++[x]))=_
  rw [show b :: (l++[x])=(b :: l)++[x] from rfl,this]
  show _=(a++c :: joinC c (b :: l))++c :: x
  simp
theorem preT_succ {pr:List (List UInt8)} {k:Nat} (h:k < pr.length):preT pr (k+1)=preT pr k++(if k=0 then 45 else 46) :: pr[k]:=by
 unfold preT
 rw [if_neg (by omega),List.take_succ_eq_append_getElem h]
 by_cases hk:k=0
 ·subst hk
  simp [joinC]
 ·rw [if_neg hk,if_neg hk,joinC_snoc 46 _ _ (by
   intro e
   have:=congrArg List.length e
   rw [List.length_take,List.length_nil] at this
   omega)]
  simp
theorem verT_eq (v:Ver):verT v=coreT v++preT v.pre v.pre.length:=by
 unfold verT coreT preT
 by_cases h:v.pre=[]
 ·rw [if_pos h,h];simp
 ·rw [if_neg h,if_neg (by intro e;exact h (List.eq_nil_of_length_eq_zero e)),List.take_length]
  simp
theorem joinC_length (c:UInt8):∀ (l:List (List UInt8)) (m:Nat),(∀ x ∈ l,x.length<=m)->(joinC c l).length<=l.length*(m+1)
 | [],_,_=>by simp [joinC]
 | [a],m,h=>by
  have:=h a (by simp)
  simp [joinC];omega
 | a :: b :: l,m,h=>by
  have h1:=joinC_length c (b :: l) m (fun x hx=>h x (by simp [hx]))
  have h2:=h a (by simp)
  have e:joinC c (a :: b :: l)=a++c :: joinC c (b :: l):=rfl
  rw [e,List.length_append,List.length_cons,List.length_cons (a:=a),Nat.succ_mul]
  omega
theorem preT_length {v:Ver} (hv:Small v) {k:Nat} (hk:k<=v.pre.length):(preT v.pre k).length<=2000000000000:=by
 unfold preT
 split
 ·simp
 ·have:=joinC_length 46 (v.pre.take k) 1000000 (fun x hx=>hv.each x (List.mem_of_mem_take hx))
  have h2:=hv.len
  have h3:(v.pre.take k).length*(1000000+1)<=1000000*(1000000+1):=Nat.mul_le_mul_right _ (by rw [List.length_take];omega)
  rw [List.length_cons]
  omega
set_option maxRecDepth 100000 in
set_option maxHeartbeats 8000000 in
theorem vtext_any (v:Ver) (pv:Value) (hv:Small v) (hn:v.ma < 1000000000000000000/\v.mi < 1000000000000000000/\v.pa < 1000000000000000000) (w:World) (hpv:Sl w No 9 pv v.pre.length (strs v.pre)) :
  Calls prog 63 #[verV v pv] w fun e w'=>e=.returned (strV (verT v))/\Mod No w w':=by
 refine calls_hide fun R hR=>?_
 have HVT:=zh (verT_eq v)
 have HD0:=zh (dec_any v.ma hn.1)
 have HD1:=zh (dec_any v.mi hn.2.1)
 have HD2:=zh (dec_any v.pa hn.2.2)
 obtain ⟨va,vi,vp,pr⟩:=v
 have HPV:=zh hpv
 obtain ⟨qa,qc,rfl⟩:=hpv.len
 have hle:=hv.len
 dsimp only at *
 obtain ⟨n,hnn⟩:∃ n,n=pr.length:=⟨_,rfl⟩
 have HN:=zh hnn
 rw [<- hnn] at HPV hle ⊢
 clear hpv hnn
 unfold verV at *
 dsimp only at *
 have hl0:=(decT_all va.toNat).2.2.2 18 (by omega)
 have hl1:=(decT_all vi.toNat).2.2.2 18 (by omega)
 have hl2:=(decT_all vp.toNat).2.2.2 18 (by omega)
 have HCO:=zh (show coreT ⟨va,vi,vp,pr⟩=decT va.toNat++46 :: (decT vi.toNat++46 :: decT vp.toNat) from rfl)
 have HPL:=zh (fun k (h:k<=pr.length)=>preT_length hv h)
 unfold strV at HD0 HD1 HD2
 generalize decT va.toNat=D0 at *
 generalize decT vi.toNat=D1 at *
 generalize decT vp.toNat=D2 at *
 generalize coreT ⟨va,vi,vp,pr⟩=CO at *
 obtain ⟨S3,hS3⟩:∃ c,c=D0++[46]:=⟨_,rfl⟩
 have hlS3:S3.length=D0.length+1:=(congrArg List.length hS3).trans List.length_append
 have HS3:=zh (show D0++[46]=S3/\S3.length<=9223372036854775807 from ⟨hS3.symm,by omega⟩)
 obtain ⟨S7,hS7⟩:∃ c,c=S3++D1:=⟨_,rfl⟩
 have hlS7:S7.length=S3.length+D1.length:=(congrArg List.length hS7).trans List.length_append
 have HS7:=zh (show S3++D1=S7/\S7.length<=9223372036854775807 from ⟨hS7.symm,by omega⟩)
 obtain ⟨S8,hS8⟩:∃ c,c=S7++[46]:=⟨_,rfl⟩
 have hlS8:S8.length=S7.length+1:=(congrArg List.length hS8).trans List.length_append
 have HS8:=zh (show S7++[46]=S8/\S8.length<=9223372036854775807 from ⟨hS8.symm,by omega⟩)
 obtain ⟨S12,hS12⟩:∃ c,c=S8++D2:=⟨_,rfl⟩
 have hlS12:S12.length=S8.length+D2.length:=(congrArg List.length hS12).trans List.length_append
 have HS12:=zh (show S8++D2=S12/\S12.length<=9223372036854775807 from ⟨hS12.symm,by omega⟩)
 have HCL:=zh (show CO.length<=1000 by rw [HCO.out];simp only [List.length_append,List.length_cons];omega)
 have HCT:=zh (show (.string ⟨S12.toArray⟩:Value)=strV (CO++preT pr 0) by
  rw [HCO.out];unfold preT;rw [<- HS12.out.1,<- HS8.out.1,<- HS7.out.1,<- HS3.out.1];simp)
 clear hS3 hlS3 hS7 hlS7 hS8 hlS8 hS12 hlS12
 clear hl0 hl1 hl2 hv hn
 go_enter func63,ntmps63
 go_upto_region 1 with fail
 obtain ⟨gb,hgb⟩:∃ g,g=w.heap.size:=⟨_,rfl⟩
 rw [<- hgb]
 generalize hw0:World.alloc w _=w0
 obtain ⟨w1,hw1⟩:∃ y,y=w0.drew:=⟨_,rfl⟩
 have hmw:Mod No w w1:=by rw [hw1,<- hw0];exact ((Mod.refl No w).alloc _).drew
 have HMW:=zh hmw
 have HG1:=zh (show w1.heap[gb]? = some (.cells #[.int .i64 va,.int .i64 vi,.int .i64 vp,.slice qa n qc] 40 (0,0)) by rw [hw1,<- hw0,hgb];exact heap_alloc_new w _)
 have HP1:=zh (HPV.out.kn hmw)
 have HST:=zh (show ∀ w':World,Mod No w1 w'->w'.cell? ⟨gb,0,none⟩=some (.int .i64 va)/\w'.cell? ⟨gb,1,none⟩=some (.int .i64 vi)/\w'.cell? ⟨gb,2,none⟩=some (.int .i64 vp) from fun w' h =>
  ⟨h.cell (cell_ofA HG1.out (i:=0) rfl) (fun f=>f),h.cell (cell_ofA HG1.out (i:=1) rfl) (fun f=>f),h.cell (cell_ofA HG1.out (i:=2) rfl) (fun f=>f)⟩)
 have hS0:=HST.out w1 (Mod.refl _ _)
 have HWA:=zh hw1
 have HM0:=zh (Mod.refl No w1)
 clear hw0 hw1 hgb hmw HPV
 refine wp_region_T (fun w'=>w'.cell? ⟨gb,0,none⟩=some (.int .i64 va)/\w'.cell? ⟨gb,1,none⟩=some (.int .i64 vi)/\w'.cell? ⟨gb,2,none⟩=some (.int .i64 vp)) 99 (by kernel_rfl) ?_
 rw [<- HWA.out]
 clear HWA
 refine yT 0 (some 5) ?_ hS0 ?_ ?_
 rotate_left
 ·(intro w' hSw;obtain ⟨q0,q1,q2⟩:=hSw;go_simp;try with_reducible rfl)
 simp only [Act.put,yB,yC,yD]
 refine yT 1 (some 6) ?_ hS0 ?_ ?_
 rotate_left
 ·(intro w' hSw;obtain ⟨q0,q1,q2⟩:=hSw;go_simp;try with_reducible rfl)
 simp only [Act.put,yB,yC,yD]
 refine yT 4 (some 9) ?_ hS0 ?_ ?_
 rotate_left
 ·(intro w' hSw;obtain ⟨q0,q1,q2⟩:=hSw;go_simp;try with_reducible rfl)
 simp only [Act.put,yB,yC,yD]
 refine yT 5 (some 10) ?_ hS0 ?_ ?_
 rotate_left
 ·(intro w' hSw;obtain ⟨q0,q1,q2⟩:=hSw;go_simp;try with_reducible rfl)
 simp only [Act.put,yB,yC,yD]
 refine yT 9 (some 14) ?_ hS0 ?_ ?_
 rotate_left
 ·(intro w' hSw;obtain ⟨q0,q1,q2⟩:=hSw;go_simp;try with_reducible rfl)
 simp only [Act.put,yB,yC,yD]
 refine yT 10 (some 15) ?_ hS0 ?_ ?_
 rotate_left
 ·(intro w' hSw;obtain ⟨q0,q1,q2⟩:=hSw;go_simp;try with_reducible rfl)
 simp only [Act.put,yB,yC,yD]
 refine wpAnyT_one 2 rfl (by kernel_rfl) rfl ?_
 intro K hK
 go_simp
 go_at_call 27
 with_reducible refine (HD0.out w1).mono ?_
 rintro e wB ⟨rfl,hwB⟩
 have HM1:=zh (HM0.out.trans hwB)
 clear hwB
 show K _ _
 have hS1:=(HST.out wB HM1.out)
 refine hK.out _ _ (fun _=>hS1) ?_
 clear hK K
 refine yT 3 (some 8) (.string ⟨S3.toArray⟩) hS1 ?_ ?_
 ·(intro w' hSw;apply ycat HS3.out (.tmp 7) (.const (.string ⟨#[46]⟩)) <;> rfl)
 simp only [Act.put,yB,yC,yD]
 refine wpAnyT_one 6 rfl (by kernel_rfl) rfl ?_
 intro K hK
 go_simp
 go_at_call 27
 with_reducible refine (HD1.out wB).mono ?_
 rintro e wC ⟨rfl,hwC⟩
 have HM2:=zh (HM1.out.trans hwC)
 clear hwC
 show K _ _
 have hS2:=(HST.out wC HM2.out)
 refine hK.out _ _ (fun _=>hS2) ?_
 clear hK K
 refine yT 7 (some 12) (.string ⟨S7.toArray⟩) hS2 ?_ ?_
 ·(intro w' hSw;apply ycat HS7.out (.tmp 8) (.tmp 11) <;> rfl)
 simp only [Act.put,yB,yC,yD]
 refine yT 8 (some 13) (.string ⟨S8.toArray⟩) hS2 ?_ ?_
 ·(intro w' hSw;apply ycat HS8.out (.tmp 12) (.const (.string ⟨#[46]⟩)) <;> rfl)
 simp only [Act.put,yB,yC,yD]
 refine wpAnyT_one 11 rfl (by kernel_rfl) rfl ?_
 intro K hK
 go_simp
 go_at_call 27
 with_reducible refine (HD2.out wC).mono ?_
 rintro e wD ⟨rfl,hwD⟩
 have HM3:=zh (HM2.out.trans hwD)
 clear hwD
 show K _ _
 have hS3:=(HST.out wD HM3.out)
 refine hK.out _ _ (fun _=>hS3) ?_
 clear hK K
 refine yT 12 (some 17) (.string ⟨S12.toArray⟩) hS3 ?_ ?_
 ·(intro w' hSw;apply ycat HS12.out (.tmp 13) (.tmp 16) <;> rfl)
 simp only [Act.put,yB,yC,yD]
 refine yT 13 (some 3) ?_ hS3 ?_ ?_
 rotate_left
 ·(intro w' hSw;obtain ⟨q0,q1,q2⟩:=hSw;go_simp;try with_reducible rfl)
 simp only [Act.put]
 refine wpAnyT_done (by kernel_rfl) ?_ _
 clear hS0 hS1 hS2 hS3
 go_wp2_with fail
 go_loopw [3,4] (fun q3 q4 wr=>∃ k:Nat,k<=n/\q4=.int .i64 (k:Int)/\q3=strV (CO++preT pr k)/\Mod No w1 wr) (fun _ q _=>n - (intOf q).toNat)
 case atStart=>exact ⟨0,by omega,rfl,HCT.out,HM3.out⟩
 case round =>
  obtain ⟨k,hk,rfl,rfl,hm⟩:=hrel
  have HM:=zh hm
  have hk0:(0:Int)<=(k:Int):=Int.natCast_nonneg _
  have c3:=hm.cell (cell_ofA HG1.out (i:=3) rfl) (fun f=>f)
  clear hm
  by_cases hlt:k < n
  ·have hk1:(k:Int) < (n:Int):=by omega
   have hlt2:k < pr.length:=by rw [<- HN.out];exact hlt
   obtain ⟨p,o,c,hvs,_⟩:=HP1.out.shape (by omega)
   cases hvs
   have h1:=HM.out.cell (HP1.out.cellN (i:=k) (by rw [strs_length];exact hlt2)) (fun f=>f)
   rw [show (strs pr)[k]'(by rw [strs_length];exact hlt2)=.string ⟨pr[k].toArray⟩ from by simp [strs,strV]] at h1
   have HS:=zh (preT_succ hlt2)
   have hpl:=HPL.out (k+1) hlt2
   rw [HS.out,List.length_append,List.length_cons] at hpl
   have hcl:=HCL.out
   generalize hT:CO++preT pr k=TX at *
   have hTX:TX.length<=1000+(preT pr k).length:=by rw [<- hT,List.length_append];omega
   have hz1:¬ (9223372036854775807 < TX.length+1):=by omega
   have hz2:¬ (9223372036854775807 < TX.length+1+pr[k].length):=by omega
   rcases Nat.eq_zero_or_pos k with h0 | h0
   ·subst h0
    rw [Nat.add_zero] at h1
    go_wp2_with fail
    refine ⟨⟨0+1,by omega,rfl,?_,HM.out⟩,by show n - ((0:Int)+1).toNat < n - (0:Int).toNat;omega⟩
    rw [HS.out,if_pos rfl]
    rw [<- List.append_assoc,hT]
    first | rfl | simp [strV,str_app]
   ·have hk2:¬ ((k:Int)=0):=by omega
    have hk3:((k:Int) == 0)=false:=by simpa using hk2
    go_wp2_with fail
    refine ⟨⟨k+1,by omega,rfl,?_,HM.out⟩,by show n - ((k:Int)+1).toNat < n - (k:Int).toNat;omega⟩
    rw [HS.out,if_neg (by omega)]
    rw [<- List.append_assoc,hT]
    first | rfl | simp [strV,str_app]
  ·obtain rfl:k=n:=by omega
   go_wp2_with fail
   refine fin hR ⟨?_,HMW.out.trans HM.out⟩
   show Ending.returned (strV (CO++preT pr k))=_
   rw [HVT.out,HN.out]
theorem own_base {w:World} {base:Nat} {e:TypeId} {size:Nat} {v:Value} {n:Nat} {xs:List Value} (h:w.ownsRow base e size v n xs) {k:Nat} (hk:v.ownBlock=some k):base<=k:=by
 obtain ⟨_,⟨hv,_⟩ | ⟨g,cap,cur,hv,hg,r⟩⟩:=h
 ·rw [hv] at hk;cases hk
 ·rw [hv] at hk;cases hk;exact hg
theorem ydig {w:World} {n:Nat} {d:UInt8} {o:Oper} {ρ:Operand->Value} (hn:n < 16) (hd:digit n=d) (x:Operand) (ho:o.op=.index 9 (.const (.string ⟨#[48,49,50,51,52,53,54,55,56,57,97,98,99,100,101,102]⟩)) x) (hx:ρ x=.int .u8 (n:Int))
  (hk:ρ (.const (.string ⟨#[48,49,50,51,52,53,54,55,56,57,97,98,99,100,101,102]⟩))=.string ⟨#[48,49,50,51,52,53,54,55,56,57,97,98,99,100,101,102]⟩):(execOp ρ o).run prog w=.ok (.value (.int .u8 (d.toNat:Int))) w:=by
 unfold execOp
 subst hd
 simp only [ho,hx,hk,Sem.run_bind,run_dig n hn w,Result.andThen_ok,Sem.run_pure]
set_option maxRecDepth 100000 in
set_option maxHeartbeats 8000000 in
theorem refhex_any (S:List UInt8) (hS:S.length=32) (w:World):Calls prog 64 #[keyV S] w fun e w'=>e=.returned (strV (hexL S))/\Mod No w w':=by
 refine calls_hide fun R hR=>?_
 obtain ⟨i0,hi0,hz0,hz1,hz2⟩:=info_parts info_byte
 have HI:=zh (And.intro hi0 (And.intro hz0 (And.intro hz1 hz2)))
 clear hi0 hz0 hz1 hz2
 go_enter func64,ntmps64
 go_upto_region 1 with fail
 obtain ⟨gb,hgb⟩:∃ g,g=w.heap.size:=⟨_,rfl⟩
 rw [<- hgb]
 generalize hw1:World.alloc w _=w1
 have HG1:=zh (show w1.heap[gb]? = some (.cells (bv S).toArray 43 (0,0)) by rw [<- hw1,hgb];exact heap_alloc_new w _)
 have HM1:=zh (show Mod No w w1 by rw [<- hw1];exact (Mod.refl No w).alloc _)
 have HLT:=zh (lt_of_heap HG1.out)
 have HBB:=zh (show w.heap.size<=w1.heap.size from HM1.out.size)
 clear hw1 hgb
 unfold keyV
 go_wp2_with fail
 go_loopw [3,4] (fun q3 q4 wr=>∃ (k:Nat) (v:Value),k<=32/\q4=.int .i64 (k:Int)/\q3=v/\wr.ownsRow w1.heap.size 5 1 v (2*k) (bv (hexL (S.take k)))/\Mod (fun q=>w1.heap.size<=q) w1 wr) (fun _ q _=>32 - (intOf q).toNat)
 case atStart=>exact ⟨0,.slice none 0 0,by omega,rfl,rfl,⟨by simp [hexL],.inl ⟨rfl,rfl⟩⟩,Mod.refl _ _⟩
 case round =>
  obtain ⟨k,v,hk,rfl,rfl,hown,hm⟩:=hrel
  have HM:=zh hm
  have HO:=zh hown
  have hk0:(0:Int)<=(k:Int):=Int.natCast_nonneg _
  obtain ⟨sa,sc,hsv⟩:=own_len hown
  subst hsv
  clear hm hown
  by_cases hlt:k < 32
  ·have hk1:(k:Int) < 32:=by omega
   obtain ⟨c,hc⟩:∃ c,c=S.getD k 0:=⟨_,rfl⟩
   have HCK:=zh hc
   have hcl:c.toNat < 256:=UInt8.toNat_lt c
   obtain ⟨y,hy⟩:∃ y,y=c.toNat:=⟨_,rfl⟩
   obtain ⟨q,hq⟩:∃ q,q=y / 16:=⟨_,rfl⟩
   obtain ⟨r,hr⟩:∃ r,r=y % 16:=⟨_,rfl⟩
   have hx1:q < 16:=by omega
   have hx2:r < 16:=by omega
   have EQ:=zh (show (y:Int) / 16=(q:Int) by omega)
   have EA:=zh (show (y:Int) % 16=(r:Int) by omega)
   have HQR:=zh (show q=c.toNat / 16/\r=c.toNat % 16 by rw [hq,hr,hy];exact ⟨rfl,rfl⟩)
   have hand:=and15 y (by omega)
   obtain ⟨d1,hd1⟩:∃ d,d=digit q:=⟨_,rfl⟩
   obtain ⟨d2,hd2⟩:∃ d,d=digit r:=⟨_,rfl⟩
   have HDD:=zh (And.intro hd1.symm hd2.symm)
   clear hd1 hd2
   have hcell:(bv S)[k]? = some (.int .u8 (y:Int)):=by rw [hy,hc];exact bv_bf (by omega)
   have HSM:=zh (show ∀ w',Mod (fun q=>w1.heap.size<=q) wr w'->w'.cell? ⟨gb,k,none⟩=some (.int .u8 (y:Int)) from fun w' h=>(HM.out.trans h).cell (cell_of HG1.out hcell) (fun e=>by have h1:=HLT.out;have h2:w1.heap.size<=gb:=e;omega))
   obtain ⟨hi0,hz0,hz1,hz2⟩:=HI.out
   go_upto_region 5 with fail
   obtain ⟨wD,hwD⟩:∃ y,y=wr.drew:=⟨_,rfl⟩
   have hmx:Mod No wr wD:=by rw [hwD];exact (Mod.refl No wr).drew
   have HMX:=zh hmx
   have HMD:=zh (show Mod (fun q=>w1.heap.size<=q) w1 wD from HM.out.trans (hmx.weaken (fun _ _ f=>f.elim)))
   have HWD:=zh hwD
   have hS0:=Mod.refl (fun q=>w1.heap.size<=q) wD
   clear hwD hmx hc hcell hy hq hr
   refine wp_region_T (fun w'=>Mod (fun q=>w1.heap.size<=q) wD w') 99 (by kernel_rfl) ?_
   rw [<- HWD.out]
   refine yT 0 (some 9) ?_ hS0 ?_ ?_
   rotate_left
   ·(intro w' hSw;go_simp;try with_reducible rfl)
   simp only [Act.put,yB,yC,yD]
   refine yT 1 (some 10) ?_ hS0 ?_ ?_
   rotate_left
   ·(intro w' hSw;go_simp;try with_reducible rfl)
   simp only [Act.put,yB,yC,yD]
   refine yT 2 (some 11) ?_ hS0 ?_ ?_
   rotate_left
   ·(intro w' hSw;go_simp;try with_reducible rfl)
   simp only [Act.put,yB,yC,yD]
   refine yT 3 (some 12) (.int .u8 (y:Int)) hS0 ?_ ?_
   ·(intro w' hSw;have q0:=HSM.out w' ((HMX.out.weaken (fun _ _ f=>f.elim)).trans hSw);go_simp;try with_reducible rfl)
   simp only [Act.put,yB,yC,yD]
   refine yT 4 (some 13) (.int .u8 (q:Int)) hS0 ?_ ?_
   ·(intro w' hSw;go_simp;rw [EQ.out])
   simp only [Act.put,yB,yC,yD]
   refine yT 5 (some 14) (.int .u8 (d1.toNat:Int)) hS0 ?_ ?_
   ·(intro w' hSw;apply ydig hx1 HDD.out.1 (.tmp 13) <;> rfl)
   simp only [Act.put,yB,yC,yD]
   refine yT 6 (some 15) ?_ hS0 ?_ ?_
   rotate_left
   ·(intro w' hSw;go_simp;try with_reducible rfl)
   simp only [Act.put,yB,yC,yD]
   refine yT 7 (some 16) ?_ hS0 ?_ ?_
   rotate_left
   ·(intro w' hSw;go_simp;try with_reducible rfl)
   simp only [Act.put,yB,yC,yD]
   refine yT 8 (some 17) (.int .u8 (y:Int)) hS0 ?_ ?_
   ·(intro w' hSw;have q0:=HSM.out w' ((HMX.out.weaken (fun _ _ f=>f.elim)).trans hSw);go_simp;try with_reducible rfl)
   simp only [Act.put,yB,yC,yD]
   refine yT 9 (some 18) (.int .u8 (r:Int)) hS0 ?_ ?_
   ·(intro w' hSw;go_simp;rw [EA.out])
   simp only [Act.put,yB,yC,yD]
   refine yT 10 (some 19) (.int .u8 (d2.toNat:Int)) hS0 ?_ ?_
   ·(intro w' hSw;apply ydig hx2 HDD.out.2 (.tmp 18) <;> rfl)
   simp only [Act.put,yB,yC,yD]
   refine wpAnyT_one 11 rfl (by kernel_rfl) rfl ?_
   intro K hK
   obtain ⟨ga,hga⟩:∃ g,g=wD.heap.size:=⟨_,rfl⟩
   go_simp
   rw [<- hga]
   obtain ⟨wE,hwE⟩:∃ y,y=wD.alloc (.cells #[.int .u8 (d1.toNat:Int),.int .u8 (d2.toNat:Int)] 5):=⟨_,rfl⟩
   rw [<- hwE]
   have HGA:=zh (show wE.heap[ga]? = some (.cells #[.int .u8 (d1.toNat:Int),.int .u8 (d2.toNat:Int)] 5 (0,0)) by rw [hwE,hga];exact heap_alloc_new _ _)
   have hmE:Mod No wD wE:=by rw [hwE];exact (Mod.refl No _).alloc _
   have HOE:=zh (own_keepM HO.out (HMX.out.trans hmE) (fun _ _ f=>f))
   clear hwE hga
   show K _ _
   have hS1:=(show Mod (fun q=>w1.heap.size<=q) wD wE from hmE.weaken (fun _ _ f=>f.elim))
   refine hK.out _ _ (fun _=>hS1) ?_
   clear hK K
   refine wpAnyT_one 12 rfl (by kernel_rfl) rfl ?_
   intro K hK
   refine wp_app_sl wE (.tmp 9) (.tmp 20) 29 (by rfl) w1.heap.size 5 i0 _ 1 1 underlying29 hi0 hz0 hz1 hz2 rfl (by decide) _ (2*k) (bv (hexL (S.take k))) (by rfl) HOE.out No 5 (.slice (some ⟨ga,0,none⟩) 2 2) 2 (bv [d1,d2]) (by rfl) (.inr ⟨ga,0,2,_,(0,0),rfl,by omega,by unfold maxLen;omega,fun f=>f,HGA.out,by simp,fun i hi=>by simp [bv]⟩) (by simp) (bv_one _) (by unfold maxLen;omega) (by omega) (Nat.le_trans HMD.out.size hS1.size) ?_
   intro v7 w7 hown7 hg7 _
   have HO7:=zh hown7
   have hm7:Mod (fun q=>w1.heap.size<=q) w1 w7:=(HMD.out.trans hS1).trans (Mod.of_grown hg7 (fun q e _=>own_base HO.out e))
   have HM7:=zh hm7
   have HS7:=zh (hS1.trans (Mod.of_grown hg7 (fun q e _=>own_base HO.out e)))
   clear hown7 hg7 hm7
   show K _ _
   have hS2:=HS7.out
   refine hK.out _ _ (fun _=>hS2) ?_
   clear hK K
   refine yT 13 (some 3) ?_ hS2 ?_ ?_
   rotate_left
   ·(intro w' hSw;go_simp;try with_reducible rfl)
   simp only [Act.put]
   refine wpAnyT_done (by kernel_rfl) ?_ _
   clear hS0 hS1 hS2
   go_wp2_with fail
   refine ⟨⟨k+1,v7,by omega,rfl,rfl,?_,HM7.out⟩,by show 32 - ((k:Int)+1).toNat < 32 - (k:Int).toNat;omega⟩
   have h9:=HO7.out
   rw [<- bv_append,<- HDD.out.1,<- HDD.out.2,HQR.out.1,HQR.out.2,HCK.out,<- hexL_take (by omega),show 2*k+2=2*(k+1) by omega] at h9
   exact h9
  ·obtain rfl:k=32:=by omega
   have hL:S.take 32=S:=List.take_of_length_le (by omega)
   have HSL:=zh (show Sl wr No 5 (.slice sa (2*32) sc) (hexL S).length (bv (hexL S)) by
    have h9:=Sl.of_own (X:=No) HO.out (fun _ _ f=>f)
    rw [hL] at h9
    rw [hexL_length,hS]
    exact h9)
   have HCV:=zh (fun W (h:Sl W No 5 (.slice sa (2*32) sc) (hexL S).length (bv (hexL S)))=>string_of (P:=prog) (src:=29) (dst:=9) (e:=5) h underlying29 underlying5 underlying9)
   have hcv:=HCV.out wr HSL.out
   go_wp2_with fail
   exact fin hR ⟨rfl,HM1.out.then HM.out (fun q hq e=>by have h1:=HBB.out;have h2:w1.heap.size<=q:=e;omega)⟩
theorem shr_byte (n m:Nat):((n:Int) / 2 ^ (8*m)) % 256=((UInt8.ofNat (n / 256 ^ m)).toNat:Int):=by
 rw [UInt8.toNat_ofNat',show (256:Nat) ^ m=2 ^ (8*m) by rw [Nat.pow_mul]]
 have h1:((2:Int) ^ (8*m))=((2 ^ (8*m):Nat):Int):=by rw [Int.natCast_pow];rfl
 rw [h1,<- Int.natCast_ediv]
 rfl
set_option maxRecDepth 100000 in
set_option maxHeartbeats 8000000 in
theorem ref7num_any (n k:Nat) (hk:k<=8) (base:Nat) (l:List UInt8) (hl:l.length<=1000000) (v:Value) (w:World) (hb:base<=w.heap.size) (hv:w.ownsRow base 5 1 v l.length (bv l)) :
  Calls prog 75 #[v,.int .u64 (n:Int),.int .i64 (k:Int)] w fun e w'=>∃ v',e=.returned v'/\w'.ownsRow base 5 1 v' (l++numB8 n k).length (bv (l++numB8 n k))/\Mod (fun q=>base<=q) w w':=by
 refine calls_hide fun R hR=>?_
 obtain ⟨i0,hi0,hz0,hz1,hz2⟩:=info_parts info_byte
 have HI:=zh (And.intro hi0 (And.intro hz0 (And.intro hz1 hz2)))
 have HV:=zh hv
 have HB:=zh hb
 have hk0:(0:Int)<=(k:Int):=Int.natCast_nonneg _
 obtain ⟨va,vc,rfl⟩:=own_len hv
 clear hi0 hz0 hz1 hz2 hv hb
 go_enter func75,ntmps75
 go_wp2_with fail
 go_loopw [0,7] (fun q0 q7 wr=>∃ (r:Nat) (pre:List UInt8) (u:Value),r<=k/\q7=.int .i64 ((r:Int) - 1)/\q0=u/\pre++numB8 n r=numB8 n k/\wr.ownsRow base 5 1 u (l++pre).length (bv (l++pre))/\Mod (fun q=>base<=q) w wr) (fun _ q _=>(intOf q+1).toNat)
 case atStart=>exact ⟨k,[],_,Nat.le_refl _,rfl,rfl,rfl,by simpa using HV.out,Mod.refl _ _⟩
 case round =>
  obtain ⟨r,pre,u,hr,rfl,rfl,hpre,hown,hm⟩:=hrel
  have HM:=zh hm
  have HO:=zh hown
  have HP:=zh hpre
  obtain ⟨ua,uc,rfl⟩:=own_len hown
  clear hm hown hpre
  have hlen:(l++pre).length=l.length+pre.length:=List.length_append
  have hpl:pre.length<=8:=by
   have h1:=congrArg List.length HP.out
   rw [List.length_append,numB8_length,numB8_length] at h1
   omega
  rcases r with _ | m
  ·have HE:=zh (show l++pre=l++numB8 n k by rw [<- HP.out];show l++pre=l++(pre++[]);rw [List.append_nil])
   go_wp2_with fail
   refine fin hR ⟨_,rfl,?_,HM.out⟩
   rw [<- HE.out]
   exact HO.out
  ·have hm0:(0:Int)<=(m:Int):=Int.natCast_nonneg _
   have e1:(((m+1:Nat):Int) - 1)=(m:Int):=by omega
   rw [e1]
   obtain ⟨hi0,hz0,hz1,hz2⟩:=HI.out
   have HSB:=zh (shr_byte n m)
   have HPN:=zh (show pre++UInt8.ofNat (n / 256 ^ m) :: numB8 n m=numB8 n k from HP.out)
   generalize UInt8.ofNat (n / 256 ^ m)=d at *
   rw [hlen] at HO
   rw [hlen]
   have HOA:=zh (own_keepM HO.out ((Mod.refl No wr).alloc (.cells #[.int .u8 ((n:Int) / 2 ^ (8*m) % 256)] 5)) (fun _ _ f=>f))
   go_wp2_with (at_builtin;refine app_sl _ rfl _ _ 29 rfl base 5 i0 (.int .u8 0) 1 1 underlying29 hi0 hz0 hz1 hz2 rfl (by decide) _ (l.length+pre.length) (bv (l++pre)) rfl HOA.out No 5 (.slice (some ⟨wr.heap.size,0,none⟩) 1 1) 1 [.int .u8 ((n:Int) / 2 ^ (8*m) % 256)] rfl (.inr ⟨wr.heap.size,0,1,_,(0,0),rfl,Nat.le_refl _,by unfold maxLen;omega,fun f=>f,heap_alloc_new wr _,by simp,fun i hi=>by simp⟩) rfl (fun u hu=>by rw [List.mem_singleton.1 hu];rfl) (by unfold maxLen;omega) (by omega) (Nat.le_trans HB.out (Nat.le_trans HM.out.size ((Mod.refl No wr).alloc _).size)) ?_;intro v7 w7 hown7 hg7 _;have HO7:=zh hown7;have HG7:=zh hg7;clear hown7 hg7)
   have HM7:=zh (show Mod (fun q=>base<=q) w w7 from (HM.out.trans (((Mod.refl No wr).alloc (.cells #[.int .u8 ((n:Int) / 2 ^ (8*m) % 256)] 5)).weaken (fun _ _ f=>f.elim))).trans (Mod.of_grown HG7.out (fun q e _=>own_base HO.out e)))
   refine ⟨⟨m,pre++[d],v7,by omega,rfl,rfl,by rw [List.append_assoc];exact HPN.out,?_,HM7.out⟩,by show ((m:Int) - 1+1).toNat < ((m:Int)+1).toNat;omega⟩
   have h9:=HO7.out
   rw [HSB.out] at h9
   rw [<- List.append_assoc,bv_append (l++pre),List.length_append,hlen]
   exact h9
end Go.Proofs.YtgiigemfbebcgaaGreatDoor
