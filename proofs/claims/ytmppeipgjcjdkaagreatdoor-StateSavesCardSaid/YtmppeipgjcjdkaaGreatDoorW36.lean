/-
  Layers 0 to 14: helps of the laws of indexes. No statement is proved here; no condition.
-/
import Derived.Test.YtmppeipgjcjdkaaGreatDoorW35
import Derived.Lib.LastIndexByte
import Derived.Lib.Join
namespace Go.Proofs.YtmppeipgjcjdkaaGreatDoor
open _root_.Go.Proofs.Tryz
open Go.RowKit
theorem drop_none:∀ {l:List UInt8},(∀ c ∈ l,c ≠ 47)->l.dropWhile (· != 47)=[]
 | [],_=>rfl
 | c :: l,h=>by
  have hc:(c != 47)=true:=by simpa using h c (by simp)
  rw [List.dropWhile_cons,if_pos hc]
  exact drop_none fun d hd=>h d (by simp [hd])
theorem drop_hit {a:List UInt8}:∀ {l:List UInt8},(∀ c ∈ l,c ≠ 47)->(l++47 :: a).dropWhile (· != 47)=47 :: a
 | [],_=>by simp
 | c :: l,h=>by
  have hc:(c != 47)=true:=by simpa using h c (by simp)
  rw [List.cons_append,List.dropWhile_cons,if_pos hc]
  exact drop_hit fun d hd=>h d (by simp [hd])
theorem parent_none {p:List UInt8} (h:∀ c ∈ p,c ≠ 47):parentP p=[]:=by
 unfold parentP
 rw [drop_none fun c hc=>h c (List.mem_reverse.1 hc)]
 rfl
theorem parent_hit {a b:List UInt8} (h:∀ c ∈ b,c ≠ 47):parentP (a++47 :: b)=a:=by
 unfold parentP
 rw [List.reverse_append,List.reverse_cons,List.append_assoc]
 show ((b.reverse++47 :: a.reverse).dropWhile _ |>.drop 1).reverse=a
 rw [drop_hit fun c hc=>h c (List.mem_reverse.1 hc)]
 simp
theorem parent_last (p:List UInt8):∃ n:Nat,n<=p.length/\parentP p=p.take n/\(if Lib.lastIndexByte ⟨p.toArray⟩ 47 < 0 then 0 else Lib.lastIndexByte ⟨p.toArray⟩ 47)=(n:Int):=by
 rcases Lib.lastIndexByte_spec ⟨p.toArray⟩ 47 with ⟨h1,h2⟩ | ⟨i,hi,h1,h2,h3⟩
 ·refine ⟨0,Nat.zero_le _,?_,by rw [h1];rfl⟩
  rw [parent_none fun c hc=>?_]
  ·rfl
  ·obtain ⟨k,hk,rfl⟩:=List.getElem_of_mem hc
   intro e
   refine h2 k (by rw [str_len3];exact hk) ?_
   have:(p.toArray)[k]! = p[k]:=by simp [hk]
   show (((p.toArray)[k]!).toNat:Int)=47
   rw [this,e];rfl
 ·rw [str_len3] at hi h3
  have hget:∀ k (hk:k < p.length),(p.toArray)[k]! = p[k]:=fun k hk=>by simp [hk]
  refine ⟨i,by omega,?_,by rw [h1,if_neg (by omega)]⟩
  have e0:p=p.take i++47 :: p.drop (i+1):=by
   have h4:(((p.toArray)[i]!).toNat:Int)=47:=h2
   rw [hget i hi] at h4
   have h5:p[i]=47:=UInt8.toNat_inj.1 (by show _=47;omega)
   rw [<- h5,<- List.drop_eq_getElem_cons hi,List.take_append_drop]
  conv=>lhs;rw [e0]
  refine parent_hit fun c hc e=>?_
  obtain ⟨k,hk,rfl⟩:=List.getElem_of_mem hc
  rw [List.length_drop] at hk
  rw [List.getElem_drop] at e
  refine h3 (i+1+k) (by omega) (by omega) ?_
  show (((p.toArray)[i+1+k]!).toNat:Int)=47
  rw [hget _ (by omega),e];rfl
theorem glue_join:∀ l:List (List UInt8),glueP l=Lib.join l [47]
 | []=>rfl
 | [x]=>(Lib.join_one x [47]).symm
 | x :: y :: l=>by
  rw [glueP,glue_join (y :: l),Lib.join_cons,Lib.join_cons]
  simp [Lib.joinTail]
set_option maxRecDepth 100000 in
theorem parent_any (p:List UInt8) (hp:p.length<=1000000) (w:World):Calls prog 185 #[strV p] w fun e w'=>e=.returned (strV (parentP p))/\Mod No w w':=by
 refine calls_hide fun R hR=>?_
 have HL:=zh (Tryz.strings_LastIndexByte ⟨p.toArray⟩ 47 (by rw [str_len3];omega))
 obtain ⟨n,hn,hpn,hz⟩:=parent_last p
 have HP:=zh hpn
 have hto:=str_to p n
 have hzs:=str_len3 p
 unfold strV
 generalize Lib.lastIndexByte ⟨p.toArray⟩ 47=z at *
 generalize (⟨p.toArray⟩:ByteArray)=Z at *
 clear hpn
 go_enter func185,ntmps185
 go_wp2_with fail
 with_reducible refine (HL.out w).mono ?_
 rintro e w1 ⟨rfl,rfl⟩
 go_wp2_with fail
 refine fin hR ⟨?_,Mod.refl _ _⟩
 show Ending.returned (.string (Z.extract 0 (max z 0).toNat))=_
 rw [show (max z 0).toNat=n by
  have h:=hz
  split at h <;> omega,hto,HP.out]
theorem parts_nil (w:World):Calls prog 183 #[.string ⟨#[]⟩] w fun e w'=>e=.returned (.slice none 0 0)/\w'=w:=by
 refine calls_hide fun R hR=>?_
 go_enter func183,ntmps183
 go_wp2_with fail
 exact fin hR ⟨rfl,rfl⟩
theorem parts_code:∀ (l out:List (List UInt8)) (c:Nat),partsG out l=.inr c->c=50\/c=51
 | [],out,c,h=>by unfold partsG at h;cases h
 | x :: l,out,c,h=>by
  unfold partsG at h
  split at h
  ·exact parts_code l _ _ h
  ·split at h
   ·split at h
    ·cases h;exact .inr rfl
    ·exact parts_code l _ _ h
   ·split at h
    ·exact parts_code l _ _ h
    ·cases h;exact .inl rfl
theorem wk_code {l:List UInt8} {c:Nat} (h:wkE l=.inr c):c=50\/c=51:=by
 unfold wkE at h
 split at h
 ·cases h;exact .inr rfl
 ·split at h
  ·rename_i h2
   cases h
   exact parts_code _ _ _ h2
  ·split at h
   ·cases h;exact .inl rfl
   ·cases h
theorem join_strs (out:List (List UInt8)) (v:Value) (w:World) (hv:Sl w No 9 v out.length (strs out)) (hn:out.length<=1000000) (hg:(glueP out).length<=1000000) :
  Calls prog 184 #[v,.string ⟨#[47]⟩] w fun e w'=>e=.returned (strV (glueP out))/\Mod No w w':=by
 rcases Nat.eq_zero_or_pos out.length with h0 | h0
 ·obtain rfl:out=[]:=List.eq_nil_of_length_eq_zero h0
  obtain ⟨a,c,rfl⟩:=hv.len
  exact (Tryz.strings_Join_none a c ⟨#[47]⟩ w).mono fun e w' ⟨he,hw⟩=>⟨he,by rw [hw];exact Mod.refl _ _⟩
 ·obtain ⟨b,o,c,rfl,hc,-⟩:=hv.shape h0
  have hcell:∀ (j:Nat) x,(out.map fun s=>(⟨s.toArray⟩:ByteArray))[j]? = some x->w.cell? ⟨b,o+j,none⟩=some (.string x):=fun j x hj=>by
   rw [List.getElem?_map] at hj
   obtain ⟨y,hy,rfl⟩:=Option.map_eq_some_iff.1 hj
   obtain ⟨hj2,rfl⟩:=List.getElem?_eq_some_iff.1 hy
   rw [hv.cellN (i:=j) (by rw [strs_length];exact hj2)]
   simp [strs,strV]
  have hb:b < w.heap.size:=by
   have h1:=hv.cellN (i:=0) (by rw [strs_length];exact h0)
   rcases Nat.lt_or_ge b w.heap.size with h | h
   ·exact h
   ·simp [World.cell?,Array.getElem?_eq_none h] at h1
  have hdl:(out.map fun s=>(⟨s.toArray⟩:ByteArray)).map (·.data.toList)=out:=by rw [List.map_map];exact List.map_id _
  have hlen:(out.map fun s=>(⟨s.toArray⟩:ByteArray)).length=out.length:=List.length_map ..
  have h:=Tryz.strings_Join b o c (out.map fun s=>(⟨s.toArray⟩:ByteArray)) ⟨#[47]⟩ w hcell hb (by omega) (by omega) (by rw [hdl];show (Lib.join out [47]).length<=_;rw [<- glue_join];omega)
  rw [hdl,hlen] at h
  refine h.mono fun e w' ⟨he,hw⟩=>⟨?_,Mod.of_below hw⟩
  rw [he,glue_join]
theorem clean_wk (l:List UInt8):cleanP l=if 200 < l.length then ([],50) else match wkE l with
  | .inr e=>([],e)
  | .inl out=>(glueP out,0):=by
 unfold cleanP wkE
 split
 ·rfl
 ·split
  ·rfl
  ·split
   ·rename_i h;rw [h]
   ·rename_i out h
    rw [h]
    dsimp only
    split <;> rfl
set_option maxRecDepth 100000 in
set_option maxHeartbeats 4000000 in
theorem join_any (l:List UInt8) (hl:l.length<=1000000) (w:World) (hgl:Gl w):Calls prog 135 #[.string ⟨#[]⟩,strV l] w fun e w'=>e=.returned (.tuple #[strV (cleanP l).1,.int .i64 ((cleanP l).2:Int)])/\Mod No w w':=by
 refine calls_hide fun R hR=>?_
 have HWA:=zh (walk_any l hl w hgl)
 have HCW:=zh (clean_wk l)
 have HZ:=zh (str_len3 l)
 unfold strV at *
 generalize (⟨l.toArray⟩:ByteArray)=Z at *
 have hZs:(Z.size:Int)=(l.length:Int):=by rw [HZ.out]
 go_enter func135,ntmps135
 by_cases h200:200 < l.length
 ·have h1:(200:Int) < (l.length:Int):=by omega
  go_wp2_with fail
  refine fin hR ⟨?_,Mod.refl _ _⟩
  rw [HCW.out,if_pos h200]
  rfl
 ·have h1:¬ (200:Int) < (l.length:Int):=by omega
  have HPN:=zh (parts_nil w)
  rw [if_neg h200] at HCW
  go_wp2_with fail
  with_reducible refine HPN.out.mono ?_
  rintro e w1 ⟨rfl,rfl⟩
  clear HPN
  go_wp2_with fail
  with_reducible refine HWA.out.mono ?_
  rintro e w2 ⟨hp,hm⟩
  have HM:=zh hm
  clear hm HWA
  unfold WkPost at hp
  cases hwk:wkE l with
  | inr c =>
   rw [hwk] at hp HCW
   have HC2:=zh (show cleanP l=([],c) from HCW.out)
   have hc:=wk_code hwk
   have hc0:((c:Int) == 0)=false:=by rw [beq_eq_false_iff_ne];omega
   clear HCW hwk hc
   have hp:e=.returned (.tuple #[.slice none 0 0,.int .i64 (c:Int)]):=hp
   subst hp
   go_wp2_with fail
   refine fin hR ⟨?_,HM.out⟩
   rw [HC2.out]
   rfl
  | inl out =>
   rw [hwk] at hp HCW
   have HC2:=zh (show cleanP l=(glueP out,0) from HCW.out)
   have ho:out.length<=1000000:=by
    unfold wkE at hwk
    split at hwk
    ·cases hwk
    ·split at hwk
     ·cases hwk
     ·split at hwk
      ·cases hwk
      ·cases hwk;omega
   obtain ⟨v,rfl,hsl⟩:=hp
   have hgl2:=(clean_all l).1
   rw [HC2.out] at hgl2
   have HJ:=zh (join_strs out v w2 hsl ho (by dsimp only at hgl2;omega))
   obtain ⟨va,vc,rfl⟩:=hsl.len
   clear HCW hwk hsl hgl2
   go_wp2_with fail
   with_reducible refine HJ.out.mono ?_
   rintro e w3 ⟨rfl,hm3⟩
   have HM3:=zh (HM.out.trans hm3)
   clear hm3 HJ
   go_wp2_with fail
   refine fin hR ⟨?_,HM3.out⟩
   rw [HC2.out]
   rfl
set_option maxRecDepth 100000 in
theorem clean_any (l:List UInt8) (hl:l.length<=1000000) (w:World) (hgl:Gl w):Calls prog 72 #[strV l] w fun e w'=>e=.returned (.tuple #[strV (cleanP l).1,.int .i64 ((cleanP l).2:Int)])/\Mod No w w':=by
 refine calls_hide fun R hR=>?_
 have HJ:=zh (join_any l hl w hgl)
 generalize cleanP l=cl at *
 unfold strV at *
 generalize (⟨l.toArray⟩:ByteArray)=Z at *
 go_enter func72,ntmps72
 go_wp2_with fail
 with_reducible refine HJ.out.mono ?_
 rintro e w2 ⟨rfl,hm⟩
 have HM:=zh hm
 clear hm HJ
 go_wp2_with fail
 exact fin hR ⟨rfl,HM.out⟩
end Go.Proofs.YtmppeipgjcjdkaaGreatDoor
