/-
  Layers 0 to 14: helps of the laws of indexes. No statement is proved here; no condition.
-/
import Derived.Test.YtmppeipgjcjdkaaGreatDoorW02
import Derived.Laws.Bits64b
namespace Go.Proofs.YtmppeipgjcjdkaaGreatDoor
open _root_.Go.Proofs.Tryz
open Go.RowKit
theorem andNot128 (x:Nat) (h:x < 256):bits .andNot .u8 (x:Int) 128=((x % 128:Nat):Int):=by
 have:∀ y:Fin 256,bits .andNot .u8 ((y.val:Nat):Int) 128=((y.val % 128:Nat):Int):=by decide +kernel
 exact this ⟨x,h⟩
theorem and128 (x:Nat) (h:x < 256):bits .and .u8 (x:Int) 128=if x < 128 then 0 else 128:=by
 have:∀ y:Fin 256,bits .and .u8 ((y.val:Nat):Int) 128=if y.val < 128 then 0 else 128:=by decide +kernel
 exact this ⟨x,h⟩
theorem or_part (acc y k:Nat) (hk:k<=63) (h:acc < 2 ^ k) (hy:y*2 ^ k < 18446744073709551616):bits .or .u64 (acc:Int) ((y*2 ^ k:Nat):Int)=((acc+y*2 ^ k:Nat):Int):=by
 have ha:acc < 18446744073709551616:=Nat.lt_of_lt_of_le h (Nat.le_trans (Nat.pow_le_pow_right (by decide) hk) (by decide))
 rw [bits_or_u64_nat _ _ ha hy,Nat.or_comm,Nat.mul_comm y,<- Nat.two_pow_add_eq_or_of_lt h y,Nat.add_comm]
theorem or_wrap (acc y k:Nat) (hk:k<=63) (h:acc < 2 ^ k) (hy:y*2 ^ k < 18446744073709551616):bits .or .u64 (acc:Int) (IntKind.u64.wrap ((y:Int)*2 ^ k))=((acc+y*2 ^ k:Nat):Int):=by
 have e:IntKind.u64.wrap ((y:Int)*2 ^ k)=((y*2 ^ k:Nat):Int):=by
  have e1:(y:Int)*2 ^ k=((y*2 ^ k:Nat):Int):=by rw [Int.natCast_mul,Int.natCast_pow];rfl
  rw [e1,IntKind.wrap_u64]
  exact Int.emod_eq_of_lt (Int.natCast_nonneg _) (by omega)
 rw [e]
 exact or_part acc y k hk h hy
theorem cmust_if (b:Bool) (hb:b=true) (w:World):Calls prog 181 #[.bool b] w fun e w'=>e=.returned (.tuple #[])/\w'=w:=by
 subst hb;exact cmust_yes w
theorem cmust_not (b:Bool) (hb:b=false) (w:World):Calls prog 181 #[.bool b] w fun e w'=>e=StoppedC/\w'=w:=by
 subst hb;exact cmust_no w
theorem part_lt {acc y k:Nat} (h:acc < 2 ^ (7*k)) (hy:y < 128):acc+y*2 ^ (7*k) < 2 ^ (7*(k+1)):=by
 have hp:2 ^ (7*(k+1))=128*2 ^ (7*k):=by rw [show 7*(k+1)=7*k+7 by omega,Nat.pow_add];omega
 have:y*2 ^ (7*k)<=127*2 ^ (7*k):=Nat.mul_le_mul_right _ (by omega)
 omega
theorem part_64 {y k:Nat} (hk:k<=9) (hy:y < 128) (h9:k=9->y<=1):y*2 ^ (7*k) < 18446744073709551616:=by
 by_cases e:k=9
 ·subst e;have:=h9 rfl;omega
 ·have h1:2 ^ (7*k)<=2 ^ 56:=Nat.pow_le_pow_right (by decide) (by omega)
  have h2:y*2 ^ (7*k)<=127*2 ^ 56:=Nat.mul_le_mul (by omega) h1
  omega
theorem part_sum {acc y k:Nat} (h:acc < 2 ^ (7*k)) (hk:k<=9) (hy:y < 128) (h9:k=9->y<=1):acc+y*2 ^ (7*k) < 18446744073709551616:=by
 by_cases e:k=9
 ·subst e;have:=h9 rfl;omega
 ·have h1:2 ^ (7*k)<=2 ^ 56:=Nat.pow_le_pow_right (by decide) (by omega)
  have h2:y*2 ^ (7*k)<=127*2 ^ 56:=Nat.mul_le_mul (by omega) h1
  omega
def NumPost (w:World) (q:Nat) (L:List UInt8) (e:Ending) (w':World):Prop :=
 Mod (fun k=>k=q) w w'/\∃ v L',RdAt w' q v L' false/\((∃ n,rdNum L=some (n,L')/\e=.returned (.int .u64 (n:Int))/\n < 18446744073709551616)\/(rdNum L=none/\e=StoppedC))
set_option maxRecDepth 100000 in
set_option maxHeartbeats 4000000 in
theorem num_any {w:World} {q:Nat} {v0:Value} {L:List UInt8} (h:RdAt w q v0 L false) (_:L.length<=1000000000) :
  Calls prog 154 #[.pointer (some ⟨q,0,none⟩)] w (NumPost w q L):=by
 refine calls_hide fun R hR=>?_
 have H:=zh h
 clear h
 go_enter func154,ntmps154
 go_wp2_with fail
 go_loopw [3,4] (fun n i wr=>∃ (k acc:Nat) (v:Value) (l:List UInt8),k<=9/\i=.int .i64 (k:Int)/\n=.int .u64 (acc:Int)/\acc < 2 ^ (7*k)/\RdAt wr q v l false/\Mod (fun k=>k=q) w wr/\rdNum L=rdNumG k acc l/\l.length<=L.length) (fun _ i _=>10 - (intOf i).toNat)
 case atStart=>exact ⟨0,0,v0,L,by omega,rfl,rfl,by decide,H.out,Mod.refl _ _,rfl,Nat.le_refl _⟩
 case round =>
  obtain ⟨k,acc,v,l,hk,rfl,rfl,hacc,hrd,hm,hG,hll⟩:=hrel
  have hk0:(0:Int)<=(k:Int):=Int.natCast_nonneg _
  have hk9:(k:Int)<=9:=by omega
  have HACC:=zh hacc
  have HM:=zh hm
  obtain ⟨a,c,rfl⟩:=hrd.row.len
  have cq:=cell_of (i:=0) hrd.obj rfl
  have fq:=frozen_of 0 hrd.obj
  have HRD:=zh hrd
  clear hacc hm hrd
  cases l with
  | nil =>
   have HG:=zh (show rdNum L=none from hG)
   clear hG
   go_wp2_with fail
   with_reducible refine (cmust_no wr).mono ?_
   rintro e w2 ⟨rfl,h2⟩
   subst h2
   go_wp2_with fail
   exact ⟨rfl,fin hR ⟨HM.out,_,_,HRD.out,.inr ⟨HG.out,rfl⟩⟩⟩
  | cons x l =>
   have hxb:=UInt8.toNat_lt x
   obtain ⟨g,o,c',hv,-⟩:=HRD.out.row.shape (by simp)
   cases hv
   have hcx:=HRD.out.row.cell (i:=0) (by simp)
   rw [bv_get _ _ (by simp)] at hcx
   dsimp only [List.getElem_cons_zero] at hcx
   rw [Nat.add_zero] at hcx
   obtain ⟨a',hsf,hsl⟩:=slice_from (kd:=.i64) (k:=1) HRD.out.row (by rw [bv_length]) (by simp)
   rw [show ((1:Nat):Int)=1 from rfl] at hsf
   have hsf:=hsf wr
   have hl1:(x :: l).length - 1=l.length:=by simp
   rw [hl1] at hsf hsl
   have HSL:=zh (show Sl wr No 5 (.slice a' l.length (c - 1)) l.length (bv l) from hsl)
   obtain ⟨w2,hw2⟩:∃ w2,w2=wr.setCell ⟨q,0,none⟩ (.slice a' l.length (c - 1)):=⟨_,rfl⟩
   obtain ⟨hR2,hM2⟩:=HRD.out.set HSL.out
   rw [<- hw2] at hR2 hM2
   have HR2:=zh hR2
   have HM2:=zh (HM.out.trans hM2)
   have HW2:=zh hw2
   have hlen1:(x :: l).length=l.length+1:=rfl
   rw [hlen1] at hsf cq
   clear hsl hl1 hR2 hM2 hw2 hlen1
   unfold rdNumG at hG
   generalize x.toNat=xv at *
   rw [if_neg (by omega)] at hG
   by_cases h9:k=9/\1 < xv
   ·rw [if_pos h9] at hG
    have HG:=zh hG
    obtain ⟨rfl,hx1⟩:=h9
    have hx1':(1:Int) < (xv:Int):=by omega
    clear hG
    go_wp2_with fail
    with_reducible refine (cmust_yes wr).mono ?_
    rintro e w3 ⟨rfl,h2⟩
    subst h2
    go_wp2_with fail
    rw [<- HW2.out,show decide ((xv:Int)<=1)=false from decide_eq_false (by omega)]
    with_reducible refine (cmust_no w2).mono ?_
    rintro e w4 ⟨rfl,h2⟩
    subst h2
    go_wp2_with fail
    exact ⟨rfl,fin hR ⟨HM2.out,_,_,HR2.out,.inr ⟨HG.out,rfl⟩⟩⟩
   ·rw [if_neg h9] at hG
    by_cases hs:xv < 128
    ·have hsI:(xv:Int) < 128:=by omega
     rw [if_pos hs] at hG
     by_cases h0:xv=0/\k ≠ 0
     ·rw [if_pos h0] at hG
      have hx0:(xv:Int)=0:=by omega
      have hk1:¬ (k:Int)=0:=by omega
      have hk1':(0:Int) < (k:Int):=by omega
      have hkb:((k:Int) == 0)=false:=by simpa using hk1
      have hxb0:((xv:Int) != 0)=false:=by simp;omega
      by_cases hk8:k<=8
      ·have hk8I:(k:Int) < 9:=by omega
       clear hx0
       have ha1:=andNot128 xv hxb
       have ha2:=and128 xv hxb
       rw [if_pos hs] at ha2
       have HP64:=zh (part_64 (y:=xv % 128) hk (Nat.mod_lt _ (by decide)) (fun e=>by omega))
       have HOR:=zh (or_wrap acc (xv % 128) (7*k) (by omega) HACC.out HP64.out)
       have HLT:=zh (part_lt (y:=xv % 128) HACC.out (Nat.mod_lt _ (by decide)))
       have HS64:=zh (part_sum (y:=xv % 128) HACC.out hk (Nat.mod_lt _ (by decide)) (fun e=>by omega))
       have HG:=zh hG
       clear hG h9
       generalize hy:xv % 128=y at *
       have HY:=zh hy
       clear hy
       have hyI:(y:Int) < 128:=by have:=HY.out;omega
       go_wp2_with fail
       with_reducible refine (cmust_yes wr).mono ?_
       rintro e w3 ⟨rfl,h2⟩
       subst h2
       go_wp2_with fail
       rw [<- HW2.out]
       refine (cmust_if _ ?hb w2).mono ?_
       case hb=>first | rfl | (exact decide_eq_true (by omega))
       rintro e w4 ⟨rfl,h2⟩
       subst h2
       go_wp2_with fail
       refine (cmust_not _ ?hb2 w4).mono ?_
       case hb2=>first | rfl | (simp;omega) | (exact decide_eq_false (by omega))
       rintro e w5 ⟨rfl,h2⟩
       subst h2
       go_wp2_with fail
       exact ⟨rfl,fin hR ⟨HM2.out,_,_,HR2.out,.inr ⟨HG.out,rfl⟩⟩⟩
      ·have hk8I:¬ (k:Int) < 9:=by omega
       have hk8J:(9:Int)<=(k:Int):=by omega
       clear hx0
       have ha1:=andNot128 xv hxb
       have ha2:=and128 xv hxb
       rw [if_pos hs] at ha2
       have HP64:=zh (part_64 (y:=xv % 128) hk (Nat.mod_lt _ (by decide)) (fun e=>by omega))
       have HOR:=zh (or_wrap acc (xv % 128) (7*k) (by omega) HACC.out HP64.out)
       have HLT:=zh (part_lt (y:=xv % 128) HACC.out (Nat.mod_lt _ (by decide)))
       have HS64:=zh (part_sum (y:=xv % 128) HACC.out hk (Nat.mod_lt _ (by decide)) (fun e=>by omega))
       have HG:=zh hG
       clear hG h9
       generalize hy:xv % 128=y at *
       have HY:=zh hy
       clear hy
       have hyI:(y:Int) < 128:=by have:=HY.out;omega
       go_wp2_with fail
       with_reducible refine (cmust_yes wr).mono ?_
       rintro e w3 ⟨rfl,h2⟩
       subst h2
       go_wp2_with fail
       rw [<- HW2.out]
       refine (cmust_if _ ?hb w2).mono ?_
       case hb=>first | rfl | (exact decide_eq_true (by omega))
       rintro e w4 ⟨rfl,h2⟩
       subst h2
       go_wp2_with fail
       refine (cmust_not _ ?hb2 w4).mono ?_
       case hb2=>first | rfl | (simp;omega) | (exact decide_eq_false (by omega))
       rintro e w5 ⟨rfl,h2⟩
       subst h2
       go_wp2_with fail
       exact ⟨rfl,fin hR ⟨HM2.out,_,_,HR2.out,.inr ⟨HG.out,rfl⟩⟩⟩
     ·rw [if_neg h0] at hG
      by_cases hx:xv=0
      ·have hkb:((k:Int) == 0)=true:=by simp;omega
       have hxb0:((xv:Int) != 0)=false:=by simp;omega
       have hk8I:(k:Int) < 9:=by omega
       have hkz:k<=8:=by omega
       clear hx h0
       have ha1:=andNot128 xv hxb
       have ha2:=and128 xv hxb
       rw [if_pos hs] at ha2
       have HP64:=zh (part_64 (y:=xv % 128) hk (Nat.mod_lt _ (by decide)) (fun e=>by omega))
       have HOR:=zh (or_wrap acc (xv % 128) (7*k) (by omega) HACC.out HP64.out)
       have HLT:=zh (part_lt (y:=xv % 128) HACC.out (Nat.mod_lt _ (by decide)))
       have HS64:=zh (part_sum (y:=xv % 128) HACC.out hk (Nat.mod_lt _ (by decide)) (fun e=>by omega))
       have HG:=zh hG
       clear hG h9
       generalize hy:xv % 128=y at *
       have HY:=zh hy
       clear hy
       have hyI:(y:Int) < 128:=by have:=HY.out;omega
       go_wp2_with fail
       with_reducible refine (cmust_yes wr).mono ?_
       rintro e w3 ⟨rfl,h2⟩
       subst h2
       go_wp2_with fail
       rw [<- HW2.out]
       refine (cmust_if _ ?hb w2).mono ?_
       case hb=>first | rfl | (exact decide_eq_true (by omega))
       rintro e w4 ⟨rfl,h2⟩
       subst h2
       go_wp2_with fail
       refine (cmust_if _ ?hb2 w4).mono ?_
       case hb2=>first | rfl | (simp;omega) | (exact decide_eq_true (by omega))
       rintro e w5 ⟨rfl,h2⟩
       subst h2
       go_wp2_with fail
       refine fin hR ⟨HM2.out,_,_,HR2.out,.inl ⟨_,HG.out,?_,?_⟩⟩
       ·first | (rw [HOR.out];rfl) | rw [HOR.out]
       ·exact HS64.out
      ·have hx0:¬ (xv:Int)=0:=by omega
       have hxb0:((xv:Int) != 0)=true:=by simp;omega
       by_cases hk8:k<=8
       ·have hk8I:(k:Int) < 9:=by omega
        have ha1:=andNot128 xv hxb
        have ha2:=and128 xv hxb
        rw [if_pos hs] at ha2
        have HP64:=zh (part_64 (y:=xv % 128) hk (Nat.mod_lt _ (by decide)) (fun e=>by omega))
        have HOR:=zh (or_wrap acc (xv % 128) (7*k) (by omega) HACC.out HP64.out)
        have HLT:=zh (part_lt (y:=xv % 128) HACC.out (Nat.mod_lt _ (by decide)))
        have HS64:=zh (part_sum (y:=xv % 128) HACC.out hk (Nat.mod_lt _ (by decide)) (fun e=>by omega))
        have HG:=zh hG
        clear hG h9
        generalize hy:xv % 128=y at *
        have HY:=zh hy
        clear hy
        have hyI:(y:Int) < 128:=by have:=HY.out;omega
        go_wp2_with fail
        with_reducible refine (cmust_yes wr).mono ?_
        rintro e w3 ⟨rfl,h2⟩
        subst h2
        go_wp2_with fail
        rw [<- HW2.out]
        refine (cmust_if _ ?hb w2).mono ?_
        case hb=>first | rfl | (exact decide_eq_true (by omega))
        rintro e w4 ⟨rfl,h2⟩
        subst h2
        go_wp2_with fail
        refine (cmust_if _ ?hb2 w4).mono ?_
        case hb2=>first | rfl | (simp;omega) | (exact decide_eq_true (by omega))
        rintro e w5 ⟨rfl,h2⟩
        subst h2
        go_wp2_with fail
        refine fin hR ⟨HM2.out,_,_,HR2.out,.inl ⟨_,HG.out,?_,?_⟩⟩
        ·first | (rw [HOR.out];rfl) | rw [HOR.out]
        ·exact HS64.out
       ·have hk8I:¬ (k:Int) < 9:=by omega
        have hk8J:(9:Int)<=(k:Int):=by omega
        have hx1I:(xv:Int)<=1:=by omega
        have ha1:=andNot128 xv hxb
        have ha2:=and128 xv hxb
        rw [if_pos hs] at ha2
        have HP64:=zh (part_64 (y:=xv % 128) hk (Nat.mod_lt _ (by decide)) (fun e=>by omega))
        have HOR:=zh (or_wrap acc (xv % 128) (7*k) (by omega) HACC.out HP64.out)
        have HLT:=zh (part_lt (y:=xv % 128) HACC.out (Nat.mod_lt _ (by decide)))
        have HS64:=zh (part_sum (y:=xv % 128) HACC.out hk (Nat.mod_lt _ (by decide)) (fun e=>by omega))
        have HG:=zh hG
        clear hG h9
        generalize hy:xv % 128=y at *
        have HY:=zh hy
        clear hy
        have hyI:(y:Int) < 128:=by have:=HY.out;omega
        go_wp2_with fail
        with_reducible refine (cmust_yes wr).mono ?_
        rintro e w3 ⟨rfl,h2⟩
        subst h2
        go_wp2_with fail
        rw [<- HW2.out]
        refine (cmust_if _ ?hb w2).mono ?_
        case hb=>first | rfl | (exact decide_eq_true (by omega))
        rintro e w4 ⟨rfl,h2⟩
        subst h2
        go_wp2_with fail
        refine (cmust_if _ ?hb2 w4).mono ?_
        case hb2=>first | rfl | (simp;omega) | (exact decide_eq_true (by omega))
        rintro e w5 ⟨rfl,h2⟩
        subst h2
        go_wp2_with fail
        refine fin hR ⟨HM2.out,_,_,HR2.out,.inl ⟨_,HG.out,?_,?_⟩⟩
        ·first | (rw [HOR.out];rfl) | rw [HOR.out]
        ·exact HS64.out
    ·have hk8:k<=8:=by omega
     rw [if_neg hs] at hG
     have ha1:=andNot128 xv hxb
     have ha2:=and128 xv hxb
     rw [if_neg hs] at ha2
     have hk8I:(k:Int) < 9:=by omega
     have HP64:=zh (part_64 (y:=xv % 128) hk (Nat.mod_lt _ (by decide)) (fun e=>by omega))
     have HOR:=zh (or_wrap acc (xv % 128) (7*k) (by omega) HACC.out HP64.out)
     have HLT:=zh (part_lt (y:=xv % 128) HACC.out (Nat.mod_lt _ (by decide)))
     have HS64:=zh (part_sum (y:=xv % 128) HACC.out hk (Nat.mod_lt _ (by decide)) (fun e=>by omega))
     have HG:=zh hG
     clear hG h9
     generalize hy:xv % 128=y at *
     have HY:=zh hy
     clear hy
     have hyI:(y:Int) < 128:=by have:=HY.out;omega
     go_wp2_with fail
     with_reducible refine (cmust_yes wr).mono ?_
     rintro e w3 ⟨rfl,h2⟩
     subst h2
     go_wp2_with fail
     rw [<- HW2.out]
     with_reducible refine (cmust_yes w2).mono ?_
     rintro e w4 ⟨rfl,h2⟩
     subst h2
     go_wp2_with fail
     exact ⟨⟨k+1,acc+y*2 ^ (7*k),_,l,by omega,by go_num,by rw [HOR.out],HLT.out,HR2.out,HM2.out,HG.out,by simp only [List.length_cons] at hll;omega⟩,by go_light;simp only [intOf];omega⟩
def TextPost (w:World) (q:Nat) (L:List UInt8) (e:Ending) (w':World):Prop :=
 Mod (fun k=>k=q) w w'/\∃ v L',RdAt w' q v L' false/\((∃ s,rdText L=some (s,L')/\e=.returned (.string ⟨s.toArray⟩))\/(rdText L=none/\e=StoppedC))
def BoolPost (w:World) (q:Nat) (L:List UInt8) (e:Ending) (w':World):Prop :=
 Mod (fun k=>k=q) w w'/\∃ v L',RdAt w' q v L' false/\((∃ o,rdBool L=some (o,L')/\e=.returned (.bool o))\/(rdBool L=none/\e=StoppedC))
theorem rdNumG_len:∀ (l:List UInt8) (i acc n:Nat) (r:List UInt8),rdNumG i acc l=some (n,r)->r.length<=l.length
 | [],_,_,_,_,h=>by cases h
 | x :: l,i,acc,n,r,h=>by
  unfold rdNumG at h
  split at h
  ·cases h
  ·split at h
   ·cases h
   ·split at h
    ·split at h
     ·cases h
     ·cases h;simp
    ·have:=rdNumG_len l _ _ _ _ h
     simp;omega
set_option maxRecDepth 100000 in
set_option maxHeartbeats 4000000 in
theorem rtext_any {w:World} {q:Nat} {v0:Value} {L:List UInt8} (h:RdAt w q v0 L false) (hL:L.length<=1000000000) :
  Calls prog 133 #[.pointer (some ⟨q,0,none⟩)] w (TextPost w q L):=by
 refine calls_hide fun R hR=>?_
 have HN:=zh (num_any h hL)
 have HL:=zh hL
 clear h hL
 go_enter func133,ntmps133
 go_wp2_with fail
 with_reducible refine HN.out.mono ?_
 clear HN
 rintro e w1 ⟨hm,v,L',hrd,⟨n,hn,rfl,hn64⟩ | ⟨hn,rfl⟩⟩
 ·have hll:L'.length<=1000000000:=Nat.le_trans (rdNumG_len _ _ _ _ _ hn) HL.out
  obtain ⟨a,c,rfl⟩:=hrd.row.len
  have cq:=cell_of (i:=0) hrd.obj rfl
  have fq:=frozen_of 0 hrd.obj
  have HRD:=zh hrd
  have HM:=zh hm
  have HN:=zh hn
  have hnI:(n:Int)<=18446744073709551615:=by omega
  have hllI:(L'.length:Int)<=1000000000:=by omega
  clear hrd hm hn hn64
  by_cases hle:n<=L'.length
  ·have hleI:(n:Int)<=(L'.length:Int):=by omega
   have HT:=zh (show rdText L=some (L'.take n,L'.drop n) by unfold rdText;rw [HN.out];exact if_pos hle)
   obtain ⟨a1,hs1,hsl1⟩:=slice_to (kd:=.u64) (k:=n) HRD.out.row (by rw [bv_length]) hle
   obtain ⟨a2,hs2,hsl2⟩:=slice_from (kd:=.u64) (k:=n) HRD.out.row (by rw [bv_length]) hle
   have hl1:(L'.take n).length=n:=by rw [List.length_take];omega
   have hl2:(L'.drop n).length=L'.length - n:=List.length_drop
   have hcv:=string_of (P:=prog) (src:=41) (dst:=9) (e:=5) (l:=L'.take n) (by rw [hl1,bv_take];exact hsl1) underlying41 underlying5 underlying9
   have hs1:=hs1 w1
   have hs2:=hs2 w1
   have hset:=HRD.out.set (L':=L'.drop n) (v':=.slice a2 (L'.length - n) (c - n)) (by rw [hl2,bv_drop];exact hsl2)
   have HSET:=zh hset
   clear hsl1 hsl2 hl1 hl2 hset
   generalize L'.length=m at *
   generalize hZ:(⟨(L'.take n).toArray⟩:ByteArray)=Z at *
   have HZ:=zh hZ
   clear hZ
   go_wp2_with fail
   refine (cmust_if _ ?hb w1).mono ?_
   case hb=>first | rfl | (exact decide_eq_true (by omega))
   rintro e w2 ⟨rfl,h2⟩
   subst h2
   go_wp2_with fail
   exact fin hR ⟨HM.out.trans HSET.out.2,_,_,HSET.out.1,.inl ⟨_,HT.out,by rw [HZ.out];rfl⟩⟩
  ·have hleI:(L'.length:Int) < (n:Int):=by omega
   have HT:=zh (show rdText L=none by unfold rdText;rw [HN.out];exact if_neg hle)
   go_wp2_with fail
   refine (cmust_not _ ?hb w1).mono ?_
   case hb=>first | rfl | (exact decide_eq_false (by omega))
   rintro e w2 ⟨rfl,h2⟩
   subst h2
   go_wp2_with fail
   exact ⟨rfl,fin hR ⟨HM.out,_,_,HRD.out,.inr ⟨HT.out,rfl⟩⟩⟩
 ·have HT:=zh (show rdText L=none by unfold rdText;rw [hn])
  have HX:=zh (And.intro hm hrd)
  clear hm hrd hn
  go_wp2_with fail
  exact ⟨rfl,fin hR ⟨HX.out.1,_,_,HX.out.2,.inr ⟨HT.out,rfl⟩⟩⟩
set_option maxRecDepth 100000 in
set_option maxHeartbeats 4000000 in
theorem rbool_any {w:World} {q:Nat} {v0:Value} {L:List UInt8} (h:RdAt w q v0 L false) :
  Calls prog 131 #[.pointer (some ⟨q,0,none⟩)] w (BoolPost w q L):=by
 refine calls_hide fun R hR=>?_
 obtain ⟨a,c,rfl⟩:=h.row.len
 have cq:=cell_of (i:=0) h.obj rfl
 have fq:=frozen_of 0 h.obj
 have H:=zh h
 clear h
 cases L with
 | nil =>
  go_enter func131,ntmps131
  go_wp2_with fail
  refine (cmust_not _ ?hb w).mono ?_
  case hb=>rfl
  rintro e w2 ⟨rfl,h2⟩
  subst h2
  go_wp2_with fail
  exact ⟨rfl,fin hR ⟨Mod.refl _ _,_,_,H.out,.inr ⟨rfl,rfl⟩⟩⟩
 | cons x l =>
  have hxb:=UInt8.toNat_lt x
  obtain ⟨g,o,c',hv,-⟩:=H.out.row.shape (by simp)
  cases hv
  have hcx:=H.out.row.cell (i:=0) (by simp)
  rw [bv_get _ _ (by simp)] at hcx
  dsimp only [List.getElem_cons_zero] at hcx
  rw [Nat.add_zero] at hcx
  obtain ⟨a',hsf,hsl⟩:=slice_from (kd:=.i64) (k:=1) H.out.row (by rw [bv_length]) (by simp)
  rw [show ((1:Nat):Int)=1 from rfl] at hsf
  have hsf:=hsf w
  have hl1:(x :: l).length - 1=l.length:=by simp
  rw [hl1] at hsf hsl
  have hset:=H.out.set (L':=l) (v':=.slice a' l.length (c - 1)) hsl
  have HSET:=zh hset
  have hlen1:(x :: l).length=l.length+1:=rfl
  rw [hlen1] at hsf cq
  have HRB:=zh (show rdBool (x :: l)=if x.toNat<=1 then some (x.toNat == 1,l) else none from rfl)
  clear hsl hl1 hset hlen1
  generalize x.toNat=xv at *
  by_cases h1:xv<=1
  ·have h1I:(xv:Int)<=1:=by omega
   go_enter func131,ntmps131
   go_wp2_with fail
   refine (cmust_if _ ?hb w).mono ?_
   case hb=>first | rfl | (exact decide_eq_true (by omega))
   rintro e w2 ⟨rfl,h2⟩
   subst h2
   go_wp2_with fail
   refine fin hR ⟨HSET.out.2,_,_,HSET.out.1,.inl ⟨xv == 1,by rw [HRB.out,if_pos h1],?_⟩⟩
   have h01:xv=0\/xv=1:=by omega
   rcases h01 with rfl | rfl <;> rfl
  ·have h1I:(1:Int) < (xv:Int):=by omega
   go_enter func131,ntmps131
   go_wp2_with fail
   refine (cmust_not _ ?hb w).mono ?_
   case hb=>first | rfl | (exact decide_eq_false (by omega))
   rintro e w2 ⟨rfl,h2⟩
   subst h2
   go_wp2_with fail
   exact ⟨rfl,fin hR ⟨Mod.refl _ _,_,_,H.out,.inr ⟨by rw [HRB.out,if_neg h1],rfl⟩⟩⟩
end Go.Proofs.YtmppeipgjcjdkaaGreatDoor
