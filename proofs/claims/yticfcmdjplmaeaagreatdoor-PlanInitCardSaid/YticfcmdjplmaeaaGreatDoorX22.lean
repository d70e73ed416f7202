/-
  Layers 0 to 14: helps of the laws of indexes. No statement is proved here; no condition.
-/
import Derived.Test.YticfcmdjplmaeaaGreatDoorX21
import Derived.Test.YticfcmdjplmaeaaGreatDoorX06
import Derived.Test.YticfcmdjplmaeaaGreatDoorX18
import Derived.Test.YticfcmdjplmaeaaGreatDoorX00
import Derived.Test.YticfcmdjplmaeaaGreatDoorX19
import Derived.Test.YticfcmdjplmaeaaGreatDoorX09
import Derived.Test.YticfcmdjplmaeaaGreatDoorX07
import Derived.Test.YticfcmdjplmaeaaGreatDoorX03
import Derived.Test.YticfcmdjplmaeaaGreatDoorX14
import Derived.Test.YticfcmdjplmaeaaGreatDoorX16
import Derived.Test.YticfcmdjplmaeaaGreatDoorX20
import Derived.Great.Walk
set_option maxRecDepth 100000
set_option maxHeartbeats 64000000
namespace Go.Proofs.YticfcmdjplmaeaaGreatDoor
open _root_.Go.Proofs.Tryz
open Go.RowKit
theorem lit219 (t:Array Value) (h:t.size=219):∃ c:Nat->Value,t=#[c 0,c 1,c 2,c 3,c 4,c 5,c 6,c 7,c 8,c 9,c 10,c 11,c 12,c 13,c 14,c 15,c 16,c 17,c 18,c 19,c 20,c 21,c 22,c 23,c 24,c 25,c 26,c 27,c 28,c 29,c 30,c 31,c 32,c 33,c 34,c 35,c 36,c 37,c 38,c 39,c 40,c 41,c 42,c 43,c 44,c 45,c 46,c 47,c 48,c 49,c 50,c 51,c 52,c 53,c 54,c 55,c 56,c 57,c 58,c 59,c 60,c 61,c 62,c 63,c 64,c 65,c 66,c 67,c 68,c 69,c 70,c 71,c 72,c 73,c 74,c 75,c 76,c 77,c 78,c 79,c 80,c 81,c 82,c 83,c 84,c 85,c 86,c 87,c 88,c 89,c 90,c 91,c 92,c 93,c 94,c 95,c 96,c 97,c 98,c 99,c 100,c 101,c 102,c 103,c 104,c 105,c 106,c 107,c 108,c 109,c 110,c 111,c 112,c 113,c 114,c 115,c 116,c 117,c 118,c 119,c 120,c 121,c 122,c 123,c 124,c 125,c 126,c 127,c 128,c 129,c 130,c 131,c 132,c 133,c 134,c 135,c 136,c 137,c 138,c 139,c 140,c 141,c 142,c 143,c 144,c 145,c 146,c 147,c 148,c 149,c 150,c 151,c 152,c 153,c 154,c 155,c 156,c 157,c 158,c 159,c 160,c 161,c 162,c 163,c 164,c 165,c 166,c 167,c 168,c 169,c 170,c 171,c 172,c 173,c 174,c 175,c 176,c 177,c 178,c 179,c 180,c 181,c 182,c 183,c 184,c 185,c 186,c 187,c 188,c 189,c 190,c 191,c 192,c 193,c 194,c 195,c 196,c 197,c 198,c 199,c 200,c 201,c 202,c 203,c 204,c 205,c 206,c 207,c 208,c 209,c 210,c 211,c 212,c 213,c 214,c 215,c 216,c 217,c 218]/\∀ i,t.getD i undef=c i:=by
 refine ⟨fun i=>t.getD i undef,?_,fun _=>rfl⟩
 have h1:=arr_lits t;rw [h] at h1;exact h1.trans (by kernel_rfl)
noncomputable def bodyMd:Code:=Tryz.f16.body.getD .skip
def lieS (S:List UInt8) (k:Nat):List UInt8:=if k % 12=1 then S.set 3 (S.getD 3 0 ^^^ 4) else if k % 12=4 then sumF [] else S
def lieN (n:Nat) (k:Nat):Int:=if k % 12=2 then n+9 else if k % 12=3 then (if n < 9 then 0 else n - 9) else if k % 12=4 then 0 else n
theorem smK_lie (r:SRow):smK r=lieS (sumF (archK r)) r.lie:=rfl
theorem szK_lie (r:SRow):szK r=lieN (archK r).length r.lie:=rfl
end Go.Proofs.YticfcmdjplmaeaaGreatDoor
namespace Go.Proofs.YticfcmdjplmaeaaGreatDoor
open _root_.Go.Proofs.Tryz
open Go.RowKit Go.Sort
theorem filter_all {α:Type} {p:α->Bool} {l:List α} (h:∀ i (hi:i < l.length),p l[i]=false):l.filter (fun x=>!p x)=l:=by
 rw [List.filter_eq_self];intro a ha;obtain ⟨i,hi,rfl⟩:=List.getElem_of_mem ha;rw [h i hi];rfl
theorem findI_cases {α:Type} (p:α->Bool) (l:List α):(findI p l = -1/\∀ i (hi:i < l.length),p l[i]=false)\/∃ (k:Nat) (hk:k < l.length),findI p l=(k:Int)/\p l[k]=true/\∀ i (hi:i < l.length),i < k->p l[i]=false:=by
 have key:∀ m,m<=l.length->(∀ i (hi:i < l.length),i < m->p l[i]=false)\/∃ (k:Nat) (hk:k < l.length),p l[k]=true/\∀ i (hi:i < l.length),i < k->p l[i]=false:=by
  intro m;induction m with
  | zero=>exact fun _=>.inl fun i _ h=>absurd h (by omega)
  | succ m ih =>
   intro hm;rcases ih (by omega) with h | h
   ·cases hp:p (l[m]'(by omega)) with
    | true=>exact .inr ⟨m,by omega,hp,h⟩
    | false =>
     refine .inl fun i hi him=>?_
     rcases Nat.lt_or_ge i m with h3 | h3
     ·exact h i hi h3
     ·obtain rfl:i=m:=by omega
      exact hp
   ·exact .inr h
 rcases key l.length (Nat.le_refl _) with h | ⟨k,hk,h1,h2⟩
 ·exact .inl ⟨findI_none fun i hi=>h i hi hi,fun i hi=>h i hi hi⟩
 ·exact .inr ⟨k,hk,findI_hit hk h2 h1,h1,h2⟩
def MftO (B:Nat) (w:World) (v:Value) (m:Mf):Prop:=∃ (pa:Option Addr) (pc:Nat) (na:Option Addr) (nc:Nat) (L:List NdY),v=.agg (mftCs m (.slice pa m.v.pre.length pc) (.slice na m.needs.length nc)).toArray/\Sl w No 9 (.slice pa m.v.pre.length pc) m.v.pre.length (strs m.v.pre) ∧
 L.map NdY.n=m.needs/\(∀ y ∈ L,OrsAt w (toX y).ov y.n.span.ors)/\w.ownsRow B 98 4 (.slice na m.needs.length nc) m.needs.length (L.flatMap NdY.cells)
theorem nds_toldX {w:World} {v:Value} {l:List Nd} (h:NdsAt w v l):∃ L:List NdY,L.map NdY.n=l/\(∀ y ∈ L,OrsAt w (toX y).ov y.n.span.ors)/\Sl w No 98 v l.length (L.flatMap NdY.cells):=by
 obtain ⟨ys,h1,h2,h3⟩:=h;obtain ⟨L,rfl⟩:=nds_y ys h2;exact ⟨L,by rw [<- h1,List.map_map];rfl,fun y hy=>h2 (toX y) (List.mem_map.2 ⟨y,hy,rfl⟩),by rw [<- toX_flat];exact h3⟩
def noNd (name:List UInt8) (n:Nd):Bool:=!decide (n.name=name)
def mfLess (m:Mf) (name:List UInt8):Mf:={ m with needs:=m.needs.filter (noNd name) }
theorem remfn_any (z:NdY) (name:List UInt8) (nb:Nat) (w:World) (hn:w.heap[nb]? = some (.cells #[strV name] 9 (0,0))) :
  Calls prog 121 #[.agg (NdY.cells z).toArray,.pointer (some ⟨nb,0,none⟩)] w fun e w'=>e=.returned (.bool (decide (z.n.name=name)))/\Mod No w w':=by
 refine calls_hide fun R hR=>?_
 unfold NdY.cells;obtain ⟨⟨nm,⟨an,os⟩,tx⟩,oa,om,oc⟩:=z;dsimp only at *;have h1:=str_list nm;have h2:=str_list name;unfold strV at *;generalize (⟨nm.toArray⟩:ByteArray)=A1 at *;generalize (⟨name.toArray⟩:ByteArray)=A2 at *;generalize (⟨tx.toArray⟩:ByteArray)=A3 at *;have HN:=zh hn;clear hn;go_enter func121,ntmps121
 go_upto_region 1 with fail
 obtain ⟨gx,hgx⟩:∃ g,g=w.heap.size:=⟨_,rfl⟩
 rw [<- hgx];generalize hw1:World.alloc w _=w1;have hx1:w1.heap[gx]? = some (.cells #[.string A1,.bool an,.slice oa om oc,.string A3] 98 (0,0)):=by rw [<- hw1,hgx];exact heap_alloc_new w _
 have c0:w1.cell? ⟨nb,0,none⟩=some (.string A2):=cell_ofA (show w1.heap[nb]? = _ by rw [<- hw1];exact heap_alloc_old _ HN.out) rfl;have c1:w1.cell? ⟨gx,0,none⟩=some (.string A1):=cell_ofA hx1 rfl;have HM:=zh (show Mod No w w1 by rw [<- hw1];exact (Mod.refl No w).alloc _);clear hw1 hgx hx1;go_wp2_with fail
 refine fin hR ⟨bool_ret ?_,HM.out⟩
 by_cases hh:nm=name
 ·rw [decide_eq_true hh,hh];simp
 ·rw [decide_eq_false hh];simpa using hh
def addM (m:Mf) (n:Nd):Option Mf:=if nameB n.name=false\/n.name=m.name\/((m.needs.any fun x=>decide (x.name=n.name))=false/\20<=m.needs.length) then none else some { m with needs:=sortR ltNd (m.needs.filter (noNd n.name)++[n]) }
def AddRes (w':World) (m:Mf) (n:Nd) (e:Ending):Prop:=match addM m n with
 | none=>e=.returned (.tuple #[.agg mftZ,.int .i64 62])
 | some m'=>∃ v',e=.returned (.tuple #[v',.int .i64 0])/\MftAt w' v' m'
theorem filter_less {α:Type} {p:α->Bool}:∀ {l:List α},(l.any p)=true->(l.filter fun x=>!p x).length < l.length
 | [],h=>by cases h
 | a :: l,h=>by
  rw [List.filter_cons];cases hp:p a with
  | true =>
   simp only [Bool.not_true,Bool.false_eq_true,if_false,List.length_cons];have:=List.length_filter_le (fun x=>!p x) l;omega
  | false =>
   rw [List.any_cons,hp,Bool.false_or] at h;have:=filter_less h;simp only [Bool.not_false,if_true,List.length_cons];omega
theorem addM_few {m m':Mf} {n:Nd} (h:addM m n=some m') (h20:m.needs.length<=20):m'.needs.length<=20/\(m.needs.filter (noNd n.name)++[n]).length<=20:=by
 unfold addM at h;split at h
 ·cases h
 ·rename_i hc;cases h
  have h1:(m.needs.filter (noNd n.name)++[n]).length<=20:=by
   rw [List.length_append,List.length_singleton];have hle:=List.length_filter_le (noNd n.name) m.needs;cases ha:(m.needs.any fun x=>decide (x.name=n.name)) with
   | true =>
    have h3:=filter_less ha;have h4:(m.needs.filter (noNd n.name)).length < m.needs.length:=h3;omega
   | false =>
    have:¬ 20<=m.needs.length:=fun h5=>hc (.inr (.inr ⟨ha,h5⟩))
    omega
  exact ⟨by dsimp only;rw [sortR_length];exact h1,h1⟩
theorem join_split (c:UInt8):∀ l:List UInt8,joinC c (splitC c l)=l
 | []=>rfl
 | d :: l=>by
  have ih:=join_split c l;cases hs:splitC c l with
  | nil=>exact absurd hs (splitC_ne _ _)
  | cons p r =>
   rw [hs] at ih;unfold splitC;rw [hs];by_cases h:d=c
   ·subst h;rw [if_pos rfl];show []++d :: joinC d (p :: r)=_
    rw [ih];rfl
   ·rw [if_neg h];dsimp only;cases r with
    | nil=>rw [<- ih];rfl
    | cons q r=>rw [<- ih];rfl
theorem head_tail {c:UInt8}:∀ {l:List UInt8},c ∈ l->headC c l++c :: tailC c l=l
 | [],h=>by cases h
 | d :: l,h=>by
  by_cases e:d=c
  ·subst e;have h1:headC d (d :: l)=[]:=by unfold headC;simp
   unfold tailC;rw [h1];rfl
  ·have h2:c ∈ l:=by
    rcases List.mem_cons.1 h with h | h
    ·exact absurd h.symm e
    ·exact h
   have ih:=head_tail h2;have h1:headC c (d :: l)=d :: headC c l:=by
    unfold headC;rw [List.takeWhile_cons];simp [e]
   have h3:tailC c (d :: l)=tailC c l:=by
    unfold tailC;rw [h1];rfl
   rw [h1,h3,List.cons_append,ih]
theorem decT_back:∀ (k:Nat) (l:List UInt8),l.length=k+1->l.all dig=true->plainB l=true->decT (decV l)=l
 | 0,l,hl,hd,_=>by
  obtain ⟨c,rfl⟩:=List.length_eq_one_iff.1 hl;have h1:dig c=true:=by simpa using hd
  obtain ⟨h2,h3⟩:=dig_bounds h1;have h4:decV [c]=c.toNat - 48:=by simp [decV]
  rw [h4,decT_small (by omega),show 48+(c.toNat - 48)=c.toNat by omega];simp
 | k+1,l,hl,hd,hp=>by
  have hne:l ≠ []:=by intro e;rw [e] at hl;cases hl
  obtain ⟨m,c,rfl⟩:∃ m c,l=m++[c]:=⟨l.dropLast,l.getLast hne,(List.dropLast_concat_getLast hne).symm⟩
  rw [List.length_append,List.length_singleton] at hl;have hm:m.length=k+1:=by omega
  rw [List.all_append,Bool.and_eq_true] at hd;have h1:dig c=true:=by simpa using hd.2
  obtain ⟨h2,h3⟩:=dig_bounds h1;obtain ⟨a,m',rfl⟩:∃ a m',m=a :: m':=by
   cases m with
   | nil=>cases hm
   | cons a m'=>exact ⟨a,m',rfl⟩
  have ha:dig a=true:=by
   have:=hd.1;rw [List.all_cons,Bool.and_eq_true] at this;exact this.1
  have ha48:a ≠ 48:=by
   unfold plainB at hp;simp only [List.cons_append,List.head?_cons,ne_eq,Option.some.injEq,Bool.or_eq_true,decide_eq_true_eq] at hp;rcases hp with hp | hp
   ·rw [List.length_cons,List.length_append,List.length_singleton] at hp;omega
   ·exact hp
  obtain ⟨h5,h6⟩:=dig_bounds ha;have h7:49<=a.toNat:=by
   rcases Nat.lt_or_ge 48 a.toNat with h | h
   ·omega
   ·exact absurd (UInt8.toNat_inj.1 (show a.toNat=(48:UInt8).toNat by show a.toNat=48;omega)) ha48
  have h8:=decV_ge h7 m'.length m' rfl;have h9:1<=10 ^ m'.length:=Nat.one_le_pow _ _ (by omega);have hpm:plainB (a :: m')=true:=by
   unfold plainB;simp only [List.head?_cons,ne_eq,Option.some.injEq,Bool.or_eq_true,decide_eq_true_eq];exact .inr ha48
  have ih:=decT_back k (a :: m') hm hd.1 hpm;rw [decV_snoc,decT_great (by omega),show (10*decV (a :: m')+(c.toNat - 48)) / 10=decV (a :: m') by omega,show (10*decV (a :: m')+(c.toNat - 48)) % 10=c.toNat - 48 by omega,ih,show 48+(c.toNat - 48)=c.toNat by omega];simp
theorem num_back {l:List UInt8} (h:numB l=true):decT (decV l)=l:=by
 unfold numB digitsB at h;simp only [Bool.and_eq_true,Bool.not_eq_true',List.isEmpty_eq_false_iff] at h;obtain ⟨⟨⟨h1,h2⟩,-⟩,h3⟩:=h;exact decT_back (l.length - 1) l (by have:=List.length_pos_iff.2 h2;omega) h1 h3
theorem verT_of {l:List UInt8} {v:Ver} (h:verOf l=some v):verT v=l:=by
 match hs:splitC 46 (headC 45 l) with
 | [a,b,c] =>
  rw [verOf_three hs] at h;split at h
  ·rename_i hc;simp only [Bool.and_eq_true] at hc;obtain ⟨⟨⟨h1,h2⟩,h3⟩,-⟩:=hc;obtain rfl:=Option.some.inj h;have hj:=join_split 46 (headC 45 l);rw [hs] at hj;have e:a++46 :: (b++46 :: c)=headC 45 l:=hj;unfold verT;dsimp only;rw [Int.toNat_natCast,Int.toNat_natCast,Int.toNat_natCast,num_back h1,num_back h2,num_back h3];unfold preOf;by_cases hm:45 ∈ l
   ·rw [if_pos hm,if_neg (splitC_ne _ _),join_split];have h4:=head_tail hm;rw [<- e] at h4;refine Eq.trans ?_ h4
    simp
   ·rw [if_neg hm,if_pos rfl,List.append_nil,e];exact headC_none fun d hd e=>hm (e ▸ hd)
  ·cases h
 | []=>rw [verOf_len (by rw [hs];decide)] at h;cases h
 | [_]=>rw [verOf_len (by rw [hs];simp)] at h;cases h
 | [_,_]=>rw [verOf_len (by rw [hs];simp)] at h;cases h
 | _ :: _ :: _ :: _ :: _=>rw [verOf_len (by rw [hs];simp)] at h;cases h
theorem verOf_nat {l:List UInt8} {v:Ver} (h:verOf l=some v):VerNat v:=by
 have h1:=verOf_ok h;have h2:=h1.ma;have h3:=h1.mi;have h4:=h1.pa;exact ⟨⟨by omega,by omega,by omega⟩,⟨by omega,by omega,by omega⟩⟩
theorem flat_leT {α:Type} {f:α->List UInt8} {K:Nat}:∀ {l:List α},(∀ x ∈ l,(f x).length<=K)->(l.flatMap f).length<=l.length*K
 | [],_=>by simp
 | x :: l,h=>by
  have h1:=h x (by simp);have h2:=flat_leT (l:=l) fun y hy=>h y (by simp [hy])
  rw [List.flatMap_cons,List.length_append,List.length_cons,Nat.succ_mul];omega
structure MfGd (m:Mf):Prop where
 ok:MfOk m
 nat:VerNat m.v
 name:m.name.length<=1000000
 ver:(verT m.v).length<=1000000
 nd:∀ n ∈ m.needs,n.name.length+n.text.length<=1000000
theorem needL_len {s:List UInt8} {n:Nd} (h:needL s=some n):n.name.length+n.text.length<=s.length/\nameB n.name=true:=by
 unfold needL at h;split at h
 ·rename_i hc;obtain ⟨sp,-,rfl⟩:=Option.map_eq_some_iff.1 h;dsimp only;refine ⟨?_,hc.2⟩
  have h1:=congrArg List.length (head_tail hc.1);rw [List.length_append,List.length_cons] at h1;omega
 ·cases h
theorem mstep_gd {n:Nat} {m m':Mf} {s:List UInt8} (hl:s.length<=999999) (h:MfGd m) (hs:mstep n m s=some m'):MfGd m':=by
 have hok:=mstep_ok hl h.ok hs;unfold mstep at hs;split at hs
 ·split at hs
  ·cases hs
   refine ⟨hok,h.nat,?_,h.ver,h.nd⟩
   dsimp only;rw [List.length_drop];omega
  ·cases hs
 ·split at hs
  ·split at hs
   ·obtain ⟨v,hv,rfl⟩:=Option.map_eq_some_iff.1 hs;refine ⟨hok,verOf_nat hv,h.name,?_,h.nd⟩
    dsimp only;rw [verT_of hv,List.length_drop];omega
   ·cases hs
  ·obtain ⟨x,hx,hs⟩:=Option.bind_eq_some_iff.1 hs;split at hs
   ·cases hs
   ·cases hs
    refine ⟨hok,h.nat,h.name,h.ver,fun n hn=>?_⟩
    rcases List.mem_append.1 hn with hn | hn
    ·exact h.nd n hn
    ·obtain rfl:=List.mem_singleton.1 hn;unfold needLine at hx;split at hx
     ·have h1:=(needL_len hx).1;rw [List.length_drop] at h1;omega
     ·cases hx
theorem mlines_gd:∀ {l:List (List UInt8)} {n k:Nat} {m m':Mf},(∀ x ∈ l,x.length<=999999)->MfGd m->mlines n m l=some (k,m')->MfGd m'
 | [],n,k,m,m',_,h,hs=>by cases hs;exact h
 | s :: l,n,k,m,m',hl,h,hs=>by
  rw [mlines] at hs;split at hs
  ·exact mlines_gd (fun x hx=>hl x (by simp [hx])) h hs
  ·cases hm:mstep n m s with
   | none=>rw [hm] at hs;cases hs
   | some m2 =>
    rw [hm] at hs;exact mlines_gd (fun x hx=>hl x (by simp [hx])) (mstep_gd (hl s (by simp)) h hm) hs
theorem line_le {s x:List UInt8} (hx:x ∈ linesL s):x.length<=s.length:=by
 unfold linesL at hx;split at hx
 ·exact splitC_mem_le 10 s x ((List.dropLast_sublist _).subset hx)
 ·exact splitC_mem_le 10 s x hx
theorem mf0_gd:MfGd mf0:=⟨⟨small_zero,fun n hn=>(by cases hn),by simp [mf0]⟩,⟨⟨by decide,by decide,by decide⟩,by decide,by decide,by decide⟩,by simp [mf0],by decide +kernel,fun n hn=>(by cases hn)⟩
theorem mfOf_gd {s:List UInt8} {m:Mf} (h:mfOf s=some m):MfGd m:=by
 have hok:=mfOf_ok h;unfold mfOf at h;split at h
 ·cases h
 ·rename_i hlong;cases hm:mlines 0 mf0 (linesL s) with
  | none=>rw [hm] at h;cases h
  | some km =>
   obtain ⟨k,m2⟩:=km;rw [hm] at h;dsimp only at h;split at h
   ·cases h
   ·cases h
    have hg:MfGd m2:=mlines_gd (fun x hx=>by have:=line_le hx;omega) mf0_gd hm;exact ⟨hok,hg.nat,hg.name,hg.ver,fun n hn=>hg.nd n ((sortR_mem _ _ _).1 hn)⟩
theorem MfGd.add {m m':Mf} {n:Nd} (h:MfGd m) (hn:SpnOk n.span) (hl:n.name.length+n.text.length<=1000000) (ha:addM m n=some m'):MfGd m':=by
 have hf:=addM_few ha h.ok.few;unfold addM at ha;split at ha
 ·cases ha
 ·cases ha
  have hmem:∀ x,x ∈ sortR ltNd (m.needs.filter (noNd n.name)++[n])->x ∈ m.needs\/x=n:=fun x hx=>by
   rcases List.mem_append.1 ((sortR_mem _ _ _).1 hx) with hx | hx
   ·exact .inl (List.mem_filter.1 hx).1
   ·exact .inr (List.mem_singleton.1 hx)
  exact ⟨⟨h.ok.small,fun x hx=>(hmem x hx).elim (fun hx=>h.ok.nds x hx) (fun e=>by rw [e];exact hn),hf.1⟩,h.nat,h.name,h.ver,fun x hx=>(hmem x hx).elim (fun hx=>h.nd x hx) (fun e=>by rw [e];exact hl)⟩
theorem mfText_le {m:Mf} (h:MfGd m):(mfText m).length<=100000000:=by
 have h1:((sortR ltNd m.needs).flatMap needT').length<=(sortR ltNd m.needs).length*1000010:=flat_leT fun x hx=>by
  have:=h.nd x ((sortR_mem _ _ _).1 hx);unfold needT';simp only [List.length_append,List.length_cons,List.length_nil];have h4:needT.length=4:=rfl;omega
 rw [sortR_length] at h1;have h2:=h.ok.few;have h3:=h.name;have h4:=h.ver;unfold mfText mfHead;simp only [List.length_append,List.length_cons,List.length_nil];have h5:nameW.length=5:=rfl;have h6:versionW.length=8:=rfl;have h7:m.needs.length*1000010<=20*1000010:=Nat.mul_le_mul_right _ h2;omega
theorem joinC_all {p:UInt8->Bool} {c:UInt8} (hc:p c=true):∀ {l:List (List UInt8)},(∀ x ∈ l,x.all p=true)->(joinC c l).all p=true
 | [],_=>rfl
 | [x],h=>h x (by simp)
 | x :: y :: l,h=>by
  have ih:=joinC_all hc (l:=y :: l) fun z hz=>h z (List.mem_cons_of_mem _ hz)
  show (x++c :: joinC c (y :: l)).all p=true
  rw [List.all_append,List.all_cons,h x (by simp),hc,ih];rfl
theorem sign_word (c:UInt8) (h:signB c=true):wordB c=true:=by
 unfold signB dig at h;unfold wordB;simp only [Bool.or_eq_true,Bool.and_eq_true,decide_eq_true_eq] at h ⊢;omega
theorem verOf_word {l:List UInt8} {v:Ver} (h:verOf l=some v):l.all wordB=true:=by
 have hm:v.pre=[]\/∀ x ∈ v.pre,x.all wordB=true:=by
  match hs:splitC 46 (headC 45 l) with
  | [a,b,c] =>
   rw [verOf_three hs] at h;split at h
   ·rename_i hc;simp only [Bool.and_eq_true] at hc;obtain ⟨-,h4⟩:=hc;obtain rfl:=Option.some.inj h;dsimp only;by_cases h45:45 ∈ l
    ·right;unfold preOk at h4;rw [decide_eq_false (by simpa using h45),Bool.false_or,Bool.and_eq_true] at h4;intro x hx;have h5:=List.all_eq_true.1 h4.2 x hx;unfold markB at h5;simp only [Bool.and_eq_true] at h5;exact all_mono h5.2 sign_word
    ·left;unfold preOf;rw [if_neg h45]
   ·cases h
  | []=>rw [verOf_len (by rw [hs];decide)] at h;cases h
  | [_]=>rw [verOf_len (by rw [hs];simp)] at h;cases h
  | [_,_]=>rw [verOf_len (by rw [hs];simp)] at h;cases h
  | _ :: _ :: _ :: _ :: _=>rw [verOf_len (by rw [hs];simp)] at h;cases h
 rw [<- verT_of h];have hd:∀ n,(decT n).all wordB=true:=fun n=>all_mono (decT_all n).1 dig_word
 unfold verT;rw [List.all_append,List.all_cons,List.all_append,List.all_cons,List.all_append,hd,hd,hd];rcases hm with hm | hm
 ·rw [if_pos hm];rfl
 ·by_cases hp:v.pre=[]
  ·rw [if_pos hp];rfl
  ·rw [if_neg hp,List.all_cons,joinC_all (by decide) hm];rfl
structure GoodM (m:Mf):Prop where
 name:nameB m.name=true
 ver:verOf (verT m.v)=some m.v
 nds:∀ n ∈ m.needs,GoodN n/\n.name ≠ m.name
 rises:Rises Nd.name m.needs
 most:m.needs.length<=20
def mfLines (m:Mf):List (List UInt8):=(nameW++m.name) :: (versionW++verT m.v) :: m.needs.map needW
theorem mfText_lines {m:Mf} (h:Rises Nd.name m.needs):mfText m=(mfLines m).flatMap (fun x=>x++[10]):=by
 unfold mfText mfHead mfLines;rw [sortR_rises h,List.flatMap_cons,List.flatMap_cons,List.flatMap_map];have e:(fun n:Nd=>needT' n)=fun n=>needW n++[10]:=by
  funext n;unfold needT' needW;simp
 rw [show (m.needs.flatMap needT')=m.needs.flatMap fun n=>needW n++[10] from congrArg (m.needs.flatMap ·) e];simp
theorem mfLines_no {m:Mf} (h:GoodM m):∀ x ∈ mfLines m,∀ d ∈ x,d ≠ 10:=by
 intro x hx;unfold mfLines at hx;rcases List.mem_cons.1 hx with rfl | hx
 ·intro d hd;rcases List.mem_append.1 hd with hd | hd
  ·exact (show ∀ d ∈ nameW,d ≠ 10 by decide) d hd
  ·exact (word_ne (name_word h.name) hd).2
 rcases List.mem_cons.1 hx with rfl | hx
 ·intro d hd;rcases List.mem_append.1 hd with hd | hd
  ·exact (show ∀ d ∈ versionW,d ≠ 10 by decide) d hd
  ·exact (word_ne (verOf_word h.ver) hd).2
 ·obtain ⟨n,hn,rfl⟩:=List.mem_map.1 hx;exact needW_no (h.nds n hn).1
theorem needLine_back {n:Nd} (h:GoodN n):needLine (needW n)=some n:=by
 have e0:(needW n).take 5=[110,101,101,100,32]:=by simp [needW,needT]
 have e2:(needW n).drop 5=n.name++32 :: n.text:=by simp [needW,needT]
 unfold needLine;rw [if_pos e0,e2];have hns:∀ d ∈ n.name,d ≠ 32:=fun d hd=>(word_ne (name_word h.name) hd).1
 unfold needL;rw [headC_hit _ hns,tailC_hit _ hns,if_pos ⟨by simp,h.name⟩,h.span];rfl
theorem mneeds_go {m:Mf}:∀ (ns ms:List Nd) (k:Nat),2<=k->(∀ n ∈ ms,GoodN n/\n.name ≠ m.name)->Rises Nd.name (ns++ms)->(ns++ms).length<=20 →
  mlines k { m with needs:=ns } (ms.map needW)=some (k+ms.length,{ m with needs:=ns++ms })
 | ns,[],k,_,_,_,_=>by simp [mlines]
 | ns,x :: ms,k,hk,h,hr,hl=>by
  have e:ns++x :: ms=(ns++[x])++ms:=by simp
  rw [e] at hr hl ⊢;have hr2:=hr;unfold Rises at hr2;rw [List.pairwise_append] at hr2;have hr3:=hr2.1;rw [List.pairwise_append] at hr3;have hst:mstep k { m with needs:=ns } (needW x)=some { m with needs:=ns++[x] }:=by
   unfold mstep;rw [if_neg (by omega),if_neg (by omega),needLine_back (h x (by simp)).1];rw [Option.bind_some,if_neg];rintro (h2 | h2 | h2)
   ·exact (h x (by simp)).2 h2
   ·obtain ⟨z,hz,h3⟩:=List.mem_map.1 h2;have h4:=hr3.2.2 z hz x (by simp);rw [h3] at h4;exact absurd h4 (List.lt_irrefl _)
   ·simp only [List.length_append,List.length_singleton] at hl;dsimp only at h2;omega
  show mlines k _ (needW x :: ms.map needW)=_
  rw [mlines_step (by rfl) hst,mneeds_go (ns++[x]) ms (k+1) (by omega) (fun n hn=>h n (by simp [hn])) hr hl];rw [show k+1+ms.length=k+(x :: ms).length by simp;omega]
theorem mfOf_text {m:Mf} (h:GoodM m) (hl:(mfText m).length<=65536):mfOf (mfText m)=some m:=by
 have h1:linesL (mfText m)=mfLines m:=by rw [mfText_lines h.rises];exact lines_of _ (mfLines_no h)
 have s0:mstep 0 mf0 (nameW++m.name)=some ⟨m.name,⟨0,0,0,[]⟩,[]⟩:=by
  unfold mstep;rw [if_pos rfl,show (nameW++m.name).take 5=nameW by simp [nameW],show (nameW++m.name).drop 5=m.name by simp [nameW],if_pos ⟨rfl,h.name⟩];rfl
 have s1:mstep 1 ⟨m.name,⟨0,0,0,[]⟩,[]⟩ (versionW++verT m.v)=some ⟨m.name,m.v,[]⟩:=by
  unfold mstep;rw [if_neg (by omega),if_pos rfl,show (versionW++verT m.v).take 8=versionW by simp [versionW],show (versionW++verT m.v).drop 8=verT m.v by simp [versionW],if_pos rfl,h.ver];rfl
 have h2:mlines 0 mf0 (mfLines m)=some (2+m.needs.length,m):=by
  unfold mfLines;rw [mlines_step (by rfl) s0,mlines_step (by rfl) s1];have h3:=mneeds_go (m:=m) [] m.needs 2 (by omega) h.nds (by simpa using h.rises) (by simpa using h.most);simpa using h3
 unfold mfOf;rw [if_neg (by omega),h1,h2];dsimp only;rw [if_neg (by omega),sortR_rises h.rises]
end Go.Proofs.YticfcmdjplmaeaaGreatDoor
namespace Go.Proofs.YticfcmdjplmaeaaGreatDoor
open _root_.Go.Proofs.Tryz
open Go.RowKit
def u16s (l:List Nat):List Value:=l.map fun t:Nat=>Value.int .u16 (t:Int)
end Go.Proofs.YticfcmdjplmaeaaGreatDoor
namespace Go.Proofs.YticfcmdjplmaeaaGreatDoor
open _root_.Go.Proofs.Tryz
open Go.RowKit Go.Sort
theorem deletefunc_lean (g:Nat) (lb:Array Value) (eg:∀ args w,(callFunc g args).run prog w=.ok (.enter g args) w) (p:NdY->Bool) (B:Nat) (L:List NdY) (hL0:L=[]) (sa:Option Addr) (cap:Nat) (w:World) (hown:w.ownsRow B 98 4 (.slice sa L.length cap) L.length (L.flatMap NdY.cells))
  (hp:∀ i (hi:i < L.length),∀ W,Mod (fun q=>(Value.slice sa L.length cap).ownBlock=some q) w W->Calls prog g (#[.agg (NdY.cells L[i]).toArray]++lb) W fun e w'=>e=.returned (.bool (p L[i]))/\Mod No W w') :
  Calls prog 119 #[.slice sa L.length cap,.func (.func g) #[] lb] w fun e w'=>(∃ k c',e=.returned (.slice sa k c')/\k=(L.filter fun x=>!p x).length/\w'.ownsRow B 98 4 (.slice sa k c') k ((L.filter fun x=>!p x).flatMap NdY.cells))/\Mod (fun q=>(Value.slice sa L.length cap).ownBlock=some q) w w':=by
 refine calls_hide fun R hR=>?_
 have HIX:=zh (indexfunc_nds g lb eg (fun x=>p ⟨x.n,(match x.ov with | .slice a _ _=>a | _=>none),(match x.ov with | .slice _ m _=>m | _=>0),(match x.ov with | .slice _ _ c=>c | _=>0)⟩) (L.map toX) (by rw [hL0];simp) (fun x _=>NdX.cells_length x) (.slice sa L.length cap) w (by rw [List.length_map,toX_flat];exact Sl.of_own hown (fun _ _ f=>f)) (fun i hi W hW=>by
  rw [List.length_map] at hi;rw [List.getElem_map];exact hp i hi W hW.no))
 have HFI:=zh (show findI (fun x:NdX=>p ⟨x.n,(match x.ov with | .slice a _ _=>a | _=>none),(match x.ov with | .slice _ m _=>m | _=>0),(match x.ov with | .slice _ _ c=>c | _=>0)⟩) (L.map toX)=findI p L from by
  rcases findI_cases p L with ⟨h1,h2⟩ | ⟨k,hk,h1,h2,h3⟩
  ·rw [h1];exact findI_none fun i hi=>by rw [List.getElem_map];exact h2 i (by rw [List.length_map] at hi;exact hi)
  ·rw [h1];exact findI_hit (by rw [List.length_map];exact hk) (fun i hi hik=>by rw [List.getElem_map];exact h3 i (by rw [List.length_map] at hi;exact hi) hik) (by rw [List.getElem_map];exact h2))
 rw [HFI.out] at HIX;have HOWN:=zh hown;have HL0:=zh hL0;have HCS:=zh (findI_cases p L);clear hp hown hL0 HFI;obtain ⟨n,hn⟩:∃ n,n=L.length:=⟨_,rfl⟩
 have HNN:=zh hn;rw [<- hn] at HIX ⊢;clear hn;go_enter func119,ntmps119
 go_wp2_with fail
 with_reducible refine HIX.out.mono ?_
 rintro e w1 ⟨rfl,hm1⟩;have HM1:=zh hm1;have HOW1:=zh (own_keepM HOWN.out hm1 (fun _ _ f=>f));clear hm1 HIX;rcases HCS.out with ⟨h1,h2⟩ | ⟨k,hk,h1,h2,h3⟩
 ·rw [h1];have HF:=zh (filter_all h2);clear h1 h2;go_wp2_with fail
  refine fin hR ⟨⟨n,cap,rfl,by rw [HF.out,HNN.out],?_⟩,HM1.out.no⟩
  rw [HF.out,HNN.out];exact HOW1.out
 ·exact absurd hk (by rw [HL0.out];simp)
theorem remove_lean (m:Mf) (v:Value) (name:List UInt8) (w:World) (hv:MftAt w v m) (h00:m.needs=[]) :
  Calls prog 70 #[v,strV name] w fun e w'=>(∃ v',e=.returned (.tuple #[v',.bool (m.needs.any fun n=>decide (n.name=name))])/\MftO w.heap.size w' v' (mfLess m name))/\Mod No w w':=by
 refine calls_hide fun R hR=>?_
 obtain ⟨pa,pc,na,nc,rfl,hpre,hnds⟩:=hv;obtain ⟨L,hLn,hLo,hLs⟩:=nds_toldX hnds;have HL0:=zh (show L=[] from List.map_eq_nil_iff.1 (hLn.trans h00));have h20:m.needs.length<=1000:=by rw [h00];simp
 have HLN:=zh (show m.needs.length=L.length by rw [<- hLn,List.length_map]);have HNS:=zh (show Sl w No 98 (.slice na L.length nc) L.length (L.flatMap NdY.cells) by rw [<- HLN.out];exact hLs);have HPRE:=zh hpre;have HLO:=zh hLo;have HL9:=zh (show L.length<=1000000 by rw [<- HLN.out];omega);have HANY:=zh (show ((L.map toX).any fun x=>decide (x.n.name=name))=m.needs.any fun n=>decide (n.name=name) by rw [<- hLn,List.any_map,List.any_map];rfl);have HFL:=zh (show (L.filter fun z=>!decide (z.n.name=name)).map NdY.n=(mfLess m name).needs by
  unfold mfLess noNd;dsimp only;rw [<- hLn,List.filter_map];rfl)
 have HRES:=zh (show ∀ (W:World) (sa:Option Addr) (k c':Nat),k=(L.filter fun z=>!decide (z.n.name=name)).length->W.ownsRow w.heap.size 98 4 (.slice sa k c') k ((L.filter fun z=>!decide (z.n.name=name)).flatMap NdY.cells)->Mod No w W->MftO w.heap.size W (.agg (mftCs m (.slice pa m.v.pre.length pc) (.slice sa k c')).toArray) (mfLess m name) from fun W sa k c' hk ho hm=>by
  have e1:(mfLess m name).needs.length=k:=by rw [<- HFL.out,List.length_map,hk]
  refine ⟨pa,pc,sa,c',_,by rw [e1];rfl,HPRE.out.kn hm,HFL.out,fun y hy=>(HLO.out y (List.mem_filter.1 hy).1).keep hm (Apart.no _ _),by rw [e1];exact ho⟩)
 rw [HLN.out];clear hLn hLo hLs hnds hpre h20 h00;unfold mftCs at HRES ⊢;obtain ⟨nm,⟨xa,xi,xp,xpr⟩,nds⟩:=m;dsimp only at *;generalize mfLess ⟨nm,⟨xa,xi,xp,xpr⟩,nds⟩ name=ML at *;generalize (nds.any fun n=>decide (n.name=name))=AN at *;obtain ⟨pn,hpn⟩:∃ n,n=xpr.length:=⟨_,rfl⟩
 rw [<- hpn] at HRES ⊢;clear hpn;obtain ⟨n,hn⟩:∃ n,n=L.length:=⟨_,rfl⟩
 have HNN:=zh hn;rw [<- hn];clear hn HPRE;obtain ⟨NV,hNV⟩:∃ z,z=strV nm:=⟨_,rfl⟩
 obtain ⟨NM,hNM⟩:∃ z:ByteArray,z=⟨name.toArray⟩:=⟨_,rfl⟩
 have HNM:=zh hNM;obtain ⟨N1,hN1⟩:∃ z:ByteArray,z=⟨nm.toArray⟩:=⟨_,rfl⟩
 have HN1:=zh hN1;unfold strV at HRES ⊢;rw [<- hN1] at HRES ⊢;rw [<- hNM];clear hNV hNM hN1 NV;go_enter func70,ntmps70
 go_upto_region 1 with fail
 obtain ⟨gb,hgb⟩:∃ g,g=w.heap.size:=⟨_,rfl⟩
 rw [<- hgb];generalize hw3:World.alloc _ _=w3;have hgm:w3.heap[gb]? = some (.cells #[.string N1,.int .i64 xa,.int .i64 xi,.int .i64 xp,.slice pa pn pc,.slice na n nc] 46 (0,0)):=by rw [<- hw3,hgb];exact heap_alloc_old _ (heap_alloc_old _ (heap_alloc_new w _))
 have hgn:w3.heap[gb+1]? = some (.cells #[.string NM] 9 (0,0)):=by
  rw [<- hw3];refine heap_alloc_old _ ?_;have h1:=heap_alloc_new (w.alloc (.cells #[.string N1,.int .i64 xa,.int .i64 xi,.int .i64 xp,.slice pa pn pc,.slice na n nc] 46)) (.cells #[.string NM] 9);rw [show (w.alloc (.cells #[.string N1,.int .i64 xa,.int .i64 xi,.int .i64 xp,.slice pa pn pc,.slice na n nc] 46)).heap.size=gb+1 by rw [hgb];exact Array.size_push _] at h1;exact h1
 have hm3:Mod No w w3:=by rw [<- hw3];exact (((Mod.refl No w).alloc _).alloc _).alloc _
 have hres:∃ cs,w3.heap[gb+2]? = some (.cells cs 46 (0,0))/\cs.size=6:=by
  rw [<- hw3];have hs:∀ (W:World) (o:Obj) (k:Nat),W.heap.size=k->(W.alloc o).heap.size=k+1:=fun W o k h=>by rw [<- h];exact Array.size_push _
  have h2:=heap_alloc_new ((w.alloc (.cells #[.string N1,.int .i64 xa,.int .i64 xi,.int .i64 xp,.slice pa pn pc,.slice na n nc] 46)).alloc (.cells #[.string NM] 9)) (.cells #[.string ⟨#[]⟩,.int .i64 0,.int .i64 0,.int .i64 0,.slice none 0 0,.slice none 0 0] 46);rw [hs _ _ (gb+1) (hs _ _ gb hgb.symm)] at h2;exact ⟨_,h2,rfl⟩
 obtain ⟨g2,hg2⟩:∃ g,g=gb+1:=⟨_,rfl⟩
 obtain ⟨g3,hg3⟩:∃ g,g=g2+1:=⟨_,rfl⟩
 rw [<- hg2] at hgn;rw [show gb+2=g3 by omega] at hres;rw [<- hg2,<- hg3];have HGM:=zh hgm;have HGN:=zh hgn;have HM3:=zh hm3;obtain ⟨cs,hrs,hcs6⟩:=hres;have HRS:=zh hrs;have HNB:=zh (show gb ≠ g2/\gb ≠ g3/\g2 ≠ g3/\w.heap.size<=gb from ⟨by omega,by omega,by omega,by omega⟩);have HG3:=zh (show w.heap.size<=g3 by omega);have HNS3:=zh (HNS.out.kn hm3);have c5:=cell_ofA hgm (i:=5) (v:=.slice na n nc) rfl;have c0:=cell_ofA hgn (i:=0) (v:=.string NM) rfl;have HHA:=zh (has_any (L.map toX) (by rw [List.length_map];exact HL9.out) (fun x hx=>by obtain ⟨z,-,rfl⟩:=List.mem_map.1 hx;exact ⟨_,_,_,rfl⟩) name (.slice na n nc) w3 (by rw [List.length_map,toX_flat,HNN.out];exact HNS3.out));rw [HANY.out,show strV name=.string NM by rw [HNM.out]] at HHA;clear hw3 hgm hgn hm3 hrs hgb hg2 hg3;go_wp2_with fail
 with_reducible refine HHA.out.mono ?_
 rintro e w4 ⟨rfl,hm4⟩;have HM4:=zh (HM3.out.trans hm4);have HGM4:=zh (hm4.keep HGM.out (fun f=>f));have HGN4:=zh (hm4.keep HGN.out (fun f=>f));have HRS4:=zh (hm4.keep HRS.out (fun f=>f));have c5:=cell_ofA HGM4.out (i:=5) (v:=.slice na n nc) rfl;have HCL:=zh (clonends_own n (by rw [HNN.out];exact HL9.out) (.slice na n nc) (L.flatMap NdY.cells) (by rw [HNN.out];exact flat_length NdY.len L) (fun u hu=>by
  obtain ⟨z,hz,hu⟩:=List.mem_flatMap.1 hu;exact NdY.one z u hu) w4 (by have h:=HNS3.out.kn hm4;rw [<- HNN.out] at h;exact h))
 clear hm4 HHA;go_wp2_with fail
 with_reducible refine HCL.out.mono ?_
 rintro e w5 ⟨v5,rfl,hown5,hm5⟩;obtain ⟨sa,sc,hsv⟩:=own_len hown5;subst hsv;have HM5:=zh (HM4.out.trans hm5);have HGM5:=zh (hm5.keep HGM4.out (fun f=>f));have HGN5:=zh (hm5.keep HGN4.out (fun f=>f));have HRS5:=zh (hm5.keep HRS4.out (fun f=>f));have HNO:=zh (show ∀ q,(Value.slice sa n sc).ownBlock=some q->w4.heap.size<=q from fun q e=>own_atB hown5 e);have HLT:=zh (show gb < w4.heap.size/\g2 < w4.heap.size/\g3 < w4.heap.size from ⟨lt_of_heap HGM4.out,lt_of_heap HGN4.out,lt_of_heap HRS4.out⟩);have HDL:=zh (deletefunc_lean 121 #[.pointer (some ⟨g2,0,none⟩)] (fun _ _=>rfl) (fun z=>decide (z.n.name=name)) w4.heap.size L HL0.out sa sc w5 (by have h:=hown5;rw [HNN.out] at h;exact h) (fun i hi W hW=>remfn_any L[i] name g2 W (by
  have h:=hW.keep HGN5.out (fun e=>by
   have h1:=HNO.out g2 (by rw [HNN.out];exact e);have h2:=HLT.out.2.1;omega)
  rw [HNM.out] at h;exact h)))
 rw [<- HNN.out] at HDL;clear hown5 hm5 HCL;go_wp2_with fail
 with_reducible refine HDL.out.mono ?_
 rintro e w6 ⟨⟨k,c',rfl,hk,hown6⟩,hm6⟩;have hlt:=HLT.out;have HGM6:=zh (hm6.keep HGM5.out (fun e=>by have h1:=HNO.out gb e;omega));have HRS6:=zh (hm6.keep HRS5.out (fun e=>by have h1:=HNO.out g3 e;omega));have HM6:=zh (HM5.out.then hm6 (S:=No) (fun q hq e=>by have h1:=HNO.out q e;have h2:=HM4.out.size;omega));have HKK:=zh hk;have HO6:=zh (show w6.ownsRow w.heap.size 98 4 (.slice sa k c') k ((L.filter fun z=>!decide (z.n.name=name)).flatMap NdY.cells) from own_less hown6 HM4.out.size);have c5:=cell_ofA HGM6.out (i:=5) (v:=.slice na n nc) rfl;have f5:=frozen_of 5 HGM6.out;clear hk hown6 hm6 HDL hlt;go_upto_region 3 with fail
 generalize hw7:World.setCell _ _ _=w7;have hgm7:w7.heap[gb]? = some (.cells #[.string N1,.int .i64 xa,.int .i64 xi,.int .i64 xp,.slice pa pn pc,.slice sa k c'] 46 (0,0)):=by rw [<- hw7];exact heap_setCell HGM6.out _
 have hm67:Mod (fun q=>q=gb) w6 w7:=by rw [<- hw7];exact Mod.cell1 _ _ _ _
 have HGM7:=zh hgm7;have HRS7:=zh (hm67.keep HRS6.out (fun e=>HNB.out.2.1 e.symm));have HM7:=zh (HM6.out.then hm67 (S:=No) (fun q hq e=>by have h1:=HNB.out.2.2.2;have h2:q=gb:=e;omega));have HO7:=zh (own_keepM HO6.out hm67 (fun q hq e=>by
  have h1:q=gb:=e;obtain ⟨cur,hc⟩:=own_heapM HO6.out hq;rw [h1,HGM6.out] at hc;have h7:=Obj.cells.inj (Option.some.inj hc);exact absurd h7.2.1 (by decide)))
 have HRG7:=zh (show w7.rangeAt gb 0 [.string N1,.int .i64 xa,.int .i64 xi,.int .i64 xp,.slice pa pn pc,.slice sa k c'] from fun u x hx=>by rw [Nat.zero_add];exact cell_ofA hgm7 (by rw [List.getElem?_toArray];exact hx));clear hw7 hgm7 hm67 c5 f5;go_wp2_with (first | (refine wpList_load_mid rfl 46 _ rfl gb 0 rfl [.string N1,.int .i64 xa,.int .i64 xi,.int .i64 xp,.slice pa pn pc,.slice sa k c'] _ HRG7.out underlying46 rfl (by kernel_rfl) ?_) | (refine wpList_store_row rfl 46 _ _ rfl g3 #[.string N1,.int .i64 xa,.int .i64 xi,.int .i64 xp,.slice pa pn pc,.slice sa k c'] rfl rfl 46 _ HRS7.out (by kernel_rfl) (by rw [hcs6];rfl) (by kernel_rfl) ?_))
 generalize hw8:World.setRow w7 g3 _=w8;have hm78:Mod (fun q=>q=g3) w7 w8:=by rw [<- hw8];exact Mod.setRow (S:=fun q=>q=g3) (Mod.refl _ w7) (fun _=>rfl) _
 have hg8:w8.heap[g3]? = some (.cells #[.string N1,.int .i64 xa,.int .i64 xi,.int .i64 xp,.slice pa pn pc,.slice sa k c'] 46 (0,0)):=by rw [<- hw8];exact setRow_heap _ _ _ _ _ _ HRS7.out
 have hl9:=run_loadVar_row (P:=prog) w8 g3 46 46 _ (0,0) _ hg8 underlying46 rfl (by kernel_rfl);have HM8:=zh (HM7.out.then hm78 (S:=No) (fun q hq e=>by have h1:=HNB.out.2.2.2;have h3:=HNB.out.2.1;have h2:q=g3:=e;have h4:=HG3.out;omega));have HO8:=zh (own_keepM HO7.out hm78 (fun q hq e=>by
  have h1:q=g3:=e;obtain ⟨cur,hc⟩:=own_heapM HO7.out hq;rw [h1,HRS7.out] at hc;have h7:=Obj.cells.inj (Option.some.inj hc);exact absurd h7.2.1 (by decide)))
 have HMO:=zh (HRES.out w8 sa k c' HKK.out HO8.out HM8.out);exact bodyPost_ret (v:=.tuple #[.agg #[.string N1,.int .i64 xa,.int .i64 xi,.int .i64 xp,.slice pa pn pc,.slice sa k c'],.bool AN]) (by simp [results,results70,asAddr,hl9]) rfl (fin hR ⟨⟨_,rfl,HMO.out⟩,HM8.out⟩)
theorem madd_lean (m:Mf) (v:Value) (x:NdY) (w:World) (hv:MftAt w v m) (hx:OrsAt w (toX x).ov x.n.span.ors) (h00:m.needs=[]) (hnl:x.n.name.length<=1000000) :
  Calls prog 116 #[v,.agg (NdY.cells x).toArray] w fun e w'=>AddRes w' m x.n e/\Mod No w w':=by
 refine calls_hide fun R hR=>?_
 have HAT:=zh hv;have h20:m.needs.length<=20:=by rw [h00];simp
 have HN00:=zh (show m.needs.length=0 by rw [h00];rfl);obtain ⟨pa,pc,na,nc,hve,hpre,hnds⟩:=hv;obtain ⟨L,hLn,hLo,hLs⟩:=nds_toldX hnds;have HLN:=zh (show m.needs.length=L.length by rw [<- hLn,List.length_map]);have HNS:=zh (show Sl w No 98 (.slice na L.length nc) L.length (L.flatMap NdY.cells) by rw [<- HLN.out];exact hLs);have HLO:=zh hLo;have HXO:=zh hx;have HL9:=zh (show L.length<=20 by rw [<- HLN.out];omega);have HNM:=zh (name_any x.n.name hnl);obtain ⟨AN,hAN⟩:∃ b,b=m.needs.any fun n=>decide (n.name=x.n.name):=⟨_,rfl⟩
 have HANF:=zh (show AN=false by rw [hAN,h00];rfl);have HANY:=zh (show ((L.map toX).any fun y=>decide (y.n.name=x.n.name))=AN by rw [hAN,<- hLn,List.any_map,List.any_map];rfl);have HRM:=zh (fun (W:World) (hm:Mod No w W)=>remove_lean m v x.n.name W (HAT.out.no hm) h00);rw [<- hAN] at HRM;have HBAD:=zh (show (nameB x.n.name=false\/x.n.name=m.name\/(AN=false/\20<=L.length))->∀ W,AddRes W m x.n (.returned (.tuple #[.agg mftZ,.int .i64 62])) from fun h W=>by
  unfold AddRes addM;rw [<- hAN,HLN.out,if_pos h])
 have HGOOD:=zh (show ¬ (nameB x.n.name=false\/x.n.name=m.name\/(AN=false/\20<=L.length))->addM m x.n=some { m with needs:=sortR ltNd (m.needs.filter (noNd x.n.name)++[x.n]) } from fun h=>by
  unfold addM;rw [<- hAN,HLN.out,if_neg h])
 have HFEW:=zh (fun m' (h:addM m x.n=some m')=>(addM_few h h20).2);have HT1:=zh (str_list x.n.name);have HT2:=zh (str_list m.name);rw [hve,HLN.out];rw [hve,HLN.out] at HRM;have HMC:=zh (show ∀ a b,mftCs (mfLess m x.n.name) a b=[strV m.name,.int .i64 m.v.ma,.int .i64 m.v.mi,.int .i64 m.v.pa,a,b] from fun _ _=>rfl);have HMC2:=zh (show ∀ nd a b,mftCs { m with needs:=nd } a b=[strV m.name,.int .i64 m.v.ma,.int .i64 m.v.mi,.int .i64 m.v.pa,a,b] from fun _ _ _=>rfl);have HC0:=zh (show NdY.cells x=[strV x.n.name,.bool x.n.span.any,.slice x.oa x.om x.oc,strV x.n.text] from rfl);obtain ⟨n,hn⟩:∃ n,n=L.length:=⟨_,rfl⟩
 have HNN:=zh hn;rw [<- hn] at HRM HBAD HGOOD ⊢;have HNZ:=zh (show n=0 by rw [hn,<- HLN.out,HN00.out]);clear hLn hLo hLs hnds hpre h20 hnl hAN hve hx hn h00;unfold mftCs at HRM ⊢;obtain ⟨pn,hpn⟩:∃ k,k=m.v.pre.length:=⟨_,rfl⟩
 obtain ⟨xa,hxa⟩:∃ k,k=m.v.ma:=⟨_,rfl⟩
 obtain ⟨xi,hxi⟩:∃ k,k=m.v.mi:=⟨_,rfl⟩
 obtain ⟨xp,hxp⟩:∃ k,k=m.v.pa:=⟨_,rfl⟩
 obtain ⟨NX,hNX⟩:∃ z:ByteArray,z=⟨x.n.name.toArray⟩:=⟨_,rfl⟩
 obtain ⟨TX,hTX⟩:∃ z:ByteArray,z=⟨x.n.text.toArray⟩:=⟨_,rfl⟩
 obtain ⟨N1,hN1⟩:∃ z:ByteArray,z=⟨m.name.toArray⟩:=⟨_,rfl⟩
 have HPN:=zh (show m.v.pre.length=pn from hpn.symm);unfold strV at HC0 HNM HRM HMC HMC2 ⊢;rw [<- hpn,<- hxa,<- hxi,<- hxp,<- hN1] at HRM ⊢;rw [<- hxa,<- hxi,<- hxp,<- hN1] at HMC HMC2;rw [<- hNX] at HRM HC0 HNM HT1;rw [<- hTX] at HC0;rw [<- hN1] at HT2;have HNXE:=zh hNX;have HCX:=zh HC0.out;rw [HC0.out];generalize x.n.span.any=xan at *;generalize x.oa=xoa at *;generalize x.om=xom at *;generalize x.oc=xoc at *;clear hpn hxa hxi hxp hNX hTX hN1 HC0;go_enter func116,ntmps116
 go_upto_region 1 with fail
 obtain ⟨gb,hgb⟩:∃ g,g=w.heap.size:=⟨_,rfl⟩
 rw [<- hgb];generalize hw3:World.alloc _ _=w3;have hs:∀ (W:World) (o:Obj) (k:Nat),W.heap.size=k->(W.alloc o).heap.size=k+1:=fun W o k h=>by rw [<- h];exact Array.size_push _
 have hgm:w3.heap[gb]? = some (.cells #[.string N1,.int .i64 xa,.int .i64 xi,.int .i64 xp,.slice pa pn pc,.slice na n nc] 46 (0,0)):=by rw [<- hw3,hgb];exact heap_alloc_old _ (heap_alloc_old _ (heap_alloc_new w _))
 have hgn:w3.heap[gb+1]? = some (.cells #[.string NX,.bool xan,.slice xoa xom xoc,.string TX] 98 (0,0)):=by
  rw [<- hw3];refine heap_alloc_old _ ?_;have h1:=heap_alloc_new (w.alloc (.cells #[.string N1,.int .i64 xa,.int .i64 xi,.int .i64 xp,.slice pa pn pc,.slice na n nc] 46)) (.cells #[.string NX,.bool xan,.slice xoa xom xoc,.string TX] 98);rw [hs _ _ gb hgb.symm] at h1;exact h1
 have hres:∃ cs,w3.heap[gb+2]? = some (.cells cs 46 (0,0))/\cs.size=6:=by
  rw [<- hw3];have h2:=heap_alloc_new ((w.alloc (.cells #[.string N1,.int .i64 xa,.int .i64 xi,.int .i64 xp,.slice pa pn pc,.slice na n nc] 46)).alloc (.cells #[.string NX,.bool xan,.slice xoa xom xoc,.string TX] 98)) (.cells #[.string ⟨#[]⟩,.int .i64 0,.int .i64 0,.int .i64 0,.slice none 0 0,.slice none 0 0] 46);rw [hs _ _ (gb+1) (hs _ _ gb hgb.symm)] at h2;exact ⟨_,h2,rfl⟩
 have hm3:Mod No w w3:=by rw [<- hw3];exact (((Mod.refl No w).alloc _).alloc _).alloc _
 obtain ⟨g2,hg2⟩:∃ g,g=gb+1:=⟨_,rfl⟩
 obtain ⟨g3,hg3⟩:∃ g,g=g2+1:=⟨_,rfl⟩
 rw [<- hg2] at hgn;rw [show gb+2=g3 by omega] at hres;rw [<- hg2,<- hg3];have HGM:=zh hgm;have HGN:=zh hgn;have HM3:=zh hm3;obtain ⟨cs,hrs,hcs6⟩:=hres;have HRS:=zh hrs;have HNB:=zh (show gb ≠ g2/\gb ≠ g3/\g2 ≠ g3/\w.heap.size<=gb/\w.heap.size<=g3 from ⟨by omega,by omega,by omega,by omega,by omega⟩);have HNS3:=zh (HNS.out.kn hm3);have c5:=cell_ofA hgm (i:=5) (v:=.slice na n nc) rfl;have c0:=cell_ofA hgn (i:=0) (v:=.string NX) rfl;have HHA:=zh (has_any (L.map toX) (by rw [List.length_map];have:=HL9.out;omega) (fun x hx=>by obtain ⟨z,-,rfl⟩:=List.mem_map.1 hx;exact ⟨_,_,_,rfl⟩) x.n.name (.slice na n nc) w3 (by rw [List.length_map,toX_flat,HNN.out];exact HNS3.out));rw [HANY.out,show strV x.n.name=.string NX by rw [HNXE.out]] at HHA;clear hw3 hgm hgn hm3 hrs hgb hg2 hg3 hs;go_wp2_with fail
 with_reducible refine HHA.out.mono ?_
 rintro e w4 ⟨rfl,hm4⟩;have HM4:=zh (HM3.out.trans hm4);have HGM4:=zh (hm4.keep HGM.out (fun f=>f));have HGN4:=zh (hm4.keep HGN.out (fun f=>f));have HRS4:=zh (hm4.keep HRS.out (fun f=>f));have m0:=cell_ofA HGM4.out (i:=0) (v:=.string N1) rfl;have m5:=cell_ofA HGM4.out (i:=5) (v:=.slice na n nc) rfl;have n0:=cell_ofA HGN4.out (i:=0) (v:=.string NX) rfl;clear hm4 HHA c5 c0;go_wp2_with fail
 with_reducible refine (HNM.out _).mono ?_
 rintro e wN ⟨rfl,hwN⟩;rw [hwN];clear hwN wN HNM;cases hnb:nameB x.n.name with
 | false =>
  go_wp2_with (refine wpList_store_row rfl 46 _ _ rfl g3 mftZ rfl rfl 46 _ HRS4.out (by kernel_rfl) (by rw [hcs6];rfl) (by kernel_rfl) ?_)
  generalize hw8:World.setRow _ g3 _=w8;have hg8:w8.heap[g3]? = some (.cells mftZ 46 (0,0)):=by rw [<- hw8];exact setRow_heap _ _ _ _ _ _ HRS4.out
  have hl9:=load_mft hg8;have HM8:=zh (HM4.out.then (show Mod (fun q=>q=g3) _ w8 by rw [<- hw8];exact Mod.setRow (S:=fun q=>q=g3) (Mod.refl _ _) (fun _=>rfl) _) (S:=No) (fun q hq e=>by have h1:=HNB.out.2.2.2.2;have h2:q=g3:=e;omega));exact bodyPost_ret (v:=.tuple #[.agg mftZ,.int .i64 62]) (by simp [results,results116,asAddr,hl9,mftZ]) rfl (fin hR ⟨HBAD.out (.inl hnb) _,HM8.out⟩)
 | true =>
  by_cases hsame:x.n.name=m.name
  ·have hq:(NX.toList == N1.toList)=true:=by rw [HT1.out,HT2.out,hsame];simp
   go_wp2_with (refine wpList_store_row rfl 46 _ _ rfl g3 mftZ rfl rfl 46 _ HRS4.out (by kernel_rfl) (by rw [hcs6];rfl) (by kernel_rfl) ?_)
   generalize hw8:World.setRow _ g3 _=w8;have hg8:w8.heap[g3]? = some (.cells mftZ 46 (0,0)):=by rw [<- hw8];exact setRow_heap _ _ _ _ _ _ HRS4.out
   have hl9:=load_mft hg8;have HM8:=zh (HM4.out.then (show Mod (fun q=>q=g3) _ w8 by rw [<- hw8];exact Mod.setRow (S:=fun q=>q=g3) (Mod.refl _ _) (fun _=>rfl) _) (S:=No) (fun q hq e=>by have h1:=HNB.out.2.2.2.2;have h2:q=g3:=e;omega));exact bodyPost_ret (v:=.tuple #[.agg mftZ,.int .i64 62]) (by simp [results,results116,asAddr,hl9,mftZ]) rfl (fin hR ⟨HBAD.out (.inr (.inl hsame)) _,HM8.out⟩)
  ·have hq:(NX.toList == N1.toList)=false:=by rw [HT1.out,HT2.out];simpa using hsame
   have hanf:=HANF.out;subst hanf;have hlen:¬ 20<=n:=by have:=HNZ.out;omega
   have hln:¬ (20:Int)<=(n:Int):=by omega
   have HOK:=zh (HGOOD.out (fun h=>h.elim (fun h=>by rw [hnb] at h;cases h) (fun h=>h.elim hsame (fun h=>hlen h.2))));have HFW:=zh (HFEW.out _ HOK.out);have HRD:=zh (show ∀ W v',MftAt W v' { m with needs:=sortR ltNd (m.needs.filter (noNd x.n.name)++[x.n]) }->AddRes W m x.n (.returned (.tuple #[v',.int .i64 0])) from fun W v' h=>by
    unfold AddRes;rw [HOK.out];exact ⟨v',rfl,h⟩)
   have HRG:=zh (show w4.rangeAt gb 0 [.string N1,.int .i64 xa,.int .i64 xi,.int .i64 xp,.slice pa pn pc,.slice na n nc] from fun u y hy=>by rw [Nat.zero_add];exact cell_ofA HGM4.out (by rw [List.getElem?_toArray];exact hy));have HRM4:=zh (HRM.out w4 HM4.out);clear HGOOD HBAD HRM hlen;go_wp2_with (refine wpList_load_mid rfl 46 _ rfl gb 0 rfl [.string N1,.int .i64 xa,.int .i64 xi,.int .i64 xp,.slice pa pn pc,.slice na n nc] _ HRG.out underlying46 rfl (by kernel_rfl) ?_)
   with_reducible refine HRM4.out.mono ?_
   rintro e w5 ⟨⟨v5,rfl,hmo⟩,hm5⟩;obtain ⟨qa,qc,ra,rc,M,rfl,hmp,hMn,hMo,hMow⟩:=hmo;obtain ⟨k,hk0⟩:∃ k,k=M.length:=⟨_,rfl⟩
   have hk:(mfLess m x.n.name).needs.length=k:=by rw [<- hMn,List.length_map,hk0]
   have hpl:(mfLess m x.n.name).v.pre.length=pn:=HPN.out;rw [hk] at hMow;rw [hpl] at hmp;rw [hk,hpl,HMC.out];have HKM:=zh hk0;have HMN:=zh (show M.map NdY.n=m.needs.filter (noNd x.n.name) from hMn);have HMP:=zh (show Sl w5 No 9 (.slice qa pn qc) m.v.pre.length (strs m.v.pre) by rw [HPN.out];exact hmp);have HMO:=zh hMo;have HMW:=zh hMow;have HK20:=zh (show k+1<=20 by have h:=HFW.out;rw [List.length_append,List.length_singleton,<- HMN.out,List.length_map] at h;omega);have HM5:=zh (HM4.out.trans hm5);have HGM5:=zh (hm5.keep HGM4.out (fun f=>f));have HGN5:=zh (hm5.keep HGN4.out (fun f=>f));have HRS5:=zh (hm5.keep HRS4.out (fun f=>f));have HS45:=zh hm5.size;clear hk hpl hmp hMn hMo hMow hm5 hk0 m0 m5 n0 hq HRM4 HRG;go_upto_region 5 with (refine wpList_store_row rfl 46 _ _ rfl gb #[.string N1,.int .i64 xa,.int .i64 xi,.int .i64 xp,.slice qa pn qc,.slice ra k rc] rfl rfl 46 _ HGM5.out (by kernel_rfl) (by rfl) (by kernel_rfl) ?_)
   generalize hw6:World.setRow _ gb _=w6;have hm56:Mod (fun q=>q=gb) w5 w6:=by rw [<- hw6];exact Mod.setRow (S:=fun q=>q=gb) (Mod.refl _ _) (fun _=>rfl) _
   have HGM6:=zh (show w6.heap[gb]? = some (.cells #[.string N1,.int .i64 xa,.int .i64 xi,.int .i64 xp,.slice qa pn qc,.slice ra k rc] 46 (0,0)) by rw [<- hw6];exact setRow_heap _ _ _ _ _ _ HGM5.out);have HGN6:=zh (hm56.keep HGN5.out (fun e=>HNB.out.1 e.symm));have HRS6:=zh (hm56.keep HRS5.out (fun e=>HNB.out.2.1 e.symm));have HM56:=zh hm56;have HM6:=zh (HM5.out.then hm56 (S:=No) (fun q hq e=>by have h1:=HNB.out.2.2.2.1;have h2:q=gb:=e;omega));have HMW6:=zh (own_keepM HMW.out hm56 (fun q hq e=>by
    have h1:q=gb:=e;obtain ⟨cur,hc⟩:=own_heapM HMW.out hq;rw [h1,HGM5.out] at hc;have h7:=Obj.cells.inj (Option.some.inj hc);exact absurd h7.2.1 (by decide)))
   have HRG2:=zh (show w6.rangeAt g2 0 [.string NX,.bool xan,.slice xoa xom xoc,.string TX] from fun u y hy=>by rw [Nat.zero_add];exact cell_ofA HGN6.out (by rw [List.getElem?_toArray];exact hy));have HC5:=zh (cell_ofA HGM6.out (i:=5) (v:=.slice ra k rc) rfl);have HS46:=zh (show w4.heap.size<=w6.heap.size from Nat.le_trans HS45.out hm56.size);obtain ⟨i0,hi0,hz0,hz1,hz2⟩:=info_parts info_need;have HI:=zh (And.intro hi0 (And.intro hz0 (And.intro hz1 hz2)));clear hw6 hm56 hi0 hz0 hz1 hz2;refine wp_region_lit ?_;refine Great.wpList_runTo rfl (some 41) rfl (.pointer (some ⟨gb,5,none⟩)) w6 (by first | rfl | go_simp) ?_;simp only [Act.put,yB,yC,yD];refine Great.wpList_runTo rfl (some 42) rfl (.slice ra k rc) w6 (by have q5:=HC5.out;go_simp) ?_;simp only [Act.put,yB,yC,yD];refine wpList_load_mid rfl 98 _ rfl g2 0 rfl [.string NX,.bool xan,.slice xoa xom xoc,.string TX] _ HRG2.out underlying98 rfl (by kernel_rfl) ?_;simp only [Act.put,yB,yC,yD];refine wpList_plain rfl fun K hK=>?_
   refine wp_value (v:=.slice (some ⟨w6.heap.size,0,none⟩) 1 1) (w':=w6.alloc (.cells [.string NX,.bool xan,.slice xoa xom xoc,.string TX].toArray 98)) (by apply nd_new (cs:=[.string NX,.bool xan,.slice xoa xom xoc,.string TX]) rfl (.tmp 43) <;> rfl) ?_;refine hK _ _ ?_;clear hK K;simp only [Act.put,yB,yC,yD];refine wpList_plain rfl fun K hK=>?_
   obtain ⟨hi0,hz0,hz1,hz2⟩:=HI.out;have hk20:=HK20.out;refine wp_app_atN (.tmp 42) (.tmp 44) 44 rfl w4.heap.size 98 i0 (.agg #[.string ⟨#[]⟩,.bool false,.slice none 0 0,.string ⟨#[]⟩]) 4 64 underlying44 hi0 hz0 hz1 hz2 rfl (by decide) (.slice ra k rc) k (M.flatMap NdY.cells) rfl (own_keepM HMW6.out ((Mod.refl No w6).alloc _) (fun _ _ f=>f)) ⟨w6.heap.size,0,none⟩ 1 1 [.string NX,.bool xan,.slice xoa xom xoc,.string TX] rfl rfl (fun j u hu=>cells_newN hu) (by intro u hu;rw [<- HCX.out] at hu;exact NdY.one x u hu) (by unfold maxLen;omega) (by omega) (Nat.le_trans HS46.out ((Mod.refl No w6).alloc _).size) ?_;intro v9 w9 hown9 hg9 _;obtain ⟨va9,vc9,rfl⟩:=own_len hown9;have HFX:=zh (show (M++[x]).flatMap NdY.cells=M.flatMap NdY.cells++[.string NX,.bool xan,.slice xoa xom xoc,.string TX] by rw [List.flatMap_append,List.flatMap_cons,List.flatMap_nil,List.append_nil,HCX.out]);have HML:=zh (show (M++[x]).length=k+1 by rw [List.length_append,List.length_singleton,HKM.out]);have hm69:Mod (fun q=>(Value.slice ra k rc).ownBlock=some q) w6 w9:=((Mod.refl No w6).alloc (.cells [.string NX,.bool xan,.slice xoa xom xoc,.string TX].toArray 98)).no.trans (Mod.of_grown hg9 (fun q e _=>e));have hnot:∀ (q:Nat) (cur:Array Value) (ty:TypeId) (fz:Nat × Nat),ty ≠ 98->(Value.slice ra k rc).ownBlock=some q->w6.heap[q]? ≠ some (.cells cur ty fz):=fun q cur ty fz ht e hh=>by
    obtain ⟨cur2,h2⟩:=own_heapM HMW6.out e;rw [hh] at h2;cases h2;exact ht rfl
   have HGM9:=zh (hm69.keep HGM6.out (fun e=>hnot _ _ _ _ (by decide) e HGM6.out));have HRS9:=zh (hm69.keep HRS6.out (fun e=>hnot _ _ _ _ (by decide) e HRS6.out));have HM9:=zh (HM6.out.then hm69 (S:=No) (fun q hq e=>by
    have h1:=own_atB HMW6.out e;have h2:=HM4.out.size;omega))
   have HAP:=zh (show Apart [9,237,175] (fun q=>(Value.slice ra k rc).ownBlock=some q) w6 from own_apartN HMW6.out (by decide));have HM69:=zh hm69;have HPS:=zh (psorted_any (M++[x]) (by rw [HML.out];exact HK20.out) (.slice va9 (k+1) vc9) w9 (by rw [HML.out,HFX.out];exact Sl.of_own hown9 (fun _ _ f=>f)));rw [HML.out] at HPS;have f5:=frozen_of 5 HGM9.out;refine hK _ _ ?_;clear hK K hown9 hg9 hm69 hnot hi0 hz0 hz1 hz2;simp only [Act.put,yB,yC,yD];go_wp2_with fail
   with_reducible refine HPS.out.mono ?_
   rintro e w10 ⟨v10,rfl,hown10,hm10⟩;obtain ⟨sa,sc,rfl⟩:=own_len hown10;have HGM10:=zh (hm10.keep HGM9.out (fun f=>f));have HRS10:=zh (hm10.keep HRS9.out (fun f=>f));have HM10:=zh (HM9.out.trans hm10);have HM910:=zh hm10;have HO10:=zh hown10;have f5:=frozen_of 5 HGM10.out;have c5:=cell_ofA HGM10.out (i:=5) (v:=.slice ra k rc) rfl;clear hown10 hm10 HPS;obtain ⟨w11,hw11⟩:∃ z,z=w10.setCell ⟨gb,5,none⟩ (.slice sa (k+1) sc):=⟨_,rfl⟩
   have hgm11:w11.heap[gb]? = some (.cells #[.string N1,.int .i64 xa,.int .i64 xi,.int .i64 xp,.slice qa pn qc,.slice sa (k+1) sc] 46 (0,0)):=by rw [hw11];exact heap_setCell HGM10.out _
   have hm1011:Mod (fun q=>q=gb) w10 w11:=by rw [hw11];exact Mod.cell1 _ _ _ _
   have HRS11:=zh (hm1011.keep HRS10.out (fun e=>HNB.out.2.1 e.symm));have HRG11:=zh (show w11.rangeAt gb 0 [.string N1,.int .i64 xa,.int .i64 xi,.int .i64 xp,.slice qa pn qc,.slice sa (k+1) sc] from fun u y hy=>by rw [Nat.zero_add];exact cell_ofA hgm11 (by rw [List.getElem?_toArray];exact hy));have HM1011:=zh hm1011;have HGM11:=zh hgm11;have HW11:=zh hw11;clear hw11 hgm11 hm1011;go_wp2_with (first | (rw [<- HW11.out];refine wpList_load_mid rfl 46 _ rfl gb 0 rfl [.string N1,.int .i64 xa,.int .i64 xi,.int .i64 xp,.slice qa pn qc,.slice sa (k+1) sc] _ HRG11.out underlying46 rfl (by kernel_rfl) ?_) | (refine wpList_store_row rfl 46 _ _ rfl g3 #[.string N1,.int .i64 xa,.int .i64 xi,.int .i64 xp,.slice qa pn qc,.slice sa (k+1) sc] rfl rfl 46 _ HRS11.out (by kernel_rfl) (by rw [hcs6];rfl) (by kernel_rfl) ?_))
   generalize hw12:World.setRow _ g3 _=w12;have hm1112:Mod (fun q=>q=g3) w11 w12:=by rw [<- hw12];exact Mod.setRow (S:=fun q=>q=g3) (Mod.refl _ _) (fun _=>rfl) _
   have hg12:w12.heap[g3]? = some (.cells #[.string N1,.int .i64 xa,.int .i64 xi,.int .i64 xp,.slice qa pn qc,.slice sa (k+1) sc] 46 (0,0)):=by rw [<- hw12];exact setRow_heap _ _ _ _ _ _ HRS11.out
   have hl9:=load_mft hg12;have hmz:Mod (fun q=>q=gb\/q=g3) w10 w12:=(HM1011.out.weaken (fun _ _ e=>.inl e)).trans (hm1112.weaken (fun _ _ e=>.inr e));have HM12:=zh (HM10.out.then hmz (S:=No) (fun q hq e=>by have h1:=HNB.out.2.2.2.1;have h2:=HNB.out.2.2.2.2;rcases e with e | e <;> omega));have hapz:∀ ts:List TypeId,46 ∉ ts->Apart ts (fun q=>q=gb\/q=g3) w10:=fun ts hts q cur fz ty e hc hm=>by
    rcases e with e | e
    ·rw [e,HGM10.out] at hc;cases hc;exact hts hm
    ·rw [e,HRS10.out] at hc;cases hc;exact hts hm
   have HOW:=zh (own_keepM HO10.out hmz (fun q hq e=>by
    obtain ⟨cur,hc⟩:=own_heapM HO10.out hq;rcases e with e | e
    ·rw [e,HGM10.out] at hc;have h7:=Obj.cells.inj (Option.some.inj hc);exact absurd h7.2.1 (by decide)
    ·rw [e,HRS10.out] at hc;have h7:=Obj.cells.inj (Option.some.inj hc);exact absurd h7.2.1 (by decide)))
   have HORS:=zh (show ∀ y ∈ M++[x],OrsAt w12 (toX y).ov y.n.span.ors from fun y hy=>by
    have h6:OrsAt w6 (toX y).ov y.n.span.ors:=by
     rcases List.mem_append.1 hy with hy | hy
     ·exact (HMO.out y hy).keep HM56.out (fun q cur fz ty e hc hm=>by
       have e2:q=gb:=e;rw [e2,HGM5.out] at hc;cases hc;revert hm;decide)
     ·rw [List.mem_singleton] at hy;subst hy;exact HXO.out.keep HM6.out (Apart.no _ _)
    exact ((h6.keep HM69.out HAP.out).keep HM910.out (Apart.no _ _)).keep hmz (hapz _ (by decide)))
   have HWRD:=zh (show Sl w12 No 9 (.slice qa pn qc) m.v.pre.length (strs m.v.pre) from by
    have h6:=HMP.out.apart HM56.out (show Apart [9] _ w5 from fun q cur fz ty e hc hm=>by
     have e2:q=gb:=e;rw [e2,HGM5.out] at hc;cases hc;revert hm;decide)
    exact ((h6.apart HM69.out (HAP.out.less (by simp))).apart HM910.out (Apart.no _ _)).apart hmz (hapz _ (by decide)))
   have HEND:=zh (show MftAt w12 (.agg #[.string N1,.int .i64 xa,.int .i64 xi,.int .i64 xp,.slice qa pn qc,.slice sa (k+1) sc]) { m with needs:=sortR ltNd (m.needs.filter (noNd x.n.name)++[x.n]) } from by
    have hmap:((sortR (ltOf cfNd) (M++[x])).map toX).map NdX.n=sortR ltNd (m.needs.filter (noNd x.n.name)++[x.n]):=by
     rw [List.map_map,show NdX.n∘toX=NdY.n from rfl,sort_nds,List.map_append,HMN.out];rfl
    have hlen:(sortR ltNd (m.needs.filter (noNd x.n.name)++[x.n])).length=k+1:=by
     rw [<- hmap,List.length_map,List.length_map,sortR_length,HML.out]
    refine ⟨qa,qc,sa,sc,?_,?_,(sortR (ltOf cfNd) (M++[x])).map toX,hmap,fun z hz=>?_,?_⟩
    ·rw [HMC2.out];dsimp only;rw [hlen,HPN.out]
    ·dsimp only;rw [HPN.out];have h:=HWRD.out;rw [HPN.out] at h;exact h
    ·obtain ⟨y,hy,rfl⟩:=List.mem_map.1 hz;exact HORS.out y ((sortR_mem _ _ _).1 hy)
    ·dsimp only;rw [hlen,toX_flat];exact Sl.of_own HOW.out (fun _ _ f=>f))
   exact bodyPost_ret (v:=.tuple #[.agg #[.string N1,.int .i64 xa,.int .i64 xi,.int .i64 xp,.slice qa pn qc,.slice sa (k+1) sc],.int .i64 0]) (by simp [results,results116,asAddr,hl9]) rfl (fin hR ⟨HRD.out _ _ HEND.out,HM12.out⟩)
end Go.Proofs.YticfcmdjplmaeaaGreatDoor
namespace Go.Proofs.YticfcmdjplmaeaaGreatDoor
open _root_.Go.Proofs.Tryz
open Go.RowKit
theorem rowcs_one (nm:ByteArray) (a b c:Int) (pa:Option Addr) (pn pc:Nat) (S:List UInt8) (n:Int):∀ u ∈ rowCs nm a b c (.slice pa pn pc) S n,u.oneCell'=true:=fun u hu=>by
 unfold rowCs bv at hu;simp only [List.mem_cons,List.mem_append,List.mem_map,List.not_mem_nil,or_false] at hu;rcases hu with rfl | (rfl | rfl | rfl | rfl) | ⟨_,_,rfl⟩ | rfl | rfl <;> rfl
theorem rw_new {w:World} {cs:List Value} {o:Oper} {ρ:Operand->Value} (hc:cs.length=39) (x:Operand) (ho:o.op=.buildSlice 54 1 #[(0,x)]) (hx:ρ x=.agg cs.toArray) :
  (execOp ρ o).run prog w=.ok (.value (.slice (some ⟨w.heap.size,0,none⟩) 1 1)) (w.alloc (.cells cs.toArray 107)):=by
 obtain ⟨i0,hi,hz0,hz1,hz2⟩:=info_parts info_row;have h:=run_buildSlice (P:=prog) w 54 107 1 #[(0,.agg cs.toArray)] cs.toArray i0 _ underlying54 hi hz0 (by rw [hz1];omega) (by rw [hz1];omega) (by
  rw [hz1];have h2:=Great.fill_whole (s:=39) (by decide) [Value.agg cs.toArray] ((Array.range (1*39)).map ((Value.agg (rowCs ⟨#[]⟩ 0 0 0 (.slice none 0 0) (List.replicate 32 0) 0).toArray).cells[· % (Value.agg (rowCs ⟨#[]⟩ 0 0 0 (.slice none 0 0) (List.replicate 32 0) 0).toArray).cells.size]!)) (fun v hv=>by
   simp at hv
   subst hv;show cs.toArray.size=39
   simp [hc]) (by simp)
  have h3:[Value.agg cs.toArray].flatMap (fun v=>v.cells.toList)=cs:=by
   show cs.toArray.toList++[]=cs
   simp
  rw [h3] at h2;exact h2)
 unfold execOp;simp only [ho,List.map_toArray,List.map_cons,List.map_nil,hx,Sem.run_bind];erw [h]
 rfl
theorem refver_u (l:List UInt8) (hl:l.length<=999999) (w:World) :
  Calls prog 11 #[strV l] w fun e w'=>(∃ (v:Ver) (pv:Value) (c:Int),e=.returned (.tuple #[verV v pv,.int .i64 c])/\Small v/\Sl w' No 9 pv v.pre.length (strs v.pre)/\((c=0/\verOf l=some v)\/(c=60/\verOf l=none)))/\Mod No w w' :=
 (versionof_any l (by omega) w).mono fun e w' ⟨h,hm⟩=>⟨by
  rcases h with ⟨h1,h2⟩ | ⟨v,pv,h1,h2,h3⟩
  ·exact ⟨_,_,60,h2,small_zero,.inl ⟨rfl,rfl,rfl⟩,.inr ⟨rfl,h1⟩⟩
  ·exact ⟨v,pv,0,h2,verOf_small hl h1,h3,.inl ⟨rfl,h1⟩⟩,hm⟩
theorem zero_row_ok (w:World):RwOk w ⟨zeroRw,.slice none 0 0,.slice none 0 0⟩:=⟨by simp [zeroRw],small_zero,.inl ⟨rfl,rfl,rfl⟩,_,_,_,rfl⟩
theorem findr_u {w:World} {xs:List RwX} {name:List UInt8} {v:Ver} {e:Ending} (hok:∀ x ∈ xs,RwOk w x) (th:Bool) (hth:th=(atL (xs.map RwX.r) name v).isSome) (h:FindR xs name v e):∃ ds:Array Value,e=.returned (.tuple #[.agg ds,.bool th])/\ds.size=39/\ds.all (·.oneCell')=true:=by
 subst hth;unfold FindR at h;cases ha:atL (xs.map RwX.r) name v with
 | none =>
  rw [ha] at h;exact ⟨_,h,by rw [List.size_toArray];exact RwX.cells_length _ rfl,rows_one (zero_row_ok w)⟩
 | some k =>
  rw [ha] at h;obtain ⟨x,h1,h2⟩:=h;have hx:=hok x (List.mem_of_getElem? h1);exact ⟨_,h2,by rw [List.size_toArray];exact RwX.cells_length x hx.sum,rows_one hx⟩
noncomputable def blkMd1:Code:=(blockAt 1 bodyMd).getD .skip
structure SrX where
 r:SRow
 nv:Value
def SrX.cells (x:SrX):List Value:=[.int .u8 (x.r.n:Int),.int .u8 (x.r.v:Int),x.nv,.int .u8 (x.r.kind:Int),.int .u8 (x.r.lie:Int)]
theorem SrX.cells_length (x:SrX):x.cells.length=5:=rfl
structure SrOk (w:World) (x:SrX):Prop where
 needs:SvX w No x.nv x.r.needs.length (u16s x.r.needs)
 few:x.r.needs.length<=20
 small:∀ t ∈ x.r.needs,t < 65536
theorem filesK_path (r:SRow):∀ f ∈ filesK r,f.path.length<=60000:=fun f hf=>by
 unfold filesK at hf;rw [List.mem_append,List.mem_append] at hf;rcases hf with (hf | hf) | hf
 ·simp only [List.mem_cons,List.not_mem_nil,or_false] at hf;rcases hf with rfl | rfl
  ·show libT.length<=60000
   decide
  ·simp [libT,nameK]
 ·split at hf
  ·obtain rfl:=List.mem_singleton.1 hf;show bigT.length<=60000
   decide
  ·cases hf
 ·split at hf
  ·cases hf
  ·obtain rfl:=List.mem_singleton.1 hf;show buildT.length<=60000
   decide
theorem info_u8s:(prog.info? 76).map (fun i=>(i.zero,i.size,i.bytes))=some (some (.slice none 0 0),1,24):=by kernel_rfl
theorem srow_info:(prog.info? 83).map (·.size)=some 5:=by kernel_rfl
theorem verTK_le' (k:Nat):(verTK k).length<=999999:=by have:=verTK_le k;omega
theorem verK_any (k:Nat) (w:World):Calls prog 11 #[strV (verTK k)] w fun e w'=>(∃ pv,e=.returned (.tuple #[verV (verK k) pv,.int .i64 0])/\Small (verK k)/\Sl w' No 9 pv (verK k).pre.length (strs (verK k).pre))/\Mod No w w':=by
 refine (refver_u (verTK k) (verTK_le' k) w).mono ?_;rintro e w' ⟨⟨v,pv,c,h1,h2,h3,h4⟩,hm⟩;have hg:=verK_good k;rcases h4 with ⟨rfl,h5⟩ | ⟨-,h5⟩
 ·rw [hg] at h5;obtain rfl:verK k=v:=Option.some.inj h5;exact ⟨⟨pv,h1,h2,h3⟩,hm⟩
 ·rw [hg] at h5;exact nomatch h5
structure RowsM (B:Nat) (w:World) (v:Value) (xs:List RwX):Prop where
 own:w.ownsRow B 107 39 v xs.length (xs.flatMap RwX.cells)
 each:∀ x ∈ xs,RwAt w x
theorem RowsM.no {B:Nat} {w w':World} {v:Value} {xs:List RwX} (h:RowsM B w v xs) (hm:Mod No w w'):RowsM B w' v xs :=
 ⟨own_keepM h.own hm (fun _ _ f=>f),fun x hx=>(h.each x hx).keep hm (Apart.no _ _)⟩
structure ArX where
 b:List UInt8
 v:Value
structure ArcsM (B:Nat) (w:World) (v:Value) (xs:List ArX):Prop where
 own:w.ownsRow B 76 1 v xs.length (xs.map ArX.v)
 each:∀ x ∈ xs,Sl w No 5 x.v x.b.length (bv x.b)
theorem ArcsM.no {B:Nat} {w w':World} {v:Value} {xs:List ArX} (h:ArcsM B w v xs) (hm:Mod No w w'):ArcsM B w' v xs :=
 ⟨own_keepM h.own hm (fun _ _ f=>f),fun x hx=>(h.each x hx).kn hm⟩
theorem own_twain {B B':Nat} {w:World} {e e':TypeId} {size size':Nat} {v v':Value} {n n':Nat} {xs xs':List Value} (h:w.ownsRow B e size v n xs) (h':w.ownsRow B' e' size' v' n' xs') (hne:e ≠ e'):∀ k,v.ownBlock=some k->¬ v'.ownBlock=some k:=fun k hk hk'=>by
 obtain ⟨c1,h1⟩:=own_heapM h hk;obtain ⟨c2,h2⟩:=own_heapM h' hk';rw [h1] at h2;cases h2
 exact hne rfl
theorem ndsK_le (name:List UInt8) (l:List Nat):(ndsK name l).length<=l.length:=by
 obtain ⟨-,-,n3⟩:=ndsK_good name l [] List.Pairwise.nil (fun n hn=>by cases hn);have:(ndsK name l).length<=0+l.length:=n3;omega
theorem RowsM.push {B:Nat} {w w':World} {v v':Value} {xs:List RwX} {x:RwX} (h:RowsM B w v xs) (hg:w.grownBy w' v.ownBlock) (ho:w'.ownsRow B 107 39 v' (xs.length+1) (xs.flatMap RwX.cells++RwX.cells x)) (hx:RwAt w x):RowsM B w' v' (xs++[x]):=by
 have hm:Mod (fun k=>v.ownBlock=some k) w w':=Mod.of_grown hg (fun k hk _=>hk);refine ⟨by simpa using ho,fun y hy=>?_⟩
 rcases List.mem_append.1 hy with hy | hy
 ·exact (h.each y hy).keep hm (own_apart h.own (by decide))
 ·obtain rfl:y=x:=by simpa using hy
  exact hx.keep hm (own_apart h.own (by decide))
theorem ArcsM.push {B:Nat} {w w':World} {v v':Value} {xs:List ArX} {x:ArX} (h:ArcsM B w v xs) (hg:w.grownBy w' v.ownBlock) (ho:w'.ownsRow B 76 1 v' (xs.length+1) (xs.map ArX.v++[x.v])) (hx:Sl w No 5 x.v x.b.length (bv x.b)):ArcsM B w' v' (xs++[x]):=by
 have hm:Mod (fun k=>v.ownBlock=some k) w w':=Mod.of_grown hg (fun k hk _=>hk);refine ⟨by simpa using ho,fun y hy=>?_⟩
 rcases List.mem_append.1 hy with hy | hy
 ·exact (h.each y hy).apart hm (own_apart h.own (by decide))
 ·obtain rfl:y=x:=by simpa using hy
  exact hx.apart hm (own_apart h.own (by decide))
theorem RowsM.beside {B:Nat} {w w':World} {v v2:Value} {xs:List RwX} {as':List ArX} (h:RowsM B w v xs) (ha:ArcsM B w v2 as') (hm:Mod (fun k=>v2.ownBlock=some k) w w'):RowsM B w' v xs :=
 ⟨own_keepM h.own hm (own_twain h.own ha.own (by decide)),fun x hx=>(h.each x hx).keep hm (own_apart ha.own (by decide))⟩
theorem ArcsM.beside {B:Nat} {w w':World} {v v2:Value} {xs:List RwX} {as':List ArX} (h:RowsM B w v xs) (ha:ArcsM B w v2 as') (hm:Mod (fun k=>v.ownBlock=some k) w w'):ArcsM B w' v2 as' :=
 ⟨own_keepM ha.own hm (own_twain ha.own h.own (by decide)),fun x hx=>(ha.each x hx).apart hm (own_apart h.own (by decide))⟩
theorem wpList_value {P:Program} {ops:Array Oper} {rest:List Oper} {o:Oper} {a:Act} {w w':World} {Q:Exit->Act->World->Prop} {v:Value} (hgd:o.guard=none) (hr:(execOp a.eval o).run P w=.ok (.value v) w') (h:wpList P ops Q rest (a.put o.dst v) w'):wpList P ops Q (o :: rest) a w :=
 wpList_plain hgd fun _ hK=>wp_value hr (hK _ _ h)
theorem wpList_loadrow {ops:Array Oper} {rest:List Oper} {o:Oper} {a:Act} {w:World} {Q:Exit->Act->World->Prop} (hgd:o.guard=none) (x:Operand) (ho:o.op=.load 107 x) (b:Nat) (cs:List Value) (hx:a.eval x=.pointer (some ⟨b,0,none⟩)) (hl:cs.length=39) (hb:w.heap[b]? = some (.cells cs.toArray 107 (0,0)))
  (h:wpList prog ops Q rest (a.put o.dst (.agg cs.toArray)) w):wpList prog ops Q (o :: rest) a w :=
 wpList_value hgd (yloadv (load_rowM (by rw [List.size_toArray];exact hl) hb) x ho hx) h
theorem wpList_bsrow {ops:Array Oper} {rest:List Oper} {o:Oper} {a:Act} {w:World} {Q:Exit->Act->World->Prop} (hgd:o.guard=none) (x:Operand) (ho:o.op=.buildSlice 54 1 #[(0,x)]) (cs:List Value) (hx:a.eval x=.agg cs.toArray) (hl:cs.length=39)
  (h:wpList prog ops Q rest (a.put o.dst (.slice (some ⟨w.heap.size,0,none⟩) 1 1)) (w.alloc (.cells cs.toArray 107))):wpList prog ops Q (o :: rest) a w :=
 wpList_value hgd (rw_new hl x ho hx) h
end Go.Proofs.YticfcmdjplmaeaaGreatDoor
