/-
  Layers 0 to 14: helps of the laws of indexes. No statement is proved here; no condition.
-/
import Derived.Test.YtmppeipgjcjdkaaGreatDoorX07
import Derived.Test.YtmppeipgjcjdkaaGreatDoorX02
import Derived.Test.YtmppeipgjcjdkaaGreatDoorX03
import Derived.Test.YtmppeipgjcjdkaaGreatDoorX06
import Derived.Test.YtmppeipgjcjdkaaGreatDoorX04
import Derived.Test.YtmppeipgjcjdkaaGreatDoorX05
import Derived.Test.YtmppeipgjcjdkaaGreatDoorX01
import Derived.Test.YtmppeipgjcjdkaaGreatDoorX00
import Derived.Great.CaseRows
namespace Go.Proofs.YtmppeipgjcjdkaaGreatDoor
open _root_.Go.Proofs.Tryz
open Go.RowKit
def hexDs:List UInt8:=[48,49,50,51,52,53,54,55,56,57,97,98,99,100,101,102]
def hexI (c:UInt8):Int:=match hexD c with
 | some x=>(x:Int)
 | none=>-1
theorem hexI_all:∀ n:Fin 256,Lib.indexByte hexDs (UInt8.ofNat n.1)=hexI (UInt8.ofNat n.1):=by decide +kernel
theorem hexI_of (c:UInt8):Lib.indexByte hexDs c=hexI c:=by
 have:=hexI_all ⟨c.toNat,UInt8.toNat_lt c⟩
 rwa [UInt8.ofNat_toNat] at this
theorem indexhex_any (c:UInt8) (w:World):Calls prog 151 #[.string ⟨#[48,49,50,51,52,53,54,55,56,57,97,98,99,100,101,102]⟩,.int .u8 (c.toNat:Int)] w fun e w'=>e=.returned (.int .i64 (hexI c))/\w'=w :=
 (Tryz.strings_IndexByte ⟨#[48,49,50,51,52,53,54,55,56,57,97,98,99,100,101,102]⟩ (c.toNat:Int) w).mono fun e w' ⟨he,hw⟩=>⟨he.trans (by
  rw [<- hexI_of c]
  rw [show ((c.toNat:Int)).toNat.toUInt8=c by rw [Int.toNat_natCast];simp]
  rfl),hw⟩
def AnyKey (cs:Array Value):Prop:=cs.size=32/\∀ j,j < 32->∃ x:Int,cs[j]? = some (.int .u8 x)
theorem AnyKey.set {cs:Array Value} (h:AnyKey cs) (j:Nat) (x:Int):AnyKey (cs.setIfInBounds j (.int .u8 x)):=by
 refine ⟨by rw [Array.size_setIfInBounds];exact h.1,fun i hi=>?_⟩
 rw [Array.getElem?_setIfInBounds]
 by_cases hij:j=i
 ·subst hij
  rw [if_pos rfl,if_pos (by rw [h.1];exact hi)]
  exact ⟨x,rfl⟩
 ·rw [if_neg hij]
  exact h.2 i hi
theorem zero_key:AnyKey (bv (List.replicate 32 0)).toArray:=by
 refine ⟨by simp,fun j hj=>⟨0,?_⟩⟩
 rw [List.getElem?_toArray,bv_get _ _ (by simpa using hj),List.getElem_replicate]
 rfl
theorem sum_none {l:List UInt8} (hs:sumL l=none):l.length ≠ 64\/(l.length=64/\∃ m,∃ hm:m < l.length,hexD l[m]=none/\∀ i (hi:i < l.length),i < m->∃ x,hexD l[i]=some x/\x < 16):=by
 by_cases h64:l.length=64
 ·refine .inr ⟨h64,?_⟩
  cases hf:l.findIdx? (fun c=>(hexD c).isNone) with
  | none =>
   obtain ⟨S,hS⟩:=unhex_some (l:=l) (by omega) (fun i hi e=>by
    have:=List.findIdx?_eq_none_iff.1 hf _ (List.getElem_mem hi)
    rw [e] at this;cases this)
   unfold sumL at hs
   rw [if_pos h64,hS] at hs
   cases hs
  | some m =>
   obtain ⟨hm,h1,h2⟩:=List.findIdx?_eq_some_iff_getElem.1 hf
   refine ⟨m,hm,by simpa using h1,fun i hi hlt=>?_⟩
   cases hx:hexD l[i] with
   | none=>exact absurd (by rw [hx];rfl) (h2 i hlt)
   | some x=>exact ⟨x,rfl,(digit_hexD hx).1⟩
 ·exact .inl h64
set_option maxRecDepth 100000 in
set_option maxHeartbeats 4000000 in
theorem parse_bad (l:List UInt8) (hs:sumL l=none) (w:World) :
  Calls prog 91 #[strV l] w fun e w'=>e=.returned (.tuple #[keyV (List.replicate 32 0),.bool false])/\Mod No w w':=by
 refine calls_hide fun R hR=>?_
 have HX:=zh (run_at l)
 have HZ:=zh (str_len3 l)
 have HC:=zh (sum_none hs)
 unfold strV at *
 generalize (⟨l.toArray⟩:ByteArray)=Z at *
 have hZs:(Z.size:Int)=(l.length:Int):=by rw [HZ.out]
 go_enter func91,ntmps91
 go_upto_region 1 with fail
 obtain ⟨rb,hrb⟩:∃ g,g=w.heap.size:=⟨_,rfl⟩
 rw [<- hrb]
 generalize hw1:World.alloc w _=w1
 have HM1:=zh (show Mod No w w1 by rw [<- hw1];exact (Mod.refl No w).alloc _)
 have HR1:=zh (show w1.heap[rb]? = some (.cells (bv (List.replicate 32 0)).toArray 47 (0,0)) by rw [<- hw1,hrb];exact heap_alloc_new w _)
 have HRB:=zh hrb
 clear hw1 hrb
 go_upto_region 2 with fail
 obtain ⟨kb,hkb⟩:∃ g,g=w1.heap.size:=⟨_,rfl⟩
 rw [<- hkb]
 generalize hw2:World.alloc w1 _=w2
 have HM2:=zh (show Mod No w w2 by rw [<- hw2];exact HM1.out.alloc _)
 have HR2:=zh (show w2.heap[rb]? = some (.cells (bv (List.replicate 32 0)).toArray 47 (0,0)) by rw [<- hw2];exact heap_alloc_old _ HR1.out)
 have HK2:=zh (show w2.heap[kb]? = some (.cells (bv (List.replicate 32 0)).toArray 47 (0,0)) by rw [<- hw2,hkb];exact heap_alloc_new w1 _)
 have HKB:=zh (show rb < kb by rw [hkb];exact lt_of_heap HR1.out)
 clear hw2 hkb HM1 HR1
 obtain ⟨zs,hzs⟩:∃ zs,zs=List.replicate 32 (0:UInt8):=⟨_,rfl⟩
 have hzl:zs.length=32:=by rw [hzs];rfl
 have HZS:=zh hzs
 have HZL:=zh hzl
 rw [<- hzs] at hR
 clear hzs hzl
 rcases HC.out with h64 | ⟨h64,m,hm,hbad,hgood⟩
 ·have hn:((l.length:Int) != 64)=true:=by simp;omega
  go_wp2_with (refine wpList_store_row rfl 47 _ _ rfl rb (bv zs).toArray rfl (by rw [HZS.out];rfl) 47 _ HR2.out (key_size HZL.out) (by simp [HZL.out]) (by simp [bv,Value.oneCell']) ?_)
  have hr4:=setRow_heap _ _ _ (bv zs).toArray _ _ HR2.out
  have hmm4:=zh (HM2.out.setRow (fun h=>by have:=HRB.out;omega) (bv zs).toArray:Mod No w (w2.setRow rb (bv zs).toArray))
  have hl:=run_loadVar_row (P:=prog) (w2.setRow rb (bv zs).toArray) rb 47 47 (bv zs).toArray (0,0) _ hr4 underlying47 rfl (key_size HZL.out)
  exact bodyPost_ret (v:=.tuple #[keyV zs,.bool false]) (by simp [results,results91,asAddr,hl]) rfl (fin hR ⟨rfl,hmm4.out⟩)
 ·have hl64:(l.length:Int)=64:=by omega
  have hz64:(Z.size:Int)=64:=by omega
  have hm64:m < 64:=by omega
  have HBAD:=zh (show hexI l[m] = -1 by unfold hexI;rw [hbad])
  have HGOOD:=zh hgood
  have HKK:=zh (show AnyKey (bv (List.replicate 32 0)).toArray from zero_key)
  clear hbad hgood hZs HC
  go_wp2_with fail
  go_loopw [13] (fun q wr=>∃ (i:Nat) (cs:Array Value),i<=m/\q=.int .i64 (i:Int)/\Mod No w wr/\wr.heap[rb]? = some (.cells (bv (List.replicate 32 0)).toArray 47 (0,0))/\wr.heap[kb]? = some (.cells cs 47 (0,0))/\AnyKey cs) (fun q _=>64 - (intOf q).toNat)
  case atStart=>exact ⟨0,_,by omega,rfl,HM2.out,HR2.out,HK2.out,HKK.out⟩
  case round =>
   obtain ⟨i,cs,him,rfl,hmod,hr,hk,hcs⟩:=hrel
   have HM3:=zh hmod
   have HR3:=zh hr
   have HK3:=zh hk
   have HCS:=zh hcs
   have hi0:(0:Int)<=(i:Int):=Int.natCast_nonneg _
   have hi64:(i:Int) < 64:=by omega
   have hidx:=HX.out i (by omega)
   have HIH:=zh (indexhex_any l[i])
   clear hmod hr hk hcs
   by_cases hie:i=m
   ·subst hie
    rw [HBAD.out] at HIH
    generalize (l[i].toNat:Int)=ch at *
    clear HK3 HCS HK2 HR2
    go_wp2_with (first | (refine wpList_store_row rfl 47 _ _ rfl rb (bv zs).toArray rfl (by rw [HZS.out];rfl) 47 _ HR3.out (key_size HZL.out) (by simp [HZL.out]) (by simp [bv,Value.oneCell']) ?_) | (go_at_call 151;refine (HIH.out _).mono ?_;rintro e w4 ⟨rfl,rfl⟩))
    have hr4:=setRow_heap _ _ _ (bv zs).toArray _ _ HR3.out
    have hmm4:=zh (HM3.out.setRow (fun h=>by have:=HRB.out;omega) (bv zs).toArray:Mod No w (w4.setRow rb (bv zs).toArray))
    have hl:=run_loadVar_row (P:=prog) (w4.setRow rb (bv zs).toArray) rb 47 47 (bv zs).toArray (0,0) _ hr4 underlying47 rfl (key_size HZL.out)
    exact bodyPost_ret (v:=.tuple #[keyV zs,.bool false]) (by simp [results,results91,asAddr,hl]) rfl (fin hR ⟨rfl,hmm4.out⟩)
   ·obtain ⟨x,hx,hx16⟩:=HGOOD.out i (by omega) (by omega)
    have HXI:=zh (show hexI l[i]=(x:Int) by unfold hexI;rw [hx])
    rw [HXI.out] at HIH
    obtain ⟨y,hy⟩:=HCS.out.2 (i / 2) (by omega)
    generalize (l[i].toNat:Int)=ch at *
    obtain ⟨j,hj⟩:∃ j,j=i / 2:=⟨_,rfl⟩
    rw [<- hj] at hy
    have c0:wr.cell? ⟨kb,j,none⟩=some (.int .u8 y):=cell_ofA HK3.out hy
    have f0:=frozen_of j HK3.out
    have q1:(i:Int) / 2=(j:Int):=by omega
    have q1':Int.tdiv (i:Int) 2=(j:Int):=by rw [Int.tdiv_eq_ediv_of_nonneg hi0];exact q1
    have j0:(0:Int)<=(j:Int):=Int.natCast_nonneg _
    have j1:(j:Int) < 32:=by omega
    have x0:(0:Int)<=(x:Int):=Int.natCast_nonneg _
    have x1:(x:Int) < 16:=by omega
    clear hj hx hy
    go_wp2_with fail
    with_reducible refine (HIH.out _).mono ?_
    rintro e w4 ⟨rfl,hw4⟩
    subst hw4
    go_wp2_with fail
    have hkb:=HKB.out
    exact ⟨⟨i+1,_,by omega,rfl,HM3.out.setCell (fun h=>by have:=HRB.out;dsimp only at h;omega) _,by rw [heap_setCell_ne _ (by dsimp only;omega)];exact HR3.out,by rw [heap_setCell HK3.out],HCS.out.set _ _⟩,by show 64 - ((i:Int)+1).toNat < 64 - (i:Int).toNat;omega⟩
theorem verOf_small {l:List UInt8} {v:Ver} (hl:l.length<=999999) (h:verOf l=some v):Small v:=by
 have hp:v.pre=preOf l:=by
  match hs:splitC 46 (headC 45 l) with
  | [a,b,c] =>
   rw [verOf_three hs] at h
   split at h
   ·rw [<- Option.some.inj h]
   ·cases h
  | []=>rw [verOf_len (by rw [hs];decide)] at h;cases h
  | [_]=>rw [verOf_len (by rw [hs];simp)] at h;cases h
  | [_,_]=>rw [verOf_len (by rw [hs];simp)] at h;cases h
  | _ :: _ :: _ :: _ :: _=>rw [verOf_len (by rw [hs];simp)] at h;cases h
 have ht:=tailC_le 45 l
 constructor
 ·rw [hp]
  unfold preOf
  split
  ·have:=splitC_length_le 46 (tailC 45 l)
   omega
  ·simp
 ·rw [hp]
  intro x hx
  unfold preOf at hx
  split at hx
  ·have:=splitC_mem_le 46 _ x hx
   omega
  ·cases hx
theorem small_zero:Small ⟨0,0,0,[]⟩:=⟨by simp,fun x hx=>by cases hx⟩
theorem verparse_u (l:List UInt8) (hl:l.length<=999999) (w:World) (hg:Gl w) :
  Calls prog 158 #[strV l] w fun e w'=>(∃ (v:Ver) (pv:Value) (c:Int),e=.returned (.tuple #[verV v pv,.int .i64 c])/\Small v/\Sl w' (Old w) 9 pv v.pre.length (strs v.pre)/\((c=0/\verOf l=some v)\/(c=60/\verOf l=none)))/\Mod No w w' :=
 (verparse_any l (by omega) w hg).mono fun e w' ⟨h,hm⟩=>⟨by
  rcases h with ⟨h1,h2⟩ | ⟨v,pv,h1,h2,h3⟩
  ·exact ⟨_,_,60,h2,small_zero,.inl ⟨rfl,rfl,rfl⟩,.inr ⟨rfl,h1⟩⟩
  ·exact ⟨v,pv,0,h2,verOf_small hl h1,h3,.inl ⟨rfl,h1⟩⟩,hm⟩
theorem shaparse_u (l:List UInt8) (w:World) :
  Calls prog 91 #[strV l] w fun e w'=>(∃ (S:List UInt8) (ok:Bool),e=.returned (.tuple #[keyV S,.bool ok])/\S.length=32/\(if ok then sumL l=some S else sumL l=none))/\Mod No w w':=by
 cases hs:sumL l with
 | none=>exact (parse_bad l hs w).mono fun e w' ⟨h,hm⟩=>⟨⟨_,false,h,by simp,rfl⟩,hm⟩
 | some S =>
  obtain ⟨h1,h2⟩:=sum_of hs
  subst h2
  exact (parse_any S h1 w).mono fun e w' ⟨h,hm⟩=>⟨⟨S,true,h,h1,rfl⟩,hm⟩
theorem allO_mem {α β:Type} {f:α->Option β}:∀ {l:List α} {ys:List β},allO f l=some ys->∀ y ∈ ys,∃ x ∈ l,f x=some y
 | [],ys,h,y,hy=>by cases h;cases hy
 | a :: l,ys,h,y,hy=>by
  rw [allO] at h
  cases ha:f a with
  | none=>rw [ha] at h;simp at h
  | some b =>
   cases hl:allO f l with
   | none=>rw [ha,hl] at h;simp at h
   | some zs =>
    rw [ha,hl] at h
    simp only [Option.some.injEq] at h
    subst h
    rcases List.mem_cons.1 hy with rfl | hy
    ·exact ⟨a,by simp,ha⟩
    ·obtain ⟨x,hx,e⟩:=allO_mem hl y hy
     exact ⟨x,by simp [hx],e⟩
theorem next_small (v:Ver) (p:Nat):Small (nextV v p):=by
 have h:(nextV v p).pre=[]:=by
  unfold nextV
  split
  ·split <;> rfl
  ·split
   ·split <;> rfl
   ·split <;> rfl
 exact ⟨by rw [h];simp,by rw [h];intro x hx;cases hx⟩
theorem boundsL_ok {w:List UInt8} {bs:List Bnd} (hl:w.length<=999999) (h:boundsL w=some bs):bs.length<=2/\∀ b ∈ bs,Small b.v:=by
 unfold boundsL at h
 obtain ⟨v,hv,rfl⟩:=Option.map_eq_some_iff.1 h
 have hs:Small v:=verOf_small (by rw [List.length_drop];omega) hv
 unfold boundsV
 split
 ·exact ⟨by simp,fun b hb=>by obtain rfl:=List.mem_singleton.1 hb;exact hs⟩
 ·split
  ·exact ⟨by simp,fun b hb=>by
    simp only [List.mem_cons,List.not_mem_nil,or_false] at hb
    rcases hb with rfl | rfl
    ·exact hs
    ·dsimp only;exact next_small _ _⟩
  ·split
   ·exact ⟨by simp,fun b hb=>by
     simp only [List.mem_cons,List.not_mem_nil,or_false] at hb
     rcases hb with rfl | rfl
     ·exact hs
     ·dsimp only;exact next_small _ _⟩
   ·exact ⟨by simp,fun b hb=>by obtain rfl:=List.mem_singleton.1 hb;exact hs⟩
theorem flat_few {α:Type} {k:Nat}:∀ {ls:List (List α)},(∀ l ∈ ls,l.length<=k)->ls.flatten.length<=ls.length*k
 | [],_=>by simp
 | l :: ls,h=>by
  have h1:=h l (by simp)
  have h2:=flat_few (ls:=ls) (fun x hx=>h x (by simp [hx]))
  rw [List.flatten_cons,List.length_append,List.length_cons,Nat.succ_mul]
  omega
theorem listL_ok {x:List UInt8} {bs:List Bnd} (hl:x.length<=999999) (h:listL x=some bs):BndsOk bs:=by
 unfold listL at h
 split at h
 ·cases h
 ·rename_i h8
  obtain ⟨ls,hls,rfl⟩:=Option.map_eq_some_iff.1 h
  have hm:∀ l ∈ ls,l.length<=2/\∀ b ∈ l,Small b.v:=fun l hl2=>by
   obtain ⟨w,hw,e⟩:=allO_mem hls l hl2
   exact boundsL_ok (by have:=(words_mem_le x w hw).1;omega) e
  have hn:=allO_length hls
  have hf:=flat_few (fun l hl=>(hm l hl).1)
  refine ⟨by have:(wordsL x).length<=8:=(by omega);omega,fun b hb=>?_⟩
  obtain ⟨l,hl2,hb2⟩:=List.mem_flatten.1 hb
  exact (hm l hl2).2 b hb2
theorem spanL_ok {l:List UInt8} {s:Spn} (hl:l.length<=999999) (h:spanL l=some s):SpnOk s:=by
 unfold spanL at h
 split at h
 ·cases h
  exact ⟨by simp,fun x hx=>by cases hx⟩
 ·split at h
  ·cases h
  ·rename_i h8
   obtain ⟨ls,hls,rfl⟩:=Option.map_eq_some_iff.1 h
   have hn:=allO_length hls
   refine ⟨by dsimp only;omega,fun x hx=>?_⟩
   obtain ⟨w,hw,e⟩:=allO_mem hls x hx
   exact listL_ok (by have:=splitO_mem_le l w hw;omega) e
theorem needLine_ok {s:List UInt8} {n:Nd} (hl:s.length<=999999) (h:needLine s=some n):SpnOk n.span:=by
 unfold needLine at h
 split at h
 ·unfold needL at h
  split at h
  ·obtain ⟨sp,hsp,rfl⟩:=Option.map_eq_some_iff.1 h
   refine spanL_ok ?_ hsp
   have:=tailC_le 32 (s.drop 5)
   rw [List.length_drop] at this
   omega
  ·cases h
 ·cases h
structure MfOk (m:Mf):Prop where
 small:Small m.v
 nds:∀ n ∈ m.needs,SpnOk n.span
 few:m.needs.length<=20
theorem mstep_ok {n:Nat} {m m':Mf} {s:List UInt8} (hl:s.length<=999999) (h:MfOk m) (hs:mstep n m s=some m'):MfOk m':=by
 unfold mstep at hs
 split at hs
 ·split at hs
  ·cases hs;exact ⟨h.small,h.nds,h.few⟩
  ·cases hs
 ·split at hs
  ·split at hs
   ·obtain ⟨v,hv,rfl⟩:=Option.map_eq_some_iff.1 hs
    exact ⟨verOf_small (by rw [List.length_drop];omega) hv,h.nds,h.few⟩
   ·cases hs
  ·obtain ⟨x,hx,hs⟩:=Option.bind_eq_some_iff.1 hs
   split at hs
   ·cases hs
   ·rename_i hq
    cases hs
    refine ⟨h.small,fun n hn=>?_,?_⟩
    ·rcases List.mem_append.1 hn with hn | hn
     ·exact h.nds n hn
     ·obtain rfl:=List.mem_singleton.1 hn
      exact needLine_ok hl hx
    ·have:=h.few
     have h20:m.needs.length ≠ 20:=fun e=>hq (.inr (.inr e))
     dsimp only
     rw [List.length_append,List.length_singleton]
     omega
theorem mlines_ok:∀ {l:List (List UInt8)} {n k:Nat} {m m':Mf},(∀ x ∈ l,x.length<=999999)->MfOk m->mlines n m l=some (k,m')->MfOk m'
 | [],n,k,m,m',_,h,hs=>by cases hs;exact h
 | s :: l,n,k,m,m',hl,h,hs=>by
  rw [mlines] at hs
  split at hs
  ·exact mlines_ok (fun x hx=>hl x (by simp [hx])) h hs
  ·cases hm:mstep n m s with
   | none=>rw [hm] at hs;cases hs
   | some m2 =>
    rw [hm] at hs
    exact mlines_ok (fun x hx=>hl x (by simp [hx])) (mstep_ok (hl s (by simp)) h hm) hs
theorem mfOf_ok {s:List UInt8} {m:Mf} (h:mfOf s=some m):MfOk m:=by
 unfold mfOf at h
 split at h
 ·cases h
 ·rename_i hlong
  cases hm:mlines 0 mf0 (linesL s) with
  | none=>rw [hm] at h;cases h
  | some km =>
   obtain ⟨k,m2⟩:=km
   rw [hm] at h
   dsimp only at h
   split at h
   ·cases h
   ·cases h
    have hok:MfOk m2:=mlines_ok (fun x hx=>by
     have:x.length<=s.length:=by
      unfold linesL at hx
      split at hx
      ·exact splitC_mem_le 10 s x ((List.dropLast_sublist _).subset hx)
      ·exact splitC_mem_le 10 s x hx
     omega) ⟨small_zero,fun n hn=>(by cases hn),by simp [mf0]⟩ hm
    exact ⟨hok.small,fun n hn=>hok.nds n ((sortR_mem _ _ _).1 hn),by dsimp only;rw [sortR_length];exact hok.few⟩
theorem pinL_len {s:List UInt8} (h:(splitC 32 s).length ≠ 3):pinL s=none:=by
 unfold pinL
 match hs:splitC 32 s,h with
 | [],_=>rfl
 | [_],_=>rfl
 | [_,_],_=>rfl
 | [_,_,_],h=>exact absurd rfl h
 | _ :: _ :: _ :: _ :: _,_=>rfl
theorem pinL_three {s a b c:List UInt8} (h:splitC 32 s=[a,b,c]):pinL s=if nameB a=true then (verOf b).bind fun v=>(sumL c).map fun k=>⟨a,v,k⟩ else none:=by
 unfold pinL
 rw [h]
def PinRes (w':World) (s:List UInt8) (n:Int) (e:Ending):Prop:=(pinL s=none/\e=StoppedL n) ∨
 ∃ x:PnX,pinL s=some x.p/\e=.returned (.agg (PnX.cells x).toArray)/\x.p.sum.length=32/\Small x.p.v/\Sl w' No 9 x.pv x.p.v.pre.length (strs x.p.v.pre)
set_option maxRecDepth 100000 in
set_option maxHeartbeats 8000000 in
theorem pin_any (l:List UInt8) (n:Int) (hl:l.length<=100000) (w:World) (hgl:Gl w) :
  Calls prog 108 #[strV l,.int .i64 n] w fun e w'=>PinRes w' l n e/\Mod No w w':=by
 refine calls_hide fun R hR=>?_
 have HSP:=zh (split_any 32 l (by omega))
 have HSM:=zh (splitC_mem_le 32 l)
 have HNO:=zh (pinL_len (s:=l))
 have HFI:=zh (fun a b c=>pinL_three (s:=l) (a:=a) (b:=b) (c:=c))
 have HG:=zh hgl
 have HMY:=zh (lmust_yes n)
 have HMN:=zh (lmust_no n)
 obtain ⟨zs,hzs⟩:∃ zs,zs=pnCs ⟨#[]⟩ 0 0 0 (.slice none 0 0) (List.replicate 32 0):=⟨_,rfl⟩
 have HZS:=zh hzs
 have HZL:=zh (show zs.toArray.size=37 by rw [hzs];exact pnCs_length (by simp) _ _ _ _ _)
 unfold strV at *
 generalize (⟨l.toArray⟩:ByteArray)=Z at *
 clear hgl hzs
 go_enter func108,ntmps108
 go_upto_region 1 with fail
 obtain ⟨rb,hrb⟩:∃ g,g=w.heap.size:=⟨_,rfl⟩
 rw [<- hrb]
 generalize hw1:World.alloc w _=w1
 have HR1:=zh (show w1.heap[rb]? = some (.cells zs.toArray 49 (0,0)) by rw [<- hw1,hrb,HZS.out];exact heap_alloc_new w _)
 have HM1:=zh (show Mod No w w1 by rw [<- hw1];exact (Mod.refl No w).alloc _)
 have HRB:=zh hrb
 clear hw1 hrb
 go_wp2_with fail
 with_reducible refine (HSP.out _ (HG.out.stay HM1.out (fun f=>f))).mono ?_
 rintro e w2 ⟨sv,rfl,hown,hm2⟩
 have HM2:=zh (HM1.out.trans hm2)
 have HR2:=zh (hm2.keep HR1.out (fun f=>f))
 have HS2:=zh (Sl.of_own (X:=fun k=>k=rb) hown (fun k hk e=>by have:=lt_of_heap HR1.out;omega))
 clear hm2 HR1 HM1 hown HSP
 obtain ⟨sa,sc,rfl⟩:=HS2.out.len
 have hsm:=HSM.out
 have hno:=HNO.out
 have hfi:=HFI.out
 clear HSM HNO HFI
 generalize splitC 32 l=ws at *
 by_cases h3:ws.length=3
 ·obtain ⟨pB,pC,pD,rfl⟩:∃ a b c,ws=[a,b,c]:=by
   match ws,h3 with
   | [a,b,c],_=>exact ⟨a,b,c,rfl⟩
  have HL:=zh (hfi pB pC pD rfl)
  have hlB:=hsm pB (by simp)
  have hlC:=hsm pC (by simp)
  clear hsm hno hfi h3
  have e3:[pB,pC,pD].length=3:=rfl
  rw [e3] at HS2
  rw [e3]
  clear e3
  obtain ⟨sb,so,sc',hsv,_,_,hnx⟩:=HS2.out.shape (by decide)
  cases hsv
  have HNS:=zh (show sb ≠ rb from hnx)
  have ca:=HS2.out.cellN (i:=0) (by simp)
  have cb:=HS2.out.cellN (i:=1) (by simp)
  have cc:=HS2.out.cellN (i:=2) (by simp)
  have HC1:=zh (show w2.cell? ⟨sb,so,none⟩=some (strV pB) from ca)
  have HC2:=zh (show w2.cell? ⟨sb,so+1,none⟩=some (strV pC) from cb)
  have HC3:=zh (show w2.cell? ⟨sb,so+2,none⟩=some (strV pD) from cc)
  clear ca cb cc hnx HS2
  have HNM:=zh (name_any pB (by omega))
  have HVP:=zh (verparse_u pC (by omega))
  have HKP:=zh (shaparse_u pD)
  obtain ⟨A,hA⟩:∃ A:ByteArray,A=⟨pB.toArray⟩:=⟨_,rfl⟩
  have HA:=zh hA
  unfold strV at *
  rw [<- hA] at HC1 HNM
  clear hA
  generalize (⟨pC.toArray⟩:ByteArray)=A2 at *
  generalize (⟨pD.toArray⟩:ByteArray)=A3 at *
  have HA1:=HC1.out
  go_wp2_with fail
  with_reducible refine (HNM.out _).mono ?_
  rintro e w9 ⟨rfl,h9⟩
  rw [h9]
  clear h9 w9
  cases hnb:nameB pB with
  | false =>
   have HN:=zh (show pinL l=none by rw [HL.out,hnb];rfl)
   clear hnb
   go_wp2_with fail
   with_reducible refine (HMN.out _).mono ?_
   rintro e w9 ⟨rfl,h9⟩
   rw [h9]
   clear h9 w9
   go_wp2_with fail
   exact ⟨rfl,fin hR ⟨.inl ⟨HN.out,rfl⟩,HM2.out⟩⟩
  | true =>
   have HL2:=zh (show pinL l=(verOf pC).bind fun v=>(sumL pD).map fun k=>⟨pB,v,k⟩ by rw [HL.out,if_pos hnb])
   clear hnb HL HNM
   have hc2:=HC2.out
   go_wp2_with fail
   with_reducible refine (HMY.out _).mono ?_
   rintro e w9 ⟨rfl,h9⟩
   rw [h9]
   clear h9 w9
   go_wp2_with fail
   with_reducible refine (HVP.out _ (HG.out.stay HM2.out (fun f=>f))).mono ?_
   rintro e w3 ⟨⟨⟨va,vi,vp,pr⟩,pv,vc,rfl,hsmall,hpv,hver⟩,hm3⟩
   have HSL:=zh hsmall
   have HVE:=zh hver
   obtain ⟨pa,pc,rfl⟩:=hpv.len
   obtain ⟨pn,hpn⟩:∃ n,n=pr.length:=⟨_,rfl⟩
   have HP3:=zh (show Sl w3 No 9 (.slice pa pn pc) pr.length (strs pr) by rw [hpn];exact hpv.shrink (fun k hk f=>f.elim))
   have HM3:=zh (HM2.out.trans hm3)
   have HR3:=zh (hm3.keep HR2.out (fun f=>f))
   have HC1b:=zh (hm3.cell HC1.out (fun f=>f))
   have HC3b:=zh (hm3.cell HC3.out (fun f=>f))
   unfold verV
   dsimp only at *
   rw [<- hpn]
   clear hpn hsmall hver hpv hm3 HM2 HR2 HC1 HC2 HC3 hc2 HA1 HVP
   go_upto_region 4 with fail
   obtain ⟨vb,hvb⟩:∃ g,g=w3.heap.size:=⟨_,rfl⟩
   rw [<- hvb]
   generalize hw3a:World.alloc w3 _=w3a
   have HV3:=zh (show w3a.heap[vb]? = some (.cells #[.int .i64 va,.int .i64 vi,.int .i64 vp,.slice pa pn pc] 45 (0,0)) by rw [<- hw3a,hvb];exact heap_alloc_new w3 _)
   have hm3a:Mod No w3 w3a:=by rw [<- hw3a];exact (Mod.refl No w3).alloc _
   have HM3a:=zh (HM3.out.trans hm3a)
   have HP3a:=zh (HP3.out.kn hm3a)
   have HR3a:=zh (hm3a.keep HR3.out (fun f=>f))
   have HC1a:=zh (hm3a.cell HC1b.out (fun f=>f))
   have hc3:=hm3a.cell HC3b.out (fun f=>f)
   have HNV:=zh (show vb ≠ rb by have:=lt_of_heap HR3.out;omega)
   clear hw3a hm3a hvb HM3 HP3 HR3 HC1b HC3b
   go_wp2_with fail
   with_reducible refine (HKP.out _).mono ?_
   rintro e w4a ⟨⟨S,sok,rfl,hS32,hsum⟩,hm4a⟩
   have HS32:=zh hS32
   have HSUM:=zh hsum
   have HM4a:=zh (HM3a.out.trans hm4a)
   have HP4a:=zh (HP3a.out.kn hm4a)
   have HR4a:=zh (hm4a.keep HR3a.out (fun f=>f))
   have HV4a:=zh (hm4a.keep HV3.out (fun f=>f))
   have HC1c:=zh (hm4a.cell HC1a.out (fun f=>f))
   clear hm4a hS32 hsum HM3a HP3a HR3a HV3 HC1a hc3 HKP
   go_upto_region 5 with (refine wpList_store_row rfl 47 _ _ rfl w4a.heap.size (bv S).toArray rfl rfl 47 _ (heap_alloc_new w4a _) (key_size HS32.out) (by simp [HS32.out]) (by simp [bv,Value.oneCell']) ?_)
   obtain ⟨kb,hkb⟩:∃ g,g=w4a.heap.size:=⟨_,rfl⟩
   rw [<- hkb]
   generalize hw4:World.setRow _ kb _=w4
   have HK4:=zh (show w4.heap[kb]? = some (.cells (bv S).toArray 47 (0,0)) by rw [<- hw4,hkb];exact setRow_heap _ _ _ _ _ _ (heap_alloc_new w4a _))
   have hm4b:Mod No w4a w4:=by rw [<- hw4,hkb];exact ((Mod.refl No w4a).alloc _).setRow (fun h=>absurd h (by omega)) _
   have HM4:=zh (HM4a.out.trans hm4b)
   have HP4:=zh (HP4a.out.kn hm4b)
   have HR4:=zh (hm4b.keep HR4a.out (fun f=>f))
   have HV4:=zh (hm4b.keep HV4a.out (fun f=>f))
   have HC4:=zh (hm4b.cell HC1c.out (fun f=>f))
   have HNK:=zh (show kb ≠ rb by have:=lt_of_heap HR4a.out;omega)
   clear hw4 hm4b hkb HM4a HP4a HR4a HV4a HC1c
   have HVC:=zh (show vc=0\/vc=60 from HVE.out.elim (fun h=>.inl h.1) (fun h=>.inr h.1))
   have HBAD:=zh (show vc=60\/sok=false->pinL l=none from fun h=>by
    rw [HL2.out]
    have hsum:=HSUM.out
    rcases HVE.out with ⟨rfl,hv⟩ | ⟨rfl,hv⟩
    ·rcases h with h | rfl
     ·cases h
     ·rw [if_neg (by simp)] at hsum;rw [hv,hsum];rfl
    ·rw [hv];rfl)
   have HGOOD:=zh (show vc=0->sok=true->∀ w',Sl w' No 9 (.slice pa pn pc) pr.length (strs pr)->PinRes w' l n (.returned (.agg (pnCs A va vi vp (.slice pa pn pc) S).toArray)) from fun h1 h2 w' hp=>by
    have hsum:=HSUM.out
    rw [h2,if_pos rfl] at hsum
    rcases HVE.out with ⟨-,hv⟩ | ⟨h3,hv⟩
    ·exact .inr ⟨⟨⟨pB,⟨va,vi,vp,pr⟩,S⟩,.slice pa pn pc⟩,by rw [HL2.out,hv,hsum];rfl,by rw [HA.out];rfl,HS32.out,HSL.out,hp⟩
    ·rw [h1] at h3;cases h3)
   rcases HVC.out with rfl | rfl
   ·rcases sok with _ | _
    ·have HN:=zh (HBAD.out (.inr rfl))
     go_wp2_with fail
     with_reducible refine (HMN.out _).mono ?_
     rintro e w9 ⟨rfl,h9⟩
     rw [h9]
     clear h9 w9
     go_wp2_with fail
     exact ⟨rfl,fin hR ⟨.inl ⟨HN.out,rfl⟩,HM4.out⟩⟩
    ·have HGX:=zh (HGOOD.out rfl rfl)
     go_wp2_with fail
     with_reducible refine (HMY.out _).mono ?_
     rintro e w9 ⟨rfl,h9⟩
     rw [h9]
     clear h9 w9
     go_upto_region 6 with fail
     obtain ⟨wA,hwA⟩:∃ z,z=w4.drew:=⟨_,rfl⟩
     have hm4A:Mod No w4 wA:=by rw [hwA];exact (Mod.refl No w4).drew
     have HMA:=zh (HM4.out.trans hm4A)
     have HRA:=zh (hm4A.keep HR4.out (fun f=>f))
     have HVA:=zh (hm4A.keep HV4.out (fun f=>f))
     have HKA:=zh (hm4A.keep HK4.out (fun f=>f))
     have HSA:=zh (hm4A.cell HC4.out (fun f=>f))
     have HPA:=zh (show Sl wA No 9 (.slice pa pn pc) pr.length (strs pr) from HP4.out.kn hm4A)
     have HWA:=zh hwA
     have hS0:(fun w'=>w'.cell? ⟨sb,so,none⟩=some (.string A)/\w'.heap[vb]? = some (.cells #[.int .i64 va,.int .i64 vi,.int .i64 vp,.slice pa pn pc] 45 (0,0))/\w'.heap[kb]? = some (.cells (bv S).toArray 47 (0,0))) wA:=⟨HSA.out,HVA.out,HKA.out⟩
     have HSM:=zh (show ∀ w',Mod (fun p=>p=rb) wA w'->w'.cell? ⟨sb,so,none⟩=some (.string A)/\w'.heap[vb]? = some (.cells #[.int .i64 va,.int .i64 vi,.int .i64 vp,.slice pa pn pc] 45 (0,0))/\w'.heap[kb]? = some (.cells (bv S).toArray 47 (0,0)) from fun w' h=>⟨h.cell HSA.out HNS.out,h.keep HVA.out HNV.out,h.keep HKA.out HNK.out⟩)
     clear hwA hm4A
     refine wp_region_T (fun w'=>w'.cell? ⟨sb,so,none⟩=some (.string A)/\w'.heap[vb]? = some (.cells #[.int .i64 va,.int .i64 vi,.int .i64 vp,.slice pa pn pc] 45 (0,0))/\w'.heap[kb]? = some (.cells (bv S).toArray 47 (0,0))) 99 (by kernel_rfl) ?_
     rw [<- HWA.out]
     clear HWA
     refine yS 0 44 hS0 ?_
     refine yS 1 45 hS0 ?_
     refine yS 2 46 hS0 ?_
     refine yT 3 (some 47) (.agg #[.int .i64 va,.int .i64 vi,.int .i64 vp,.slice pa pn pc]) hS0 ?_ ?_
     ·(intro w' hSw;obtain ⟨q0,q1,q2⟩:=hSw;exact yloadR (load_ver q1) (.tmp 6) rfl rfl)
     simp only [Act.put,yB,yC,yD]
     refine yT 4 (some 48) (keyV S) hS0 ?_ ?_
     ·(intro w' hSw;obtain ⟨q0,q1,q2⟩:=hSw;exact yloadR (load_keyP HS32.out q2) (.tmp 8) rfl rfl)
     simp only [Act.put,yB,yC,yD]
     refine wpAnyT_takeV 5 (some 49) (.agg (pnCs A va vi vp (.slice pa pn pc) S).toArray) rfl rfl (by kernel_rfl) (fun _ _ _ h=>h) hS0 (Or.inl ⟨by rfl,?_⟩) ?_
     ·(intro w' hSw;obtain ⟨q0,q1,q2⟩:=hSw;exact ybuildR _ (by simp only [Array.toList_map,List.map_cons,List.map_nil];exact pin_built A va vi vp pa pn pc HS32.out) rfl)
     simp only [Act.put,yB,yC,yD]
     refine wpAnyT_one 6 rfl (by kernel_rfl) rfl ?_
     intro K hK
     refine wp_store_row 49 (.tmp 4) (.tmp 49) rfl rb (pnCs A va vi vp (.slice pa pn pc) S).toArray rfl rfl 49 zs.toArray HRA.out (by rw [pnCs_length HS32.out];exact pin_size) (by rw [pnCs_length HS32.out];exact HZL.out) (pnCs_one _ _ _ _ _ _ _ _) ?_
     show K _ _
     have hS1:=HSM.out _ (Mod.setRow (S:=fun p=>p=rb) (Mod.refl _ wA) (fun _=>rfl) (pnCs A va vi vp (.slice pa pn pc) S).toArray)
     refine hK.out _ _ (fun _=>hS1) ?_
     clear hK K
     refine wpAnyT_done (by kernel_rfl) ?_ _
     have HRz:=zh (setRow_heap wA rb zs.toArray (pnCs A va vi vp (.slice pa pn pc) S).toArray 49 (0,0) HRA.out)
     have hlz:=load_pin (pnCs_length HS32.out _ _ _ _ _) HRz.out
     have HMz:=zh (HMA.out.setRow (g:=rb) (fun h=>by have:=HRB.out;omega) (pnCs A va vi vp (.slice pa pn pc) S).toArray)
     have HPz:=zh (Sl.keep (S:=fun p=>p=rb) HPA.out (Mod.setRow (S:=fun p=>p=rb) (Mod.refl _ wA) (fun _=>rfl) (pnCs A va vi vp (.slice pa pn pc) S).toArray) (fun k cur fz e _ hc=>by rw [show k=rb from e,HRA.out] at hc;cases hc))
     go_wp2_with fail
     exact bodyPost_ret (v:=.agg (pnCs A va vi vp (.slice pa pn pc) S).toArray) (by simp [results,results108,asAddr,hlz]) rfl (fin hR ⟨HGX.out _ HPz.out,HMz.out⟩)
   ·have HN:=zh (HBAD.out (.inl rfl))
    go_wp2_with fail
    with_reducible refine (HMN.out _).mono ?_
    rintro e w9 ⟨rfl,h9⟩
    rw [h9]
    clear h9 w9
    go_wp2_with fail
    exact ⟨rfl,fin hR ⟨.inl ⟨HN.out,rfl⟩,HM4.out⟩⟩
 ·have HN:=zh (hno h3)
  have h3b:((ws.length:Int) == 3)=false:=by simp;omega
  clear hsm hno hfi h3
  generalize ws.length=wn at *
  go_wp2_with fail
  with_reducible refine (HMN.out _).mono ?_
  rintro e w9 ⟨rfl,h9⟩
  rw [h9]
  clear h9 w9
  go_wp2_with fail
  exact ⟨rfl,fin hR ⟨.inl ⟨HN.out,rfl⟩,HM2.out⟩⟩
structure PnO (w:World) (x:PnX):Prop where
 sum:x.p.sum.length=32
 small:Small x.p.v
 pre:Sl w No 9 x.pv x.p.v.pre.length (strs x.p.v.pre)
theorem PnO.keep {S:Nat->Prop} {w w':World} {x:PnX} (h:PnO w x) (hm:Mod S w w') (ha:Apart [9] S w):PnO w' x:=⟨h.sum,h.small,h.pre.apart hm ha⟩
theorem PnO.no {w w':World} {x:PnX} (h:PnO w x) (hm:Mod No w w'):PnO w' x:=h.keep hm (Apart.no _ _)
def LkRes (w':World) (s:List UInt8) (e:Ending):Prop:=match lkOf s with
 | some ps=>∃ (xs:List PnX) (v:Value),xs.map PnX.p=ps/\e=.returned (.tuple #[v,.int .i64 0,.int .i64 0])/\Sl w' No 49 v xs.length (xs.flatMap PnX.cells)/\(∀ x ∈ xs,PnO w' x)/\xs.length<=200
 | none=>∃ i:Int,e=.returned (.tuple #[.slice none 0 0,.int .i64 i,.int .i64 63])
theorem lkOf_long {s:List UInt8} (h:65536 < s.length):lkOf s=none:=by unfold lkOf;rw [if_pos (.inl h)]
theorem suf_last (s:List UInt8):Lib.hasSuffix s [10]=decide (s.getLast? = some 10):=by
 unfold Lib.hasSuffix
 rcases List.eq_nil_or_concat s with rfl | ⟨l,c,rfl⟩
 ·rfl
 ·rw [List.concat_eq_append,List.getLast?_append]
  by_cases h:c=10
  ·subst h
   rw [List.isSuffixOf_iff_suffix.2 ⟨l,rfl⟩];simp
  ·rw [decide_eq_false (by simpa using h)]
   cases hb:List.isSuffixOf [10] (l++[c]) with
   | false=>rfl
   | true =>
    obtain ⟨t,ht⟩:=List.isSuffixOf_iff_suffix.1 hb
    have:=List.append_inj_right' ht rfl
    cases this
    exact absurd rfl h
theorem lkOf_suf {s:List UInt8} (h:Lib.hasSuffix s [10]=false):lkOf s=none:=by
 rw [suf_last] at h
 unfold lkOf
 rw [if_pos (.inr (of_decide_eq_false h))]
theorem trim_last {s:List UInt8} (h:Lib.hasSuffix s [10]=true):Lib.trimSuffix s [10]=s.dropLast:=by
 unfold Lib.trimSuffix
 rw [if_pos h]
 rw [List.dropLast_eq_take]
 rfl
theorem lkOf_head {s x:List UInt8} {l:List (List UInt8)} (h1:¬ 65536 < s.length) (h2:Lib.hasSuffix s [10]=true) (h3:splitC 10 s.dropLast=x :: l):lkOf s=if x=lockW then pinsG [] l else none:=by
 rw [suf_last] at h2
 unfold lkOf
 rw [if_neg (fun h=>h.elim h1 (fun h=>h (of_decide_eq_true h2))),h3]
theorem pinsG_bad {out:List Pn} {s:List UInt8} {l:List (List UInt8)} (h:pinL s=none):pinsG out (s :: l)=none:=by rw [pinsG,h]
theorem pinsG_step {out:List Pn} {s:List UInt8} {l:List (List UInt8)} {p:Pn} (h:pinL s=some p):pinsG out (s :: l)=if out.length < 200/\(out.getLast?.all fun q=>decide (q.name < p.name))=true then pinsG (out++[p]) l else none:=by rw [pinsG,h]
theorem ss_tail {w:World} {sb so n c:Nat} {x:Value} {xs:List Value} (h:Sl w No 9 (.slice (some ⟨sb,so,none⟩) (n+1) c) (n+1) (x :: xs)) (hx:(x :: xs).length=n+1) (hc:n+1<=c) :
  ∃ ra:Option Addr,(∀ W,(Instr.slice 43 (.slice (some ⟨sb,so,none⟩) (n+1) c) (some (.int .i64 1)) none none).run prog W=.ok (.slice ra n (c - 1)) W)/\Sl w No 9 (.slice ra n (c - 1)) n xs:=by
 refine ⟨_,fun W=>?_,Sl.dropN h (m:=1) hx (by omega)⟩
 have h1:(1:Int)<=((n+1:Nat):Int):=by omega
 have h2:((n+1:Nat):Int)<=(c:Int):=by omega
 go_simp
 intro hlt
 exact absurd hlt (by omega)
theorem info_pnP:∃ i,prog.info? 49=some i/\i.zero=some pinZero/\i.size=37/\i.bytes=96:=by
 have h:=info_pn
 cases hi:prog.info? 49 with
 | none=>rw [hi] at h;cases h
 | some i =>
  rw [hi] at h
  simp only [Option.map_some,Option.some.injEq,Prod.mk.injEq] at h
  exact ⟨i,rfl,h.1,h.2.1,h.2.2⟩
set_option maxRecDepth 100000 in
theorem lit67 (t:Array Value) (h:t.size=67):∃ c:Nat->Value,t=#[c 0,c 1,c 2,c 3,c 4,c 5,c 6,c 7,c 8,c 9,c 10,c 11,c 12,c 13,c 14,c 15,c 16,c 17,c 18,c 19,c 20,c 21,c 22,c 23,c 24,c 25,c 26,c 27,c 28,c 29,c 30,c 31,c 32,c 33,c 34,c 35,c 36,c 37,c 38,c 39,c 40,c 41,c 42,c 43,c 44,c 45,c 46,c 47,c 48,c 49,c 50,c 51,c 52,c 53,c 54,c 55,c 56,c 57,c 58,c 59,c 60,c 61,c 62,c 63,c 64,c 65,c 66]/\∀ i,t.getD i undef=c i:=by
 refine ⟨fun i=>t.getD i undef,?_,fun _=>rfl⟩
 have h1:=arr_lits t
 rw [h] at h1
 exact h1.trans (by kernel_rfl)
set_option maxRecDepth 100000 in
set_option maxHeartbeats 8000000 in
theorem lparse_any (s:List UInt8) (hs:s.length<=1000000) (w:World) (hgl:Gl w) :
  Calls prog 45 #[strV s] w fun e w'=>LkRes w' s e/\Mod No w w':=by
 refine calls_hide fun R hR=>?_
 have hmf:∀ (fn:Fn) (first cap:Array Value) (w:World),(Instr.makeFunc fn first cap).run prog w=.ok (.func fn first cap) w:=fun _ _ _ _=>rfl
 have hz:=str_len3 s
 have HSF:=zh (show ∀ W,Calls prog 105 #[strV s,.string ⟨#[10]⟩] W fun e w'=>e=.returned (.bool (Lib.hasSuffix s [10]))/\w'=W from fun W=>Tryz.strings_HasSuffix ⟨s.toArray⟩ ⟨#[10]⟩ W (by rw [str_len3];omega))
 have HTS:=zh (show ∀ W,Calls prog 107 #[strV s,.string ⟨#[10]⟩] W fun e w'=>e=.returned (strV (Lib.trimSuffix s [10]))/\w'=W from fun W=>Tryz.strings_TrimSuffix ⟨s.toArray⟩ ⟨#[10]⟩ W (by rw [str_len3];omega))
 have HSP:=zh (fun W h=>split_any 10 s.dropLast (by rw [List.length_dropLast];omega) W h)
 have HSM:=zh (fun (x:List UInt8) (hx:x ∈ splitC 10 s.dropLast)=>show x.length<=s.length by have:=splitC_mem_le 10 s.dropLast x hx;rw [List.length_dropLast] at this;omega)
 have HSL:=zh (show (splitC 10 s.dropLast).length<=s.length+1 by have:=splitC_length_le 10 s.dropLast;rw [List.length_dropLast] at this;omega)
 have HNE:=zh (splitC_ne 10 s.dropLast)
 have hsI:(s.length:Int)<=1000000:=by omega
 obtain ⟨p,hpe⟩:∃ p,p=w.heap.size:=⟨_,rfl⟩
 obtain ⟨q,hqe⟩:∃ q,q=w.heap.size+1:=⟨_,rfl⟩
 obtain ⟨r,hre⟩:∃ r,r=w.heap.size+2:=⟨_,rfl⟩
 obtain ⟨w1,hw1⟩:∃ w1,w1=((w.alloc (.cells #[.slice none 0 0] 42)).alloc (.cells #[.int .i64 0] 3)).alloc (.cells #[.int .i64 0] 26):=⟨_,rfl⟩
 have m1:Mod No w w1:=by rw [hw1];exact (((Mod.refl No w).alloc _).alloc _).alloc _
 have hp:w1.heap[p]? = some (.cells #[.slice none 0 0] 42 (0,0)):=by
  rw [hw1,hpe];exact heap_alloc_old _ (heap_alloc_old _ (heap_alloc_new w _))
 have hq:w1.heap[q]? = some (.cells #[.int .i64 0] 3 (0,0)):=by
  rw [hw1,hqe];exact heap_alloc_old _ (heap_at_new _ _ (by simp))
 have hr:w1.heap[r]? = some (.cells #[.int .i64 0] 26 (0,0)):=by
  rw [hw1,hre];exact heap_at_new _ _ (by simp)
 have HGLT:=zh (show 0 < w.heap.size by obtain ⟨x,hx⟩:=hgl;exact lt_of_cell hx)
 unfold strV at *
 generalize (⟨s.toArray⟩:ByteArray)=Z at *
 have HG:=zh hgl
 have HW1:=zh hw1
 have M1:=zh m1
 have HP:=zh hp
 have HQ:=zh hq
 have HR:=zh hr
 have HPQ:=zh (show w.heap.size<=p/\w.heap.size<=q/\w.heap.size<=r/\p ≠ q/\p ≠ r/\q ≠ r by omega)
 have HPE:=zh hpe
 have HQE:=zh (show q=p+1 by omega)
 have HRE:=zh (show r=p+1+1 by omega)
 clear hw1 m1 hp hq hr hgl hpe hqe hre
 go_enter_defers func45,ntmps45
 by_cases hlong:65536 < s.length
 ·have HN:=zh (lkOf_long hlong)
  have hlI:¬ ((s.length:Int)<=65536):=by omega
  clear hlong
  go_wp2_with fail
  rw [<- HW1.out,<- HPE.out,<- HRE.out,<- HQE.out]
  with_reducible refine (lmust_no 0 _).mono ?_
  rintro e w3 ⟨rfl,h9⟩
  rw [h9]
  clear h9 w3
  go_wp2_with fail
  refine leaves_cons (f:=103) (args:=#[.pointer (some ⟨p,0,none⟩),.pointer (some ⟨q,0,none⟩),.pointer (some ⟨r,0,none⟩)]) (by simp) (by simp [go_sem]) ?_
  refine (lstop_caught _ _ _ (0) 0 _ 0 _ HP.out HQ.out HR.out).mono ?_
  rintro e u' w'' ⟨rfl,rfl,r1,r2,r3,hm⟩
  have r1:=cell_ofA r1 (i:=0) rfl
  have r2:=cell_ofA r2 (i:=0) rfl
  have r3:=cell_ofA r3 (i:=0) rfl
  refine ⟨.tuple #[.slice none 0 0,.int .i64 (0),.int .i64 63],?_,?_⟩
  ·simp [results,results45,go_sem,r1,r2,r3]
  ·exact fin hR ⟨by unfold LkRes;rw [HN.out];exact ⟨_,rfl⟩,M1.out.then hm (fun i hi e=>by have:=HPQ.out;omega)⟩
 have hlI:(s.length:Int)<=65536:=by omega
 have HS65:=zh (show s.length<=65536 by omega)
 cases hsuf:Lib.hasSuffix s [10] with
 | false =>
  have HN:=zh (lkOf_suf hsuf)
  rw [hsuf] at HSF
  clear hsuf
  go_wp2_with fail
  rw [<- HW1.out,<- HPE.out,<- HRE.out,<- HQE.out]
  with_reducible refine (HSF.out _).mono ?_
  rintro e w9 ⟨rfl,h9⟩
  rw [h9]
  clear h9 w9
  go_wp2_with fail
  with_reducible refine (lmust_no 0 _).mono ?_
  rintro e w3 ⟨rfl,h9⟩
  rw [h9]
  clear h9 w3
  go_wp2_with fail
  refine leaves_cons (f:=103) (args:=#[.pointer (some ⟨p,0,none⟩),.pointer (some ⟨q,0,none⟩),.pointer (some ⟨r,0,none⟩)]) (by simp) (by simp [go_sem]) ?_
  refine (lstop_caught _ _ _ (0) 0 _ 0 _ HP.out HQ.out HR.out).mono ?_
  rintro e u' w'' ⟨rfl,rfl,r1,r2,r3,hm⟩
  have r1:=cell_ofA r1 (i:=0) rfl
  have r2:=cell_ofA r2 (i:=0) rfl
  have r3:=cell_ofA r3 (i:=0) rfl
  refine ⟨.tuple #[.slice none 0 0,.int .i64 (0),.int .i64 63],?_,?_⟩
  ·simp [results,results45,go_sem,r1,r2,r3]
  ·exact fin hR ⟨by unfold LkRes;rw [HN.out];exact ⟨_,rfl⟩,M1.out.then hm (fun i hi e=>by have:=HPQ.out;omega)⟩
 | true =>
 have HHD:=zh (fun x l h=>lkOf_head (x:=x) (l:=l) hlong hsuf h)
 rw [trim_last hsuf] at HTS
 rw [hsuf] at HSF
 clear hsuf hlong
 go_wp2_with fail
 rw [<- HW1.out,<- HPE.out,<- HRE.out,<- HQE.out]
 with_reducible refine (HSF.out _).mono ?_
 rintro e w9 ⟨rfl,h9⟩
 rw [h9]
 clear h9 w9
 go_wp2_with fail
 with_reducible refine (lmust_yes 0 _).mono ?_
 rintro e w3 ⟨rfl,h9⟩
 rw [h9]
 clear h9 w3
 clear hlI
 go_wp2_with fail
 with_reducible refine (HTS.out _).mono ?_
 rintro e w9 ⟨rfl,h9⟩
 rw [h9]
 clear h9 w9
 go_wp2_with fail
 with_reducible refine (HSP.out _ (HG.out.stay M1.out (fun f=>f))).mono ?_
 rintro e w2 ⟨sv,rfl,hown,hm2⟩
 have HM2:=zh (M1.out.trans hm2)
 have HP2:=zh (hm2.keep HP.out (fun f=>f))
 have HQ2:=zh (hm2.keep HQ.out (fun f=>f))
 have HR2:=zh (hm2.keep HR.out (fun f=>f))
 have HS2:=zh (Sl.of_own (X:=No) hown (fun k hk f=>f))
 clear hm2 HP HQ HR M1 hown HSP HSF HTS
 obtain ⟨sa,sc,rfl⟩:=HS2.out.len
 have hne:=HNE.out
 have hsl:=HSL.out
 have hsm:=HSM.out
 have hhd:=HHD.out
 clear HSM HHD HNE HSL HW1
 generalize splitC 10 s.dropLast=ws at *
 obtain ⟨h,ls,rfl⟩:∃ h l,ws=h :: l:=by
  cases ws with
  | nil=>exact absurd rfl hne
  | cons h l=>exact ⟨h,l,rfl⟩
 have HLK:=zh (hhd h ls rfl)
 obtain ⟨n,hn⟩:∃ n,n=ls.length:=⟨_,rfl⟩
 have hwn:(h :: ls).length=n+1:=by rw [hn];rfl
 rw [hwn] at hsl HS2
 rw [hwn]
 have HNL:=zh hn
 have HSM:=zh hsm
 obtain ⟨sb,so,sc',hsv,hsc1,hsc2,_⟩:=HS2.out.shape (by omega)
 cases hsv
 have ca:w2.cell? ⟨sb,so,none⟩=some (strV h):=HS2.out.cellN (i:=0) (by simp [strs])
 have HWN:=zh hwn
 have hT:=str_list h
 unfold strV at *
 generalize (⟨h.toArray⟩:ByteArray)=H at *
 clear hne hhd hwn hn hsm
 by_cases hh:h=lockW
 ·subst hh
  rw [if_pos rfl] at HLK
  have hTl:H.toList=[108,111,99,107,32,49]:=hT
  clear hT
  go_wp2_with fail
  with_reducible refine (lmust_yes 0 _).mono ?_
  rintro e w3 ⟨rfl,h9⟩
  rw [h9]
  clear h9 w3
  clear ca hTl
  obtain ⟨ra,hsli,hrs⟩:=ss_tail (xs:=strs ls) HS2.out (by rw [<- HWN.out];simp) hsc1
  have HRS:=zh hrs
  have hn0:(0:Int)<=(n:Int):=Int.natCast_nonneg _
  clear hrs HS2
  obtain ⟨B,hB⟩:∃ B,B=w2.heap.size:=⟨_,rfl⟩
  have HBE:=zh hB
  have HGL2:=zh (HG.out.stay HM2.out (fun f=>f))
  have HPB:=zh (show p < B/\q < B/\r < B by
   have:=lt_of_heap HP2.out
   have:=lt_of_heap HQ2.out
   have:=lt_of_heap HR2.out
   omega)
  clear hB
  go_wp2_with fail
  go_loopw [29] (fun u wr=>∃ (k m:Nat) (oa:Option Addr) (oc:Nat) (xs:List PnX),k<=n/\u=.int .i64 (k:Int)/\wr.heap[p]? = some (.cells #[.slice oa m oc] 42 (0,0))/\m=xs.length/\wr.ownsRow B 49 37 (.slice oa m oc) m (xs.flatMap PnX.cells)/\(∀ x ∈ xs,PnO wr x)/\m<=200/\Mod (fun i=>i=p\/B<=i) w2 wr/\pinsG [] ls=pinsG (xs.map PnX.p) (ls.drop k)) (fun u _=>n - (intOf u).toNat)
  case atStart=>exact ⟨0,0,none,0,[],by omega,rfl,HP2.out,rfl,⟨by simp,.inl ⟨rfl,rfl⟩⟩,(fun x hx=>by cases hx),by omega,Mod.refl _ _,by simp⟩
  case round =>
   obtain ⟨k,m,oa,oc,xs,hk,rfl,hpr,hmx,how,hex,hm200,hmo,hgo⟩:=hrel
   have HPR:=zh hpr
   have HMX:=zh hmx
   have HOW:=zh how
   have HEX:=zh hex
   have HMO:=zh hmo
   have HGO:=zh hgo
   have HQR:=zh (hmo.keep HQ2.out (fun h=>by have:=HPQ.out;have:=HPB.out;omega))
   have HRR:=zh (hmo.keep HR2.out (fun h=>by have:=HPQ.out;have:=HPB.out;omega))
   have HMR:=zh (show Mod No w wr from HM2.out.then hmo (fun i hi h=>by have:=HPQ.out;have:=HBE.out;have:=HM2.out.size;omega))
   have HGLR:=zh (HGL2.out.stay hmo (fun h=>by have:=HGLT.out;have:=HPQ.out;have:=HBE.out;have:=HM2.out.size;rcases h with h | h <;> omega))
   have hk0:(0:Int)<=(k:Int):=Int.natCast_nonneg _
   have hm0:(0:Int)<=(m:Int):=Int.natCast_nonneg _
   clear hpr hmx how hex hmo hgo
   by_cases hlt:k < n
   ·have hk1:(k:Int) < (n:Int):=by omega
    have hkl:k < ls.length:=by rw [<- HNL.out];exact hlt
    obtain ⟨b,o,c',hvs,_⟩:=HRS.out.shape (by omega)
    cases hvs
    have hcell:=HMO.out.cell (HRS.out.cellN (i:=k) (by rw [strs_length];exact hkl)) (fun h=>by
     obtain ⟨cur,fz,hb⟩:=HRS.out.block
     rcases h with h | h
     ·have h:b=p:=h
      rw [h,HP2.out] at hb
      cases hb
     ·have h:B<=b:=h
      have:=lt_of_heap hb
      have:=HBE.out
      omega)
    rw [show (strs ls)[k]'(by rw [strs_length];exact hkl)=.string ⟨ls[k].toArray⟩ from by simp [strs,strV]] at hcell
    have hdr:ls.drop k=ls[k] :: ls.drop (k+1):=List.drop_eq_getElem_cons hkl
    have hll:=HSM.out ls[k] (by simp)
    have HPN:=zh (pin_any ls[k] ((k:Int)+2) (by have:=HS65.out;omega) wr HGLR.out)
    have HDR:=zh hdr
    clear hdr hll
    generalize ls[k]=L at *
    unfold strV at *
    generalize (⟨L.toArray⟩:ByteArray)=LZ at *
    go_wp2_with fail
    with_reducible refine HPN.out.mono ?_
    rintro e w3 ⟨hres,hm3⟩
    have HP3:=zh (hm3.keep HPR.out (fun f=>f))
    have HQ3:=zh (hm3.keep HQR.out (fun f=>f))
    have HR3:=zh (hm3.keep HRR.out (fun f=>f))
    have HM3:=zh (HMR.out.trans hm3)
    rcases hres with ⟨hnone,rfl⟩ | ⟨x,hx,rfl,hx1,hx2,hx3⟩
    ·have HN:=zh (show lkOf s=none by rw [HLK.out,HGO.out,HDR.out,pinsG_bad hnone])
     clear hnone hcell hm3
     go_wp2_with fail
     refine leaves_cons (f:=103) (args:=#[.pointer (some ⟨p,0,none⟩),.pointer (some ⟨q,0,none⟩),.pointer (some ⟨r,0,none⟩)]) (by simp) (by simp [go_sem]) ?_
     refine (lstop_caught _ _ _ ((k:Int)+2) 0 _ 0 _ HP3.out HQ3.out HR3.out).mono ?_
     rintro e u' w'' ⟨rfl,rfl,r1,r2,r3,hm⟩
     have r1:=cell_ofA r1 (i:=0) rfl
     have r2:=cell_ofA r2 (i:=0) rfl
     have r3:=cell_ofA r3 (i:=0) rfl
     refine ⟨.tuple #[.slice none 0 0,.int .i64 ((k:Int)+2),.int .i64 63],?_,?_⟩
     ·simp [results,results45,go_sem,r1,r2,r3]
     ·exact fin hR ⟨by unfold LkRes;rw [HN.out];exact ⟨_,rfl⟩,HM3.out.then hm (fun i hi e=>by have:=HPQ.out;omega)⟩
    ·have HX3:=zh (show PnO w3 x from ⟨hx1,hx2,hx3⟩)
     have HST:=zh (pinsG_step (out:=xs.map PnX.p) (l:=ls.drop (k+1)) hx)
     have HOW3:=zh (own_keepM HOW.out hm3 (fun _ _ f=>f))
     have HE3:=zh (fun y hy=>(HEX.out y hy).no hm3)
     have HMO3:=zh (HMO.out.trans hm3.no)
     obtain ⟨pa,pc,hpv⟩:=hx3.len
     obtain ⟨cs,hcs⟩:∃ cs,cs=(PnX.cells x).toArray:=⟨_,rfl⟩
     rw [<- hcs]
     have HCS:=zh hcs
     have HCL:=zh (show cs.size=37 by rw [hcs,List.size_toArray];exact PnX.cells_length x hx1)
     have HC1:=zh (show cs.all (·.oneCell')=true by
      rw [hcs]
      exact Array.all_eq_true_iff_forall_mem.2 (fun u hu=>PnOk.one ⟨hx1,_,_,_,hpv⟩ u (by simpa using hu)))
     clear hcell hm3 hx hx1 hx2 hx3 hcs hpv
     go_upto_region 9 with (refine wpList_store_row rfl 49 _ _ rfl w3.heap.size cs rfl rfl 49 _ (heap_alloc_new w3 _) (by rw [HCL.out];exact pin_size) (by rw [HCL.out];rfl) HC1.out ?_)
     obtain ⟨nb,hnb⟩:∃ g,g=w3.heap.size:=⟨_,rfl⟩
     rw [<- hnb]
     generalize hw4:World.setRow _ nb cs=w4
     have HNB:=zh (show w4.heap[nb]? = some (.cells cs 49 (0,0)) by rw [<- hw4,hnb];exact setRow_heap _ _ _ _ _ _ (heap_alloc_new w3 _))
     have hm4:Mod No w3 w4:=by rw [<- hw4,hnb];exact ((Mod.refl No w3).alloc _).setRow (fun h=>absurd h (by omega)) _
     have HP4:=zh (hm4.keep HP3.out (fun f=>f))
     have HQ4:=zh (hm4.keep HQ3.out (fun f=>f))
     have HR4:=zh (hm4.keep HR3.out (fun f=>f))
     have HM4:=zh (HM3.out.trans hm4)
     have HOW4:=zh (own_keepM HOW3.out hm4 (fun _ _ f=>f))
     have HE4:=zh (fun y hy=>(HE3.out y hy).no hm4)
     have HX4:=zh (HX3.out.no hm4)
     have HMO4:=zh (HMO3.out.trans hm4.no)
     have HNQ:=zh (show nb ≠ p/\B<=nb by have:=HPB.out;have:=HBE.out;have:=HMO3.out.size;omega)
     obtain ⟨NM,hNM⟩:∃ b:ByteArray,b=⟨x.p.name.toArray⟩:=⟨_,rfl⟩
     have hNL:NM.toList=x.p.name:=by rw [hNM];exact str_list x.p.name
     have HNM:=zh hNM
     clear hw4 hm4 hnb HP3 HQ3 HR3 HM3 HOW3 HE3 HX3 HMO3 hNM
     obtain ⟨wA,hwA⟩:∃ z,z=w4.drew:=⟨_,rfl⟩
     have hm4A:Mod No w4 wA:=by rw [hwA];exact (Mod.refl No w4).drew
     have HPA:=zh (hm4A.keep HP4.out (fun f=>f))
     have HNBA:=zh (hm4A.keep HNB.out (fun f=>f))
     have HOWA:=zh (own_keepM HOW4.out hm4A (fun _ _ f=>f))
     have HEA:=zh (fun y hy=>(HE4.out y hy).no hm4A)
     have HXA:=zh (HX4.out.no hm4A)
     have HMA:=zh (HMO4.out.trans hm4A.no)
     have q1:=cell_ofA HPA.out (i:=0) rfl
     have q2:wA.cell? ⟨nb,0,none⟩=some (.string NM):=cell_of HNBA.out (by rw [HCS.out,HNM.out];rfl)
     have HQA:=zh (hm4A.keep HQ4.out (fun f=>f))
     have HRA:=zh (hm4A.keep HR4.out (fun f=>f))
     have HDR9:=zh hm4A
     have HWA:=zh hwA
     clear hwA hm4A
     have HLEN:=zh (show (xs.map PnX.p).length=m by rw [List.length_map,HMX.out])
     by_cases h200:200<=m
     ·have HN:=zh (show lkOf s=none by rw [HLK.out,HGO.out,HDR.out,HST.out,if_neg (by rw [HLEN.out];omega)])
      have hmI:¬ ((m:Int) < 200):=by omega
      have hS0:(fun w'=>w'.cell? ⟨p,0,none⟩=some (.slice oa m oc)/\w'.cell? ⟨nb,0,none⟩=some (.string NM)) wA:=⟨q1,q2⟩
      clear q1 q2
      refine wp_lose (FrD 67 [(2,.pointer (some ⟨p,0,none⟩)),(3,.pointer (some ⟨q,0,none⟩)),(4,.pointer (some ⟨r,0,none⟩))] [{ target:=.fn (.func 103) #[.pointer (some ⟨p,0,none⟩),.pointer (some ⟨q,0,none⟩),.pointer (some ⟨r,0,none⟩)],args:=#[] }]) ?_
      refine wp_region_T (fun w'=>w'.cell? ⟨p,0,none⟩=some (.slice oa m oc)/\w'.cell? ⟨nb,0,none⟩=some (.string NM)) 99 (by kernel_rfl) ?_
      rw [<- HWA.out]
      clear HWA
      refine yL 0 38 hS0 ?_
      refine yL 1 39 hS0 ?_
      refine yL 2 40 hS0 ?_
      refine yL 3 41 hS0 ?_
      refine yX 4 42 hS0 ?_
      refine yX 5 43 hS0 ?_
      refine yX 6 44 hS0 ?_
      refine yX 7 45 hS0 ?_
      refine yX 8 46 hS0 ?_
      refine yX 9 47 hS0 ?_
      refine yX 10 48 hS0 ?_
      refine yX 11 49 hS0 ?_
      refine yX 12 50 hS0 ?_
      refine yX 13 51 hS0 ?_
      refine yX 14 52 hS0 ?_
      refine yX 15 53 hS0 ?_
      refine yX 16 54 hS0 ?_
      refine yX 17 55 hS0 ?_
      refine yX 18 56 hS0 ?_
      refine yL 19 57 hS0 ?_
      refine yL 20 58 hS0 ?_
      refine yL 21 59 hS0 ?_
      refine wpAnyT_one 22 rfl (by kernel_rfl) rfl ?_
      intro K hK
      go_simp
      go_at_call 104
      with_reducible refine (lmust_no _ _).mono ?_
      rintro e w9 ⟨rfl,h9⟩
      rw [h9]
      clear h9 w9
      refine ⟨⟨rfl,rfl,rfl,rfl,rfl,trivial⟩,fun T hF=>?_⟩
      obtain ⟨ts,ds⟩:=T
      obtain ⟨hsz,hds,hs2,hs3,hs4,-⟩:=hF
      dsimp only at hsz hds hs2 hs3 hs4
      subst hds
      obtain ⟨c,rfl,hc⟩:=lit67 ts hsz
      rw [hc] at hs2
      rw [hc] at hs3
      rw [hc] at hs4
      simp only [hs2,hs3,hs4]
      clear hc hsz hs2 hs3 hs4
      go_wp2_with fail
      refine leaves_cons (f:=103) (args:=#[.pointer (some ⟨p,0,none⟩),.pointer (some ⟨q,0,none⟩),.pointer (some ⟨r,0,none⟩)]) (by simp) (by simp [go_sem]) ?_
      refine (lstop_caught _ _ _ (IntKind.i64.wrap ((k:Int)+2)) 0 _ 0 _ HPA.out HQA.out HRA.out).mono ?_
      rintro e u' w'' ⟨rfl,rfl,r1,r2,r3,hm⟩
      have r1:=cell_ofA r1 (i:=0) rfl
      have r2:=cell_ofA r2 (i:=0) rfl
      have r3:=cell_ofA r3 (i:=0) rfl
      refine ⟨.tuple #[.slice none 0 0,.int .i64 (IntKind.i64.wrap ((k:Int)+2)),.int .i64 63],?_,?_⟩
      ·simp [results,results45,go_sem,r1,r2,r3]
      ·exact fin hR ⟨by unfold LkRes;rw [HN.out];exact ⟨_,rfl⟩,(HM4.out.trans HDR9.out).then hm (fun i hi e=>by have:=HPQ.out;omega)⟩
     ·have hmI:(m:Int) < 200:=by omega
      have HST2:=zh (show pinsG (xs.map PnX.p) (L :: ls.drop (k+1))=if ((xs.map PnX.p).getLast?.all fun q=>decide (q.name < x.p.name))=true then pinsG (xs.map PnX.p++[x.p]) (ls.drop (k+1)) else none by
       rw [HST.out]
       by_cases h:((xs.map PnX.p).getLast?.all fun q=>decide (q.name < x.p.name))=true
       ·rw [if_pos ⟨by rw [HLEN.out];omega,h⟩,if_pos h]
       ·rw [if_neg (fun e=>h e.2),if_neg h])
      by_cases hm00:m=0
      ·have hm0b:((m:Int) == 0)=true:=by simp;omega
       have HG2:=zh (show pinsG [] ls=pinsG (xs.map PnX.p++[x.p]) (ls.drop (k+1)) by
        have hxs:xs=[]:=List.eq_nil_of_length_eq_zero (by rw [<- HMX.out];exact hm00)
        rw [HGO.out,HDR.out,HST2.out,hxs];rfl)
       have hS0:(fun w'=>w'.cell? ⟨p,0,none⟩=some (.slice oa m oc)/\w'.cell? ⟨nb,0,none⟩=some (.string NM)) wA:=⟨q1,q2⟩
       clear q1 q2 hm00
       refine wp_lose (FrD 67 [(2,.pointer (some ⟨p,0,none⟩)),(3,.pointer (some ⟨q,0,none⟩)),(4,.pointer (some ⟨r,0,none⟩))] [{ target:=.fn (.func 103) #[.pointer (some ⟨p,0,none⟩),.pointer (some ⟨q,0,none⟩),.pointer (some ⟨r,0,none⟩)],args:=#[] }]) ?_
       refine wp_region_T (fun w'=>w'.cell? ⟨p,0,none⟩=some (.slice oa m oc)/\w'.cell? ⟨nb,0,none⟩=some (.string NM)) 99 (by kernel_rfl) ?_
       rw [<- HWA.out]
       clear HWA
       refine yL 0 38 hS0 ?_
       refine yL 1 39 hS0 ?_
       refine yL 2 40 hS0 ?_
       refine yL 3 41 hS0 ?_
       refine yL 4 42 hS0 ?_
       refine yL 5 43 hS0 ?_
       refine yL 6 44 hS0 ?_
       refine yL 7 45 hS0 ?_
       refine yX 8 46 hS0 ?_
       refine yX 9 47 hS0 ?_
       refine yX 10 48 hS0 ?_
       refine yX 11 49 hS0 ?_
       refine yX 12 50 hS0 ?_
       refine yX 13 51 hS0 ?_
       refine yX 14 52 hS0 ?_
       refine yX 15 53 hS0 ?_
       refine yX 16 54 hS0 ?_
       refine yX 17 55 hS0 ?_
       refine yL 18 56 hS0 ?_
       refine yL 19 57 hS0 ?_
       refine yL 20 58 hS0 ?_
       refine yL 21 59 hS0 ?_
       refine wpAnyT_one 22 rfl (by kernel_rfl) rfl ?_
       intro K hK
       go_simp
       go_at_call 104
       with_reducible refine (lmust_yes _ _).mono ?_
       rintro e w9 ⟨rfl,h9⟩
       rw [h9]
       clear h9 w9
       show K _ _
       have hS1:=hS0
       refine hK.out _ _ (fun _=>hS1) ?_
       clear hK K
       refine wpAnyT_done (by kernel_rfl) ?_ _
       clear hm0b
       dsimp only [Lose]
       have HM9:=HMX.out
       go_upto_region 10 with fail
       obtain ⟨i0,hi0,hz0,hz1,hz2⟩:=info_pnP
       have HNW:=zh (show [Value.agg cs].flatMap (fun v=>v.cells.toList)=PnX.cells x by rw [HCS.out];simp [Value.cells])
       have HN1:=zh (show ∀ u ∈ [Value.agg cs].flatMap (fun v=>v.cells.toList),u.oneCell'=true by
        rw [HNW.out]
        intro u hu
        have h1:=HC1.out
        rw [HCS.out] at h1
        exact (Array.all_eq_true_iff_forall_mem.1 h1) u (by simpa using hu))
       have hBA:B<=wA.heap.size:=by have:=HMA.out.size;have:=HBE.out;omega
       refine wp_region_lit ?_
       refine Great.wpList_runTo rfl (some 61) rfl (.slice oa m oc) wA (by have c0:=cell_ofA HPA.out (i:=0) rfl;go_simp) ?_
       refine wpList_load_row rfl 49 _ rfl nb rfl 49 cs (0,0) _ HNBA.out underlying49 rfl (by rw [HCL.out];exact pin_size) ?_
       refine Great.wpList_buildRows rfl 42 49 _ 37 [.agg cs] rfl (fun _=>62) wA.heap.size rfl _ rfl underlying42 (by kernel_rfl) (by kernel_rfl) (by decide) (by simp) (by simp) rfl (fun v hv=>by rw [List.mem_singleton.1 hv];exact HCL.out) (fun i hi=>by obtain rfl:i=0:=(by simpa using hi);rfl) ?_
       refine app_sl _ rfl _ _ 42 rfl B 49 i0 _ 37 96 underlying42 hi0 hz0 hz1 hz2 (by simp [pinZero,Value.cells]) (by decide) (.slice oa m oc) m (xs.flatMap PnX.cells) rfl (own_keepM HOWA.out ((Mod.refl No wA).alloc _) (fun _ _ f=>f)) No 49 _ 1 ([Value.agg cs].flatMap (fun v=>v.cells.toList)) rfl (sl_new wA _ _ (Nat.le_refl 1) (by unfold maxLen;omega)) (by rw [HNW.out];exact (PnX.cells_length x HXA.out.sum)) HN1.out (by unfold maxLen;omega) (by omega) (by simp;omega) ?_
       intro v' w7 hown hgrow _
       obtain ⟨va',vc',hv7⟩:=(Sl.of_own (X:=No) hown (fun _ _ f=>f)).len
       subst hv7
       have hma:Mod No wA (wA.alloc (.cells ([Value.agg cs].flatMap (fun v=>v.cells.toList)).toArray 49)):=(Mod.refl No wA).alloc _
       have hmg:Mod (fun q=>(Value.slice oa m oc).ownBlock=some q) wA w7:=hma.no.trans (Mod.of_grown hgrow (fun q hq _=>hq))
       have hap:=own_apartN HOWA.out (ts:=[9]) (by decide)
       have hp7:=hmg.keep HPA.out (fun e=>by have:=own_atB HOWA.out e;have:=HPB.out;omega)
       have hm8:Mod (fun q=>q=p) w7 (w7.setCell ⟨p,0,none⟩ (.slice va' (m+1) vc')):=Mod.cell1 _ _ _ _
       have hap8:Apart [9] (fun q=>q=p) w7:=fun k cur fz e hk hc2 he=>by
        have hk2:k=p:=hk
        subst hk2
        rw [hp7] at hc2
        cases hc2
        simp at he
       have HP8:=zh (show (w7.setCell ⟨p,0,none⟩ (.slice va' (m+1) vc')).heap[p]? = some (.cells #[.slice va' (m+1) vc'] 42 (0,0)) by rw [heap_setCell hp7 _];rfl)
       have HO8:=zh (show (w7.setCell ⟨p,0,none⟩ (.slice va' (m+1) vc')).ownsRow B 49 37 (.slice va' (m+1) vc') (m+1) ((xs++[x]).flatMap PnX.cells) by
        have h9:=own_keepM hown hm8 (fun k hk e=>by have:=own_atB hown hk;have:=HPB.out;omega)
        rw [HNW.out] at h9
        simpa using h9)
       have HE8:=zh (show ∀ y ∈ xs++[x],PnO (w7.setCell ⟨p,0,none⟩ (.slice va' (m+1) vc')) y from fun y hy=>by
        rcases List.mem_append.1 hy with hy | hy
        ·exact ((HEA.out y hy).keep hmg hap).keep hm8 hap8
        ·obtain rfl:=List.mem_singleton.1 hy
         exact (HXA.out.keep hmg hap).keep hm8 hap8)
       have HM8:=zh (show Mod (fun i=>i=p\/B<=i) w2 (w7.setCell ⟨p,0,none⟩ (.slice va' (m+1) vc')) from (HMA.out.trans (hmg.weaken (fun k _ e=>.inr (own_atB HOWA.out e)))).trans (hm8.weaken (fun k _ e=>.inl e)))
       have HX8:=zh (show m+1=(xs++[x]).length by rw [List.length_append,<- HM9];rfl)
       have HG8:=zh (show pinsG [] ls=pinsG ((xs++[x]).map PnX.p) (ls.drop (k+1)) by rw [HG2.out,List.map_append];rfl)
       have c7:=cell_ofA hp7 (i:=0) rfl
       have f7:=frozen_of 0 hp7
       clear hown hgrow hma hmg hap hp7 hm8 hap8 hi0 hz0 hz1 hz2 HM9 HNW HN1 hBA
       go_wp2_with fail
       exact ⟨⟨k+1,m+1,va',vc',xs++[x],by omega,rfl,HP8.out,HX8.out,HO8.out,HE8.out,by omega,HM8.out,HG8.out⟩,by show n - ((k:Int)+1).toNat < n - (k:Int).toNat;omega⟩
      ·obtain ⟨ys,y,hxy⟩:∃ ys y,xs=ys++[y]:=by
        rcases List.eq_nil_or_concat xs with h | ⟨ys,y,h⟩
        ·exact absurd (by rw [HMX.out,h];rfl) hm00
        ·exact ⟨ys,y,by rw [h,List.concat_eq_append]⟩
       have HXY:=zh hxy
       obtain ⟨j,hj⟩:∃ j,j=ys.length:=⟨_,rfl⟩
       have hmj:m=j+1:=by rw [HMX.out,hxy,hj,List.length_append];rfl
       obtain ⟨ob,hoa⟩:∃ ob,oa=some ⟨ob,0,none⟩:=by
        obtain ⟨_,⟨hv,h0⟩ | ⟨g',cap,cur,hv,_⟩⟩:=HOWA.out
        ·exact absurd h0 hm00
        ·cases hv;exact ⟨_,rfl⟩
       subst hoa
       obtain ⟨LN,hLN⟩:∃ b:ByteArray,b=⟨y.p.name.toArray⟩:=⟨_,rfl⟩
       have hLL:LN.toList=y.p.name:=by rw [hLN];exact str_list y.p.name
       have q3:wA.cell? ⟨ob,j*37,none⟩=some (.string LN):=by
        have h1:=HOWA.out.cells (g:=ob) rfl (j*37+0) (strV y.p.name) (flat_getM xs (fun z hz=>PnX.cells_length z (HEA.out z hz).sum) (i:=j) (by rw [<- HMX.out,hmj];omega) (by
         have:xs[j]'(by rw [<- HMX.out,hmj];omega)=y:=by
          subst hxy;subst hj;simp
         rw [this];rfl))
        rw [hLN]
        simpa [Addr.add_lit] using h1
       have hm0b:((m:Int) == 0)=false:=by simp;omega
       have hwr1:wrap64 ((m:Int) - 1)=(j:Int):=by unfold wrap64;omega
       have hwr2:IntKind.i64.wrap ((m:Int) - 1)=(j:Int):=by rw [IntKind.wrap_i64];omega
       have hj0:(0:Int)<=(j:Int):=Int.natCast_nonneg _
       have hj1:(j:Int) < (m:Int):=by omega
       have HCMP:=zh (show (((xs.map PnX.p).getLast?.all fun q=>decide (q.name < x.p.name))=decide (y.p.name < x.p.name)) by
        rw [hxy,List.map_append,List.map_singleton,List.getLast?_concat];rfl)
       have hbl:Op.bytesLess LN.toList NM.toList=decide (y.p.name < x.p.name):=by rw [hLL,hNL,bytesLess_decT]
       have hS0:(fun w'=>w'.cell? ⟨p,0,none⟩=some (.slice (some ⟨ob,0,none⟩) m oc)/\w'.cell? ⟨nb,0,none⟩=some (.string NM)/\w'.cell? ⟨ob,j*37,none⟩=some (.string LN)) wA:=⟨q1,q2,q3⟩
       clear q1 q2 q3 hm00 hmj hj hxy hLN hLL hNL
       by_cases hcm:y.p.name < x.p.name
       ·have HG2:=zh (show pinsG [] ls=pinsG (xs.map PnX.p++[x.p]) (ls.drop (k+1)) by
         rw [HGO.out,HDR.out,HST2.out,HCMP.out,decide_eq_true hcm,if_pos rfl])
        rw [decide_eq_true hcm] at hbl
        clear hcm
        refine wp_lose (FrD 67 [(2,.pointer (some ⟨p,0,none⟩)),(3,.pointer (some ⟨q,0,none⟩)),(4,.pointer (some ⟨r,0,none⟩))] [{ target:=.fn (.func 103) #[.pointer (some ⟨p,0,none⟩),.pointer (some ⟨q,0,none⟩),.pointer (some ⟨r,0,none⟩)],args:=#[] }]) ?_
        refine wp_region_T (fun w'=>w'.cell? ⟨p,0,none⟩=some (.slice (some ⟨ob,0,none⟩) m oc)/\w'.cell? ⟨nb,0,none⟩=some (.string NM)/\w'.cell? ⟨ob,j*37,none⟩=some (.string LN)) 99 (by kernel_rfl) ?_
        rw [<- HWA.out]
        clear HWA
        refine yL 0 38 hS0 ?_
        refine yL 1 39 hS0 ?_
        refine yL 2 40 hS0 ?_
        refine yL 3 41 hS0 ?_
        refine yL 4 42 hS0 ?_
        refine yL 5 43 hS0 ?_
        refine yL 6 44 hS0 ?_
        refine yL 7 45 hS0 ?_
        refine yL 8 46 hS0 ?_
        refine yL 9 47 hS0 ?_
        refine yL 10 48 hS0 ?_
        refine yL 11 49 hS0 ?_
        refine yL 12 50 hS0 ?_
        refine yL 13 51 hS0 ?_
        refine yL 14 52 hS0 ?_
        refine yL 15 53 hS0 ?_
        refine yL 16 54 hS0 ?_
        refine yL 17 55 hS0 ?_
        refine yL 18 56 hS0 ?_
        refine yL 19 57 hS0 ?_
        refine yL 20 58 hS0 ?_
        refine yL 21 59 hS0 ?_
        refine wpAnyT_one 22 rfl (by kernel_rfl) rfl ?_
        intro K hK
        go_simp
        go_at_call 104
        with_reducible refine (lmust_yes _ _).mono ?_
        rintro e w9 ⟨rfl,h9⟩
        rw [h9]
        clear h9 w9
        show K _ _
        have hS1:=hS0
        refine hK.out _ _ (fun _=>hS1) ?_
        clear hK K
        refine wpAnyT_done (by kernel_rfl) ?_ _
        clear hm0b hwr1 hwr2 hj0 hj1 hbl
        dsimp only [Lose]
        have HM9:=HMX.out
        go_upto_region 10 with fail
        obtain ⟨i0,hi0,hz0,hz1,hz2⟩:=info_pnP
        have HNW:=zh (show [Value.agg cs].flatMap (fun v=>v.cells.toList)=PnX.cells x by rw [HCS.out];simp [Value.cells])
        have HN1:=zh (show ∀ u ∈ [Value.agg cs].flatMap (fun v=>v.cells.toList),u.oneCell'=true by
         rw [HNW.out]
         intro u hu
         have h1:=HC1.out
         rw [HCS.out] at h1
         exact (Array.all_eq_true_iff_forall_mem.1 h1) u (by simpa using hu))
        have hBA:B<=wA.heap.size:=by have:=HMA.out.size;have:=HBE.out;omega
        refine wp_region_lit ?_
        refine Great.wpList_runTo rfl (some 61) rfl (.slice (some ⟨ob,0,none⟩) m oc) wA (by have c0:=cell_ofA HPA.out (i:=0) rfl;go_simp) ?_
        refine wpList_load_row rfl 49 _ rfl nb rfl 49 cs (0,0) _ HNBA.out underlying49 rfl (by rw [HCL.out];exact pin_size) ?_
        refine Great.wpList_buildRows rfl 42 49 _ 37 [.agg cs] rfl (fun _=>62) wA.heap.size rfl _ rfl underlying42 (by kernel_rfl) (by kernel_rfl) (by decide) (by simp) (by simp) rfl (fun v hv=>by rw [List.mem_singleton.1 hv];exact HCL.out) (fun i hi=>by obtain rfl:i=0:=(by simpa using hi);rfl) ?_
        refine app_sl _ rfl _ _ 42 rfl B 49 i0 _ 37 96 underlying42 hi0 hz0 hz1 hz2 (by simp [pinZero,Value.cells]) (by decide) (.slice (some ⟨ob,0,none⟩) m oc) m (xs.flatMap PnX.cells) rfl (own_keepM HOWA.out ((Mod.refl No wA).alloc _) (fun _ _ f=>f)) No 49 _ 1 ([Value.agg cs].flatMap (fun v=>v.cells.toList)) rfl (sl_new wA _ _ (Nat.le_refl 1) (by unfold maxLen;omega)) (by rw [HNW.out];exact (PnX.cells_length x HXA.out.sum)) HN1.out (by unfold maxLen;omega) (by omega) (by simp;omega) ?_
        intro v' w7 hown hgrow _
        obtain ⟨va',vc',hv7⟩:=(Sl.of_own (X:=No) hown (fun _ _ f=>f)).len
        subst hv7
        have hma:Mod No wA (wA.alloc (.cells ([Value.agg cs].flatMap (fun v=>v.cells.toList)).toArray 49)):=(Mod.refl No wA).alloc _
        have hmg:Mod (fun q=>(Value.slice (some ⟨ob,0,none⟩) m oc).ownBlock=some q) wA w7:=hma.no.trans (Mod.of_grown hgrow (fun q hq _=>hq))
        have hap:=own_apartN HOWA.out (ts:=[9]) (by decide)
        have hp7:=hmg.keep HPA.out (fun e=>by have:=own_atB HOWA.out e;have:=HPB.out;omega)
        have hm8:Mod (fun q=>q=p) w7 (w7.setCell ⟨p,0,none⟩ (.slice va' (m+1) vc')):=Mod.cell1 _ _ _ _
        have hap8:Apart [9] (fun q=>q=p) w7:=fun k cur fz e hk hc2 he=>by
         have hk2:k=p:=hk
         subst hk2
         rw [hp7] at hc2
         cases hc2
         simp at he
        have HP8:=zh (show (w7.setCell ⟨p,0,none⟩ (.slice va' (m+1) vc')).heap[p]? = some (.cells #[.slice va' (m+1) vc'] 42 (0,0)) by rw [heap_setCell hp7 _];rfl)
        have HO8:=zh (show (w7.setCell ⟨p,0,none⟩ (.slice va' (m+1) vc')).ownsRow B 49 37 (.slice va' (m+1) vc') (m+1) ((xs++[x]).flatMap PnX.cells) by
         have h9:=own_keepM hown hm8 (fun k hk e=>by have:=own_atB hown hk;have:=HPB.out;omega)
         rw [HNW.out] at h9
         simpa using h9)
        have HE8:=zh (show ∀ y ∈ xs++[x],PnO (w7.setCell ⟨p,0,none⟩ (.slice va' (m+1) vc')) y from fun y hy=>by
         rcases List.mem_append.1 hy with hy | hy
         ·exact ((HEA.out y hy).keep hmg hap).keep hm8 hap8
         ·obtain rfl:=List.mem_singleton.1 hy
          exact (HXA.out.keep hmg hap).keep hm8 hap8)
        have HM8:=zh (show Mod (fun i=>i=p\/B<=i) w2 (w7.setCell ⟨p,0,none⟩ (.slice va' (m+1) vc')) from (HMA.out.trans (hmg.weaken (fun k _ e=>.inr (own_atB HOWA.out e)))).trans (hm8.weaken (fun k _ e=>.inl e)))
        have HX8:=zh (show m+1=(xs++[x]).length by rw [List.length_append,<- HM9];rfl)
        have HG8:=zh (show pinsG [] ls=pinsG ((xs++[x]).map PnX.p) (ls.drop (k+1)) by rw [HG2.out,List.map_append];rfl)
        have c7:=cell_ofA hp7 (i:=0) rfl
        have f7:=frozen_of 0 hp7
        clear hown hgrow hma hmg hap hp7 hm8 hap8 hi0 hz0 hz1 hz2 HM9 HNW HN1 hBA
        go_wp2_with fail
        exact ⟨⟨k+1,m+1,va',vc',xs++[x],by omega,rfl,HP8.out,HX8.out,HO8.out,HE8.out,by omega,HM8.out,HG8.out⟩,by show n - ((k:Int)+1).toNat < n - (k:Int).toNat;omega⟩
       ·have HN:=zh (show lkOf s=none by rw [HLK.out,HGO.out,HDR.out,HST2.out,HCMP.out,decide_eq_false hcm,if_neg (by simp)])
        rw [decide_eq_false hcm] at hbl
        clear hcm
        refine wp_lose (FrD 67 [(2,.pointer (some ⟨p,0,none⟩)),(3,.pointer (some ⟨q,0,none⟩)),(4,.pointer (some ⟨r,0,none⟩))] [{ target:=.fn (.func 103) #[.pointer (some ⟨p,0,none⟩),.pointer (some ⟨q,0,none⟩),.pointer (some ⟨r,0,none⟩)],args:=#[] }]) ?_
        refine wp_region_T (fun w'=>w'.cell? ⟨p,0,none⟩=some (.slice (some ⟨ob,0,none⟩) m oc)/\w'.cell? ⟨nb,0,none⟩=some (.string NM)/\w'.cell? ⟨ob,j*37,none⟩=some (.string LN)) 99 (by kernel_rfl) ?_
        rw [<- HWA.out]
        clear HWA
        refine yL 0 38 hS0 ?_
        refine yL 1 39 hS0 ?_
        refine yL 2 40 hS0 ?_
        refine yL 3 41 hS0 ?_
        refine yL 4 42 hS0 ?_
        refine yL 5 43 hS0 ?_
        refine yL 6 44 hS0 ?_
        refine yL 7 45 hS0 ?_
        refine yL 8 46 hS0 ?_
        refine yL 9 47 hS0 ?_
        refine yL 10 48 hS0 ?_
        refine yL 11 49 hS0 ?_
        refine yL 12 50 hS0 ?_
        refine yL 13 51 hS0 ?_
        refine yL 14 52 hS0 ?_
        refine yL 15 53 hS0 ?_
        refine yL 16 54 hS0 ?_
        refine yL 17 55 hS0 ?_
        refine yL 18 56 hS0 ?_
        refine yL 19 57 hS0 ?_
        refine yL 20 58 hS0 ?_
        refine yL 21 59 hS0 ?_
        refine wpAnyT_one 22 rfl (by kernel_rfl) rfl ?_
        intro K hK
        go_simp
        go_at_call 104
        with_reducible refine (lmust_no _ _).mono ?_
        rintro e w9 ⟨rfl,h9⟩
        rw [h9]
        clear h9 w9
        refine ⟨⟨rfl,rfl,rfl,rfl,rfl,trivial⟩,fun T hF=>?_⟩
        obtain ⟨ts,ds⟩:=T
        obtain ⟨hsz,hds,hs2,hs3,hs4,-⟩:=hF
        dsimp only at hsz hds hs2 hs3 hs4
        subst hds
        obtain ⟨c,rfl,hc⟩:=lit67 ts hsz
        rw [hc] at hs2
        rw [hc] at hs3
        rw [hc] at hs4
        simp only [hs2,hs3,hs4]
        clear hc hsz hs2 hs3 hs4
        go_wp2_with fail
        refine leaves_cons (f:=103) (args:=#[.pointer (some ⟨p,0,none⟩),.pointer (some ⟨q,0,none⟩),.pointer (some ⟨r,0,none⟩)]) (by simp) (by simp [go_sem]) ?_
        refine (lstop_caught _ _ _ (IntKind.i64.wrap ((k:Int)+2)) 0 _ 0 _ HPA.out HQA.out HRA.out).mono ?_
        rintro e u' w'' ⟨rfl,rfl,r1,r2,r3,hm⟩
        have r1:=cell_ofA r1 (i:=0) rfl
        have r2:=cell_ofA r2 (i:=0) rfl
        have r3:=cell_ofA r3 (i:=0) rfl
        refine ⟨.tuple #[.slice none 0 0,.int .i64 (IntKind.i64.wrap ((k:Int)+2)),.int .i64 63],?_,?_⟩
        ·simp [results,results45,go_sem,r1,r2,r3]
        ·exact fin hR ⟨by unfold LkRes;rw [HN.out];exact ⟨_,rfl⟩,(HM4.out.trans HDR9.out).then hm (fun i hi e=>by have:=HPQ.out;omega)⟩
   ·obtain rfl:k=n:=by omega
    have hk1:¬ ((k:Int) < (k:Int)):=by omega
    have HRES:=zh (show lkOf s=some (xs.map PnX.p) by rw [HLK.out,HGO.out,HNL.out,List.drop_length];rfl)
    obtain ⟨w8,hw8⟩:∃ w8,w8=((wr.setCell ⟨p,0,none⟩ (.slice oa m oc)).setCell ⟨q,0,none⟩ (.int .i64 0)).setCell ⟨r,0,none⟩ (.int .i64 0):=⟨_,rfl⟩
    have hmA:Mod (fun i=>i=p) wr (wr.setCell ⟨p,0,none⟩ (.slice oa m oc)):=Mod.cell1 _ _ _ _
    have hmB:Mod (fun i=>i=q) (wr.setCell ⟨p,0,none⟩ (.slice oa m oc)) ((wr.setCell ⟨p,0,none⟩ (.slice oa m oc)).setCell ⟨q,0,none⟩ (.int .i64 0)):=Mod.cell1 _ _ _ _
    have hmC:Mod (fun i=>i=r) ((wr.setCell ⟨p,0,none⟩ (.slice oa m oc)).setCell ⟨q,0,none⟩ (.int .i64 0)) w8:=by rw [hw8];exact Mod.cell1 _ _ _ _
    have hne:=HPQ.out
    have pA:(wr.setCell ⟨p,0,none⟩ (.slice oa m oc)).heap[p]? = some (.cells #[.slice oa m oc] 42 (0,0)):=by rw [heap_setCell HPR.out _];rfl
    have qA:=hmA.keep HQR.out (fun e=>hne.2.2.2.1 e.symm)
    have rA:=hmA.keep HRR.out (fun e=>hne.2.2.2.2.1 e.symm)
    have pB:=hmB.keep pA (fun e=>hne.2.2.2.1 e)
    have qB:((wr.setCell ⟨p,0,none⟩ (.slice oa m oc)).setCell ⟨q,0,none⟩ (.int .i64 0)).heap[q]? = some (.cells #[.int .i64 0] 3 (0,0)):=by rw [heap_setCell qA _];rfl
    have rB:=hmB.keep rA (fun e=>hne.2.2.2.2.2 e.symm)
    have pC:=hmC.keep pB (fun e=>hne.2.2.2.2.1 e)
    have qC:=hmC.keep qB (fun e=>hne.2.2.2.2.2 e)
    have rC:w8.heap[r]? = some (.cells #[.int .i64 0] 26 (0,0)):=by rw [hw8,heap_setCell rB _];rfl
    have hm8:Mod (fun i=>i=p\/i=q\/i=r) wr w8:=((hmA.weaken (fun _ _ e=>.inl e)).trans (hmB.weaken (fun _ _ e=>.inr (.inl e)))).trans (hmC.weaken (fun _ _ e=>.inr (.inr e)))
    have hap:Apart [9] (fun i=>i=p\/i=q\/i=r) wr:=fun i cur fz e hi hc2 he=>by
     rcases hi with rfl | rfl | rfl
     ·rw [HPR.out] at hc2;cases hc2;simp at he
     ·rw [HQR.out] at hc2;cases hc2;simp at he
     ·rw [HRR.out] at hc2;cases hc2;simp at he
    have HSZ:=zh (show Sl w8 No 49 (.slice oa m oc) m (xs.flatMap PnX.cells) from Sl.of_own (own_keepM HOW.out hm8 (fun i hi e=>by have:=own_atB HOW.out hi;have:=HPB.out;omega)) (fun _ _ f=>f))
    have HEZ:=zh (show ∀ x ∈ xs,PnO w8 x from fun x hx=>(HEX.out x hx).keep hm8 hap)
    have HMZ:=zh (show Mod No w w8 from HMR.out.then hm8 (fun i hi e=>by omega))
    have HCZ:=zh (And.intro pC (And.intro qC rC))
    have HW8:=zh hw8
    have a1:=cell_ofA HPR.out (i:=0) rfl
    have a2:=frozen_of 0 HPR.out
    have b1:=cell_ofA qA (i:=0) rfl
    have b2:=frozen_of 0 qA
    have d1:=cell_ofA rB (i:=0) rfl
    have d2:=frozen_of 0 rB
    clear hmA hmB hmC hne pA qA rA pB qB rB pC qC rC hm8 hap hw8
    go_wp2_with fail
    rw [<- HW8.out]
    refine leaves_cons (f:=103) (args:=#[.pointer (some ⟨p,0,none⟩),.pointer (some ⟨q,0,none⟩),.pointer (some ⟨r,0,none⟩)]) (by simp) (by simp [go_sem]) ?_
    refine (lstop_idle p q r _).mono ?_
    rintro e u' w'' ⟨rfl,rfl,rfl⟩
    have r1:=cell_ofA HCZ.out.1 (i:=0) rfl
    have r2:=cell_ofA HCZ.out.2.1 (i:=0) rfl
    have r3:=cell_ofA HCZ.out.2.2 (i:=0) rfl
    refine ⟨.tuple #[.slice oa m oc,.int .i64 0,.int .i64 0],?_,?_⟩
    ·simp [results,results45,go_sem,r1,r2,r3]
    ·exact fin hR ⟨by unfold LkRes;rw [HRES.out];exact ⟨xs,_,rfl,rfl,by rw [<- HMX.out];exact HSZ.out,HEZ.out,by rw [<- HMX.out];exact hm200⟩,HMZ.out⟩
 ·have HN:=zh (show lkOf s=none by rw [HLK.out,if_neg hh])
  have hTl:(H.toList == [108,111,99,107,32,49])=false:=by rw [hT];simpa [lockW] using hh
  clear hT hh
  go_wp2_with fail
  with_reducible refine (lmust_no 0 _).mono ?_
  rintro e w3 ⟨rfl,h9⟩
  rw [h9]
  clear h9 w3
  go_wp2_with fail
  refine leaves_cons (f:=103) (args:=#[.pointer (some ⟨p,0,none⟩),.pointer (some ⟨q,0,none⟩),.pointer (some ⟨r,0,none⟩)]) (by simp) (by simp [go_sem]) ?_
  refine (lstop_caught _ _ _ (0) 0 _ 0 _ HP2.out HQ2.out HR2.out).mono ?_
  rintro e u' w'' ⟨rfl,rfl,r1,r2,r3,hm⟩
  have r1:=cell_ofA r1 (i:=0) rfl
  have r2:=cell_ofA r2 (i:=0) rfl
  have r3:=cell_ofA r3 (i:=0) rfl
  refine ⟨.tuple #[.slice none 0 0,.int .i64 (0),.int .i64 63],?_,?_⟩
  ·simp [results,results45,go_sem,r1,r2,r3]
  ·exact fin hR ⟨by unfold LkRes;rw [HN.out];exact ⟨_,rfl⟩,HM2.out.then hm (fun i hi e=>by have:=HPQ.out;omega)⟩
end Go.Proofs.YtmppeipgjcjdkaaGreatDoor
