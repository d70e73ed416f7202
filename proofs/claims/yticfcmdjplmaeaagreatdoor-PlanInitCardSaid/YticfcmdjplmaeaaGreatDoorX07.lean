/-
  Layers 0 to 14: helps of the laws of indexes. No statement is proved here; no condition.
-/
import Derived.Test.YticfcmdjplmaeaaGreatDoorX06
import Derived.Test.YticfcmdjplmaeaaGreatDoorX04
import Derived.Test.YticfcmdjplmaeaaGreatDoorX02
import Derived.Test.YticfcmdjplmaeaaGreatDoorX05
import Derived.Test.YticfcmdjplmaeaaGreatDoorX01
import Derived.Test.YticfcmdjplmaeaaGreatDoorX03
import Derived.Lib.Builder
import Derived.Lib.AppendStr
set_option maxRecDepth 100000
set_option maxHeartbeats 64000000
namespace Go.Proofs.YticfcmdjplmaeaaGreatDoor
open _root_.Go.Proofs.Tryz
open Go.RowKit
theorem verOf_small {l:List UInt8} {v:Ver} (hl:l.length<=999999) (h:verOf l=some v):Small v:=by
 have hp:v.pre=preOf l:=by
  match hs:splitC 46 (headC 45 l) with
  | [a,b,c] =>
   rw [verOf_three hs] at h;split at h
   ·rw [<- Option.some.inj h]
   ·cases h
  | []=>rw [verOf_len (by rw [hs];decide)] at h;cases h
  | [_]=>rw [verOf_len (by rw [hs];simp)] at h;cases h
  | [_,_]=>rw [verOf_len (by rw [hs];simp)] at h;cases h
  | _ :: _ :: _ :: _ :: _=>rw [verOf_len (by rw [hs];simp)] at h;cases h
 have ht:=tailC_le 45 l;constructor
 ·rw [hp];unfold preOf;split
  ·have:=splitC_length_le 46 (tailC 45 l);omega
  ·simp
 ·rw [hp];intro x hx;unfold preOf at hx;split at hx
  ·have:=splitC_mem_le 46 _ x hx;omega
  ·cases hx
theorem small_zero:Small ⟨0,0,0,[]⟩:=⟨by simp,fun x hx=>by cases hx⟩
theorem verparse_u (l:List UInt8) (hl:l.length<=999999) (w:World) (hg:Gl w) :
  Calls prog 101 #[strV l] w fun e w'=>(∃ (v:Ver) (pv:Value) (c:Int),e=.returned (.tuple #[verV v pv,.int .i64 c])/\Small v/\Sl w' (Old w) 9 pv v.pre.length (strs v.pre)/\((c=0/\verOf l=some v)\/(c=60/\verOf l=none)))/\Mod No w w' :=
 (verparse_any l (by omega) w hg).mono fun e w' ⟨h,hm⟩=>⟨by
  rcases h with ⟨h1,h2⟩ | ⟨v,pv,h1,h2,h3⟩
  ·exact ⟨_,_,60,h2,small_zero,.inl ⟨rfl,rfl,rfl⟩,.inr ⟨rfl,h1⟩⟩
  ·exact ⟨v,pv,0,h2,verOf_small hl h1,h3,.inl ⟨rfl,h1⟩⟩,hm⟩
theorem allO_mem {α β:Type} {f:α->Option β}:∀ {l:List α} {ys:List β},allO f l=some ys->∀ y ∈ ys,∃ x ∈ l,f x=some y
 | [],ys,h,y,hy=>by cases h;cases hy
 | a :: l,ys,h,y,hy=>by
  rw [allO] at h;cases ha:f a with
  | none=>rw [ha] at h;simp at h
  | some b =>
   cases hl:allO f l with
   | none=>rw [ha,hl] at h;simp at h
   | some zs =>
    rw [ha,hl] at h;simp only [Option.some.injEq] at h;subst h;rcases List.mem_cons.1 hy with rfl | hy
    ·exact ⟨a,by simp,ha⟩
    ·obtain ⟨x,hx,e⟩:=allO_mem hl y hy;exact ⟨x,by simp [hx],e⟩
theorem next_small (v:Ver) (p:Nat):Small (nextV v p):=by
 have h:(nextV v p).pre=[]:=by
  unfold nextV;split
  ·split <;> rfl
  ·split
   ·split <;> rfl
   ·split <;> rfl
 exact ⟨by rw [h];simp,by rw [h];intro x hx;cases hx⟩
theorem boundsL_ok {w:List UInt8} {bs:List Bnd} (hl:w.length<=999999) (h:boundsL w=some bs):bs.length<=2/\∀ b ∈ bs,Small b.v:=by
 unfold boundsL at h;obtain ⟨v,hv,rfl⟩:=Option.map_eq_some_iff.1 h;have hs:Small v:=verOf_small (by rw [List.length_drop];omega) hv;unfold boundsV;split
 ·exact ⟨by simp,fun b hb=>by obtain rfl:=List.mem_singleton.1 hb;exact hs⟩
 ·split
  ·exact ⟨by simp,fun b hb=>by
    simp only [List.mem_cons,List.not_mem_nil,or_false] at hb;rcases hb with rfl | rfl
    ·exact hs
    ·dsimp only;exact next_small _ _⟩
  ·split
   ·exact ⟨by simp,fun b hb=>by
     simp only [List.mem_cons,List.not_mem_nil,or_false] at hb;rcases hb with rfl | rfl
     ·exact hs
     ·dsimp only;exact next_small _ _⟩
   ·exact ⟨by simp,fun b hb=>by obtain rfl:=List.mem_singleton.1 hb;exact hs⟩
theorem flat_few {α:Type} {k:Nat}:∀ {ls:List (List α)},(∀ l ∈ ls,l.length<=k)->ls.flatten.length<=ls.length*k
 | [],_=>by simp
 | l :: ls,h=>by
  have h1:=h l (by simp);have h2:=flat_few (ls:=ls) (fun x hx=>h x (by simp [hx]));rw [List.flatten_cons,List.length_append,List.length_cons,Nat.succ_mul];omega
theorem listL_ok {x:List UInt8} {bs:List Bnd} (hl:x.length<=999999) (h:listL x=some bs):BndsOk bs:=by
 unfold listL at h;split at h
 ·cases h
 ·rename_i h8;obtain ⟨ls,hls,rfl⟩:=Option.map_eq_some_iff.1 h;have hm:∀ l ∈ ls,l.length<=2/\∀ b ∈ l,Small b.v:=fun l hl2=>by
   obtain ⟨w,hw,e⟩:=allO_mem hls l hl2;exact boundsL_ok (by have:=(words_mem_le x w hw).1;omega) e
  have hn:=allO_length hls;have hf:=flat_few (fun l hl=>(hm l hl).1);refine ⟨by have:(wordsL x).length<=8:=(by omega);omega,fun b hb=>?_⟩
  obtain ⟨l,hl2,hb2⟩:=List.mem_flatten.1 hb;exact (hm l hl2).2 b hb2
theorem spanL_ok {l:List UInt8} {s:Spn} (hl:l.length<=999999) (h:spanL l=some s):SpnOk s:=by
 unfold spanL at h;split at h
 ·cases h
  exact ⟨by simp,fun x hx=>by cases hx⟩
 ·split at h
  ·cases h
  ·rename_i h8;obtain ⟨ls,hls,rfl⟩:=Option.map_eq_some_iff.1 h;have hn:=allO_length hls;refine ⟨by dsimp only;omega,fun x hx=>?_⟩
   obtain ⟨w,hw,e⟩:=allO_mem hls x hx;exact listL_ok (by have:=splitO_mem_le l w hw;omega) e
theorem needLine_ok {s:List UInt8} {n:Nd} (hl:s.length<=999999) (h:needLine s=some n):SpnOk n.span:=by
 unfold needLine at h;split at h
 ·unfold needL at h;split at h
  ·obtain ⟨sp,hsp,rfl⟩:=Option.map_eq_some_iff.1 h;refine spanL_ok ?_ hsp
   have:=tailC_le 32 (s.drop 5);rw [List.length_drop] at this;omega
  ·cases h
 ·cases h
structure MfOk (m:Mf):Prop where
 small:Small m.v
 nds:∀ n ∈ m.needs,SpnOk n.span
 few:m.needs.length<=20
theorem mstep_ok {n:Nat} {m m':Mf} {s:List UInt8} (hl:s.length<=999999) (h:MfOk m) (hs:mstep n m s=some m'):MfOk m':=by
 unfold mstep at hs;split at hs
 ·split at hs
  ·cases hs;exact ⟨h.small,h.nds,h.few⟩
  ·cases hs
 ·split at hs
  ·split at hs
   ·obtain ⟨v,hv,rfl⟩:=Option.map_eq_some_iff.1 hs;exact ⟨verOf_small (by rw [List.length_drop];omega) hv,h.nds,h.few⟩
   ·cases hs
  ·obtain ⟨x,hx,hs⟩:=Option.bind_eq_some_iff.1 hs;split at hs
   ·cases hs
   ·rename_i hq;cases hs
    refine ⟨h.small,fun n hn=>?_,?_⟩
    ·rcases List.mem_append.1 hn with hn | hn
     ·exact h.nds n hn
     ·obtain rfl:=List.mem_singleton.1 hn;exact needLine_ok hl hx
    ·have:=h.few;have h20:m.needs.length ≠ 20:=fun e=>hq (.inr (.inr e))
     dsimp only;rw [List.length_append,List.length_singleton];omega
theorem mlines_ok:∀ {l:List (List UInt8)} {n k:Nat} {m m':Mf},(∀ x ∈ l,x.length<=999999)->MfOk m->mlines n m l=some (k,m')->MfOk m'
 | [],n,k,m,m',_,h,hs=>by cases hs;exact h
 | s :: l,n,k,m,m',hl,h,hs=>by
  rw [mlines] at hs;split at hs
  ·exact mlines_ok (fun x hx=>hl x (by simp [hx])) h hs
  ·cases hm:mstep n m s with
   | none=>rw [hm] at hs;cases hs
   | some m2 =>
    rw [hm] at hs;exact mlines_ok (fun x hx=>hl x (by simp [hx])) (mstep_ok (hl s (by simp)) h hm) hs
theorem mfOf_ok {s:List UInt8} {m:Mf} (h:mfOf s=some m):MfOk m:=by
 unfold mfOf at h;split at h
 ·cases h
 ·rename_i hlong;cases hm:mlines 0 mf0 (linesL s) with
  | none=>rw [hm] at h;cases h
  | some km =>
   obtain ⟨k,m2⟩:=km;rw [hm] at h;dsimp only at h;split at h
   ·cases h
   ·cases h
    have hok:MfOk m2:=mlines_ok (fun x hx=>by
     have:x.length<=s.length:=by
      unfold linesL at hx;split at hx
      ·exact splitC_mem_le 10 s x ((List.dropLast_sublist _).subset hx)
      ·exact splitC_mem_le 10 s x hx
     omega) ⟨small_zero,fun n hn=>(by cases hn),by simp [mf0]⟩ hm
    exact ⟨hok.small,fun n hn=>hok.nds n ((sortR_mem _ _ _).1 hn),by dsimp only;rw [sortR_length];exact hok.few⟩
abbrev IsBld (B b:Nat) (l:List UInt8) (w:World):Prop:=Lib.IsBuilder 248 5 B b (bv l) w
theorem bld_at_keep {S:Nat->Prop} {w w':World} {B b:Nat} {p:Value} {bs:List Value} (h:Lib.BuilderAt 248 5 B b p bs w) (hm:Mod S w w') (hb:¬ S b) (hu:∀ k c fz,S k->w.heap[k]? ≠ some (.cells c 5 fz)) :
  Lib.BuilderAt 248 5 B b p bs w':=by
 obtain ⟨h1,v,h2,h3,h4⟩:=h;refine ⟨h1,v,hm.keep h2 hb,own_keepM h3 hm (fun k hk hs=>?_),h4⟩
 obtain ⟨c,hc⟩:=own_heapM h3 hk;exact hu k _ _ hs hc
theorem bld_keep {S:Nat->Prop} {w w':World} {B b:Nat} {l:List UInt8} (h:IsBld B b l w) (hm:Mod S w w') (hb:¬ S b) (hu:∀ k c fz,S k->w.heap[k]? ≠ some (.cells c 5 fz)):IsBld B b l w' :=
 h.elim (fun h=>.inl (bld_at_keep h hm hb hu)) (fun h=>.inr (bld_at_keep h hm hb hu))
theorem builder_size:(prog.info? 248).map (·.size)=some 2:=by kernel_rfl
theorem cc_fresh (b:Nat) (w:World) (h0:w.cell? ⟨b,0,none⟩=some (.pointer none)) (hsh:w.shape? b=some (248,2)) (hfz:w.frozen? ⟨b,0,none⟩=false) :
  Calls prog 198 #[.pointer (some ⟨b,0,none⟩)] w fun e w'=>e=.returned (.tuple #[])/\w'=w.setCell ⟨b,0,none⟩ (.pointer (some ⟨b,0,none⟩)):=by
 obtain ⟨j,hj,hjs⟩:=Option.map_eq_some_iff.1 builder_size;go_enter func198,ntmps198
 go_wp2
 rw [Lib.run_to_unsafe w ⟨b,0,none⟩ underlying246 underlying150 hj (by rw [hjs];decide) hsh (Nat.zero_lt_succ 1)];simp only [Result.andThen];rw [Oper.upon_value];go_wp2
 rw [run_callFunc_extern func251 (by kernel_rfl) (by kernel_rfl) (by kernel_rfl) (e:=Extern.AbiNoEscape.same) (by kernel_rfl)];rw [Lib.run_noEscape];simp only [Result.andThen];rw [Oper.upon_value];go_wp2
 rw [Lib.run_from_unsafe w ⟨b,0,none⟩ underlying150 underlying246 hj hsh (by kernel_rfl)];simp only [Result.andThen];rw [Oper.upon_value];go_wp2
 go_end0
 exact ⟨rfl,rfl⟩
theorem cc_used (b:Nat) (w:World) (h0:w.cell? ⟨b,0,none⟩=some (.pointer (some ⟨b,0,none⟩))) :
  Calls prog 198 #[.pointer (some ⟨b,0,none⟩)] w fun e w'=>e=.returned (.tuple #[])/\w'=w:=by
 obtain ⟨j,hj,hjs⟩:=Option.map_eq_some_iff.1 builder_size;have hne:∀ w:World,(binOp .neq 246 (.pointer (some ⟨b,0,none⟩)) (.pointer (some ⟨b,0,none⟩))).run prog w=.ok (.bool false) w:=fun w=>Lib.run_neq_ptr_same w _ underlying246 hj
 go_enter func198,ntmps198
 go_wp2
 go_end0
 exact ⟨rfl,rfl⟩
theorem cc_any (B b:Nat) (l:List UInt8) (w:World) (h:IsBld B b l w) :
  Calls prog 198 #[.pointer (some ⟨b,0,none⟩)] w fun e w'=>e=.returned (.tuple #[])/\Lib.BuilderAt 248 5 B b (.pointer (some ⟨b,0,none⟩)) (bv l) w'/\Mod (fun q=>q=b) w w':=by
 rcases h with h | h
 ·refine (cc_fresh b w h.cell0 h.shape h.frozen0).mono ?_;rintro e w' ⟨rfl,rfl⟩;exact ⟨rfl,h.used _,Mod.cell1 _ _ _ _⟩
 ·refine (cc_used b w h.cell0).mono ?_;rintro e w' ⟨rfl,rfl⟩;exact ⟨rfl,h,Mod.refl _ _⟩
def Wrt (B b:Nat) (w:World):Nat->Prop:=fun q=>q=b\/(B<=q/\∃ c fz,w.heap[q]? = some (.cells c 5 fz))
theorem ws_any (B b:Nat) (l s:List UInt8) (hl:l.length<=1000000000) (hs:s.length<=1000000000) (w:World) (h:IsBld B b l w) (hB:B<=w.heap.size) :
  Calls prog 142 #[.pointer (some ⟨b,0,none⟩),strV s] w fun e w'=>(∃ v,e=.returned v)/\IsBld B b (l++s) w'/\Mod (Wrt B b w) w w':=by
 refine calls_hide fun R hR=>?_
 have HCC:=zh (cc_any B b l w h);have HSB:=zh (strcells_bv s);have HZ:=zh (str_len3 s);obtain ⟨i0,hi0,hz0,hz1,hz2⟩:=info_parts info_byte;have HI:=zh (And.intro hi0 (And.intro hz0 (And.intro hz1 hz2)));have HBV:=zh (show (bv l).length=l.length by simp [bv]);unfold strV;generalize (⟨s.toArray⟩:ByteArray)=Z at *;clear h hi0 hz0 hz1 hz2;go_enter func142,ntmps142
 go_wp2_with fail
 with_reducible refine HCC.out.mono ?_
 rintro e w1 ⟨rfl,⟨hBb,v,hb,hown,hne⟩,hm⟩;rw [HBV.out] at hown;have HO:=zh hown;have HM:=zh hm;have hc:=cell_ofA hb (i:=1) rfl;have HB1:=zh hb;have HNE:=zh hne;obtain ⟨hi0,hz0,hz1,hz2⟩:=HI.out;clear hb hown hm HCC hne;go_wp2_with (at_builtin;refine Lib.wpList_append_own_string _ rfl _ _ 76 9 rfl B 5 i0 underlying76 underlying9 hi0 hz0 hz1 hz2 v _ _ rfl HO.out Z rfl (by have:=HZ.out;unfold maxLen;omega) (by have:=HZ.out;omega) (Nat.le_trans hB HM.out.size) ?_;intro v2 w2 hown2 hg2 _;obtain ⟨sa,sc,hsv⟩:=own_len hown2;subst hsv;have HO2:=zh hown2;have HG2:=zh hg2;clear hown2 hg2;have hb2:=(HG2.out.block b (lt_of_heap HB1.out) (fun e=>HNE.out e.symm)).trans HB1.out;have hfz:=frozen_of 1 hb2;have hc2:=cell_ofA hb2 (i:=1) rfl)
 obtain ⟨v2,hv2⟩:∃ v2,v2=Value.slice sa (l.length+Z.size) sc:=⟨_,rfl⟩
 rw [<- hv2] at HO2 ⊢;clear hv2;have HB2:=zh hb2;have HNB:=zh (show ∀ k,v2.ownBlock=some k->¬ k=b from fun k hk e=>by
  obtain ⟨c,hc⟩:=own_heapM HO2.out hk;rw [e,HB2.out] at hc;have h7:=Obj.cells.inj (Option.some.inj hc);exact absurd h7.2.1 (by decide))
 have HM3:=zh (show Mod (Wrt B b w) w (w2.setCell ⟨b,1,none⟩ v2) from by
  refine Mod.then (T:=fun q=>q=b) (Mod.then (T:=fun q=>v.ownBlock=some q) (HM.out.weaken (fun k _ e=>.inl e)) (Mod.of_grown HG2.out (fun k hk _=>hk)) (fun i hi e=>?_)) (Mod.cell1 w2 b 1 v2) (fun i _ e=>.inl e)
  obtain ⟨c,hc⟩:=own_heapM HO.out e;have hnb:¬ i=b:=fun e2=>HNE.out (by rw [<- e2];exact e)
  rw [HM.out.block i hi hnb] at hc;exact .inr ⟨own_base HO.out e,c,_,hc⟩)
 have HR2:=zh (show IsBld B b (l++s) (w2.setCell ⟨b,1,none⟩ v2) from by
  have hlen:(bv (l++s)).length=l.length+Z.size:=by have:=HZ.out;simp [bv];omega
  have e2:bv l++Lib.strCells Z=bv (l++s):=by rw [HSB.out];simp [bv]
  refine .inr ⟨hBb,v2,heap_setCell HB2.out v2,own_keepM ?_ (Mod.cell1 w2 b 1 v2) HNB.out,fun e=>HNB.out b e rfl⟩
  rw [hlen,<- e2];exact HO2.out)
 exact fin hR ⟨⟨_,rfl⟩,HR2.out,HM3.out⟩
end Go.Proofs.YticfcmdjplmaeaaGreatDoor
