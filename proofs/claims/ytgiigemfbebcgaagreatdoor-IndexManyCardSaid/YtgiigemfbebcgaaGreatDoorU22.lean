/-
  Layers 0 to 14: helps of the laws of indexes. No statement is proved here; no condition.
-/
import Derived.Test.YtgiigemfbebcgaaGreatDoorU20
import Derived.Test.YtgiigemfbebcgaaGreatDoorU03
import Derived.Lib.FieldsP
import Derived.Lib.TrimByte
import Derived.Lib.Index
namespace Go.Proofs.YtgiigemfbebcgaaGreatDoor
open _root_.Go.Proofs.Tryz
open Go.RowKit
theorem words_le (l:List UInt8):(wordsL l).length<=l.length+1:=Nat.le_trans (List.length_filter_le _ _) (splitC_length_le 32 l)
theorem words_mem_le (l:List UInt8):∀ x ∈ wordsL l,x.length<=l.length/\x ≠ []:=fun x hx=>by
 obtain ⟨h1,h2⟩:=List.mem_filter.1 hx
 refine ⟨splitC_mem_le 32 l x h1,?_⟩
 rintro rfl
 cases h2
theorem filter_take {α:Type} (p:α->Bool) (l:List α) {k:Nat} (hk:k < l.length):(l.take (k+1)).filter p=(l.take k).filter p++(if p l[k] then [l[k]] else []):=by
 rw [List.take_succ_eq_append_getElem hk,List.filter_append,List.filter_cons]
 simp
theorem own_less {w:World} {B B':Nat} {e:TypeId} {size:Nat} {v:Value} {n:Nat} {xs:List Value} (h:w.ownsRow B e size v n xs) (hb:B'<=B):w.ownsRow B' e size v n xs:=by
 obtain ⟨hl,h | ⟨g,cap,cur,hv,hg,hr⟩⟩:=h
 ·exact ⟨hl,.inl h⟩
 ·exact ⟨hl,.inr ⟨g,cap,cur,hv,Nat.le_trans hb hg,hr⟩⟩
set_option maxRecDepth 100000 in
set_option maxHeartbeats 4000000 in
theorem refwords_any (l:List UInt8) (hl:l.length<=1000000) (w:World) :
  Calls prog 77 #[strV l] w fun e w'=>∃ v,e=.returned v/\w'.ownsRow w.heap.size 9 1 v (wordsL l).length (strs (wordsL l))/\Mod No w w':=by
 refine calls_hide fun R hR=>?_
 obtain ⟨i0,hi0,hz0,hz1,hz2⟩:=info_parts info_str
 have HSP:=zh (show ∀ w:World,Calls prog 44 #[strV l,.int .u8 32] w fun e w'=>∃ v,e=.returned v/\w'.ownsRow w.heap.size 9 1 v (splitC 32 l).length (strs (splitC 32 l))/\Mod No w w' from fun w=>refsplit_any 32 l (by omega) w)
 have hlen:=splitC_length_le 32 l
 have HW:=zh (show wordsL l=(splitC 32 l).filter (fun x=>!x.isEmpty) from rfl)
 unfold strV at *
 generalize (⟨l.toArray⟩:ByteArray)=Z at *
 go_enter func77,ntmps77
 go_wp2_with fail
 with_reducible refine (HSP.out _).mono ?_
 rintro e w1 ⟨v,rfl,hown,hm1⟩
 have HS:=zh (Sl.of_own (X:=No) hown (fun _ _ f=>f))
 obtain ⟨sa,sc,rfl⟩:=HS.out.len
 have HM1:=zh hm1
 have hb1:=hm1.size
 clear hown hm1 HSP
 generalize splitC 32 l=ps at *
 go_wp2_with fail
 go_loopw [3,5] (fun o q wr=>∃ (k:Nat),k<=ps.length/\q=.int .i64 k/\wr.ownsRow w1.heap.size 9 1 o ((ps.take k).filter (fun x=>!x.isEmpty)).length (strs ((ps.take k).filter (fun x=>!x.isEmpty)))/\Mod No w1 wr) (fun _ q _=>ps.length - (intOf q).toNat)
 case atStart=>exact ⟨0,by omega,rfl,⟨rfl,.inl ⟨rfl,rfl⟩⟩,Mod.refl _ _⟩
 case round =>
  obtain ⟨k,hk,rfl,hown,hmod⟩:=hrel
  have hk0:(0:Int)<=(k:Int):=Int.natCast_nonneg _
  have HO:=zh hown
  have HM:=zh hmod
  have hbase:=hmod.size
  clear hown hmod
  obtain ⟨oa,oc,rfl⟩:=own_len HO.out
  by_cases hlt:k < ps.length
  ·have hk1:(k:Int) < (ps.length:Int):=by omega
   obtain ⟨b,o,c,hvs,_⟩:=HS.out.shape (by omega)
   cases hvs
   have hcell:=HM.out.cell (HS.out.cellN (i:=k) (by rw [strs_length];exact hlt)) (fun f=>f)
   rw [show (strs ps)[k]'(by rw [strs_length];exact hlt)=.string ⟨ps[k].toArray⟩ from by simp [strs,strV]] at hcell
   have HF:=zh (filter_take (fun x:List UInt8=>!x.isEmpty) ps hlt)
   have hfl:=List.length_filter_le (fun x:List UInt8=>!x.isEmpty) (ps.take k)
   rw [List.length_take] at hfl
   have hT:=str_list ps[k]
   have HNE:=zh (str_nil ps[k])
   by_cases he:ps[k]=[]
   ·have HT2:=zh (show (ps.take (k+1)).filter (fun x=>!x.isEmpty)=(ps.take k).filter (fun x=>!x.isEmpty) by rw [HF.out,he];simp)
    rw [he] at hcell
    clear HF HNE hT
    go_wp2_with fail
    refine ⟨⟨k+1,by omega,rfl,?_,HM.out⟩,by show ps.length - ((k:Int)+1).toNat < ps.length - (k:Int).toNat;omega⟩
    rw [HT2.out]
    exact HO.out
   ·have HT2:=zh (show (ps.take (k+1)).filter (fun x=>!x.isEmpty)=(ps.take k).filter (fun x=>!x.isEmpty)++[ps[k]] by
     rw [HF.out,if_pos (by cases hx:ps[k] with | nil=>exact absurd hx he | cons a b=>rfl)])
    clear HF
    generalize ps[k]=pc at *
    generalize (ps.take k).filter (fun x=>!x.isEmpty)=outs at *
    have hie:pc.isEmpty=false:=by
     cases pc with
     | nil=>exact absurd rfl he
     | cons a b=>rfl
    have HMA:=zh ((Mod.refl No wr).alloc (.cells #[.string ⟨pc.toArray⟩] 9))
    have HOA:=zh (own_keepM HO.out HMA.out (fun _ _ f=>f))
    have HSA:=zh (show Sl (wr.alloc (.cells #[.string ⟨pc.toArray⟩] 9)) No 9 (.slice (some ⟨wr.heap.size,0,none⟩) 1 1) 1 [.string ⟨pc.toArray⟩] from .inr ⟨wr.heap.size,0,1,_,(0,0),rfl,Nat.le_refl _,by decide,fun f=>f,heap_alloc_new wr _,by simp,fun i hi=>by
     have h0:i=0:=by simp at hi;exact hi
     subst h0;rfl⟩)
    have hbA:w1.heap.size<=(wr.alloc (.cells #[.string ⟨pc.toArray⟩] 9)).heap.size:=Nat.le_trans hbase HMA.out.size
    go_wp2_with (at_builtin;refine app_sl _ rfl _ _ 38 rfl w1.heap.size 9 i0 (.string ⟨#[]⟩) 1 16 underlying38 hi0 hz0 hz1 hz2 rfl (by decide) _ _ _ rfl HOA.out No 9 _ 1 [.string ⟨pc.toArray⟩] rfl HSA.out rfl (by simp [Value.oneCell']) ?_ ?_ hbA ?_)
    ·unfold maxLen;omega
    ·omega
    intro v' w2 hown2 hg2 _
    have HO2:=zh hown2
    have HM2:=zh ((HM.out.trans HMA.out).then (Mod.of_grown (S:=fun q=>w1.heap.size<=q) hg2 (fun q e _=>(HOA.out.lt _ e).1)) (fun i hi hq=>absurd hi (by omega)))
    clear hown2 hg2
    obtain ⟨va,vc,rfl⟩:=own_len HO2.out
    go_wp2_with fail
    refine ⟨⟨k+1,by omega,rfl,?_,HM2.out⟩,by show ps.length - ((k:Int)+1).toNat < ps.length - (k:Int).toNat;omega⟩
    rw [HT2.out,List.length_append,strs_append]
    exact HO2.out
  ·have hE:ps.take k=ps:=List.take_of_length_le (by omega)
   rw [hE] at HO ⊢
   clear hE
   generalize hps:ps.filter (fun x=>!x.isEmpty)=outs at *
   have HPS:=zh hps
   clear hps
   go_wp2_with fail
   refine fin hR ⟨_,rfl,?_,HM1.out.trans HM.out⟩
   rw [HW.out]
   exact own_less HO.out hb1
theorem cont_great {x:Nat} (h:(x / 64 == 2)=true):128<=x:=by
 have:x / 64=2:=by simpa using h
 omega
theorem decode_any (s:ByteArray) (i:Nat):((s.get! i).toNat < 128/\Utf8.decode s i=((s.get! i).toNat,1)) ∨
  (128<=(s.get! i).toNat/\128<=(Utf8.decode s i).1/\1<=(Utf8.decode s i).2/\∀ k,1<=k->k < (Utf8.decode s i).2->i+k < s.size/\128<=(s.get! (i+k)).toNat):=by
 by_cases h0:(s.get! i).toNat < 128
 ·left
  refine ⟨h0,?_⟩
  unfold Utf8.decode
  exact if_pos h0
 ·right
  refine ⟨by omega,?_⟩
  have hr:128<=Utf8.runeError:=by decide
  have one:∀ k,1<=k->k < 1->i+k < s.size/\128<=(s.get! (i+k)).toNat:=fun k h1 h2=>absurd h1 (by omega)
  unfold Utf8.decode
  dsimp only
  rw [if_neg (show ¬ (s.get! (i+0)).toNat < 128 from h0)]
  split
  ·rename_i h
   rw [Bool.and_eq_true,Bool.and_eq_true] at h
   split
   ·rename_i hc
    refine ⟨hc,Nat.le_of_ble_eq_true rfl,fun k h1 h2=>?_⟩
    obtain rfl:k=1:=by dsimp only at h2;omega
    exact ⟨by simpa using h.2.1,cont_great h.2.2⟩
   ·exact ⟨hr,by decide,one⟩
  ·split
   ·rename_i h
    rw [Bool.and_eq_true,Bool.and_eq_true,Bool.and_eq_true,Bool.and_eq_true] at h
    split
    ·rename_i hc
     rw [Bool.and_eq_true] at hc
     have hc1:2048<=_:=of_decide_eq_true hc.1
     refine ⟨Nat.le_trans (by decide) hc1,Nat.le_of_ble_eq_true rfl,fun k h1 h2=>?_⟩
     have h3:k=1\/k=2:=by dsimp only at h2;omega
     rcases h3 with rfl | rfl
     ·exact ⟨by simpa using h.1.2.1,cont_great h.1.2.2⟩
     ·exact ⟨by simpa using h.2.1,cont_great h.2.2⟩
    ·exact ⟨hr,by decide,one⟩
   ·split
    ·rename_i h
     rw [Bool.and_eq_true,Bool.and_eq_true,Bool.and_eq_true,Bool.and_eq_true,Bool.and_eq_true,Bool.and_eq_true] at h
     split
     ·rename_i hc
      rw [Bool.and_eq_true] at hc
      have hc1:65536<=_:=of_decide_eq_true hc.1
      refine ⟨Nat.le_trans (by decide) hc1,Nat.le_of_ble_eq_true rfl,fun k h1 h2=>?_⟩
      have h3:k=1\/k=2\/k=3:=by dsimp only at h2;omega
      rcases h3 with rfl | rfl | rfl
      ·exact ⟨by simpa using h.1.1.2.1,cont_great h.1.1.2.2⟩
      ·exact ⟨by simpa using h.1.2.1,cont_great h.1.2.2⟩
      ·exact ⟨by simpa using h.2.1,cont_great h.2.2⟩
     ·exact ⟨hr,by decide,one⟩
    ·exact ⟨hr,by decide,one⟩
def spB:List UInt8->Nat->Option Nat->List (Nat × Nat)->List (Nat × Nat) × Option Nat
 | [],_,st,acc=>(acc,st)
 | c :: l,pos,st,acc=>if c=32 then (match st with
   | some a=>spB l (pos+1) none (acc++[(a,pos)])
   | none=>spB l (pos+1) none acc) else spB l (pos+1) (some (st.getD pos)) acc
theorem spB_cons (c:UInt8) (l:List UInt8) (pos:Nat) (st:Option Nat) (acc:List (Nat × Nat)):spB (c :: l) pos st acc=if c=32 then (match st with
   | some a=>spB l (pos+1) none (acc++[(a,pos)])
   | none=>spB l (pos+1) none acc) else spB l (pos+1) (some (st.getD pos)) acc:=by cases st <;> rfl
theorem spans_step (p:Nat->Bool) (s:ByteArray) (f pos:Nat) (st:Option Nat) (acc:List (Nat × Nat)) (h:pos < s.size):Lib.spansFromP p s (f+1) pos st acc =
  if p (Utf8.decode s pos).1 then (match st with
   | some a=>Lib.spansFromP p s f (pos+(Utf8.decode s pos).2) none (acc++[(a,pos)])
   | none=>Lib.spansFromP p s f (pos+(Utf8.decode s pos).2) none acc)
  else (match st with
   | some a=>Lib.spansFromP p s f (pos+(Utf8.decode s pos).2) (some a) acc
   | none=>Lib.spansFromP p s f (pos+(Utf8.decode s pos).2) (some pos) acc):=by
 cases st <;> exact if_pos h
theorem get_drop {l:List UInt8} {i:Nat} (h:i < l.length):l.drop i=(⟨l.toArray⟩:ByteArray).get! i :: l.drop (i+1):=by
 rw [List.drop_eq_getElem_cons h]
 congr 1
 show l[i]=l.toArray[i]!
 rw [getElem!_pos l.toArray i (by simpa using h)]
 simp
theorem spB_great (l:List UInt8) (a:Nat) (acc:List (Nat × Nat)):∀ (k pos:Nat),pos+k<=l.length->(∀ j,j < k->(⟨l.toArray⟩:ByteArray).get! (pos+j) ≠ 32)->spB (l.drop pos) pos (some a) acc=spB (l.drop (pos+k)) (pos+k) (some a) acc
 | 0,_,_,_=>rfl
 | k+1,pos,hk,h=>by
  have h0:=h 0 (by omega)
  rw [Nat.add_zero] at h0
  rw [get_drop (by omega),spB,if_neg h0]
  rw [show (some a).getD pos=a from rfl,spB_great l a acc k (pos+1) (by omega) (fun j hj=>by
   have:=h (j+1) (by omega)
   rwa [show pos+(j+1)=pos+1+j by omega] at this),show pos+1+k=pos+(k+1) by omega]
theorem spans_bytes (l:List UInt8):∀ (f pos:Nat) (st:Option Nat) (acc:List (Nat × Nat)),l.length<=pos+f->Lib.spansFromP (fun r=>r == 32) ⟨l.toArray⟩ f pos st acc=spB (l.drop pos) pos st acc:=by
 intro f
 have hsz:(⟨l.toArray⟩:ByteArray).size=l.length:=by simp [ByteArray.size]
 induction f with
 | zero =>
  intro pos st acc h
  rw [List.drop_of_length_le (by omega)]
  rfl
 | succ f ih =>
  intro pos st acc h
  by_cases hp:pos < l.length
  ·have hd:=decode_any ⟨l.toArray⟩ pos
   rw [spans_step _ _ _ _ _ _ (by rw [hsz];exact hp),get_drop hp,spB_cons]
   generalize hx:(⟨l.toArray⟩:ByteArray).get! pos=x at *
   rcases hd with ⟨h1,h2⟩ | ⟨h1,h2,h3,h4⟩
   ·rw [h2]
    by_cases he:x=32
    ·subst he
     rw [if_pos rfl,if_pos (by decide)]
     cases st with
     | none=>exact ih (pos+1) none acc (by omega)
     | some a=>exact ih (pos+1) none _ (by omega)
    ·have hne:¬ ((x.toNat == 32)=true):=by
      intro e
      exact he (UInt8.toNat_inj.1 (by simpa using e))
     rw [if_neg he,if_neg hne]
     cases st with
     | none=>exact ih (pos+1) _ acc (by omega)
     | some a=>exact ih (pos+1) _ acc (by omega)
   ·have he:x ≠ 32:=by rintro rfl;exact absurd h1 (by decide)
    have hne:¬ (((Utf8.decode ⟨l.toArray⟩ pos).1 == 32)=true):=by
     intro e
     have:(Utf8.decode ⟨l.toArray⟩ pos).1=32:=by simpa using e
     omega
    generalize hw:(Utf8.decode ⟨l.toArray⟩ pos).2=wd at *
    obtain ⟨wk,rfl⟩:∃ wk,wd=wk+1:=⟨wd - 1,by omega⟩
    rw [if_neg he,if_neg hne]
    have hle:pos+1+wk<=l.length:=by
     rcases Nat.eq_zero_or_pos wk with h0 | h0
     ·omega
     ·have:=(h4 wk h0 (by omega)).1
      rw [hsz] at this
      omega
    have hg:∀ a,spB (l.drop (pos+1)) (pos+1) (some a) acc=spB (l.drop (pos+(wk+1))) (pos+(wk+1)) (some a) acc:=fun a=>by
     rw [spB_great l a acc wk (pos+1) hle (fun j hj=>by
      have:=(h4 (j+1) (by omega) (by omega)).2
      rw [show pos+(j+1)=pos+1+j by omega] at this
      intro e
      rw [e] at this
      exact absurd this (by decide)),show pos+1+wk=pos+(wk+1) by omega]
    rw [hg]
    cases st with
    | none=>exact ih _ _ acc (by omega)
    | some a=>exact ih _ _ acc (by omega)
  ·rw [Lib.spansFromP_end _ _ _ _ _ _ (by rw [hsz];exact hp),List.drop_of_length_le (by omega)]
   rfl
theorem words_hit {x:List UInt8} (hx:∀ d ∈ x,d ≠ 32) (hn:x ≠ []) (l:List UInt8):wordsL (x++32 :: l)=x :: wordsL l:=by
 unfold wordsL
 rw [splitC_hit _ hx,List.filter_cons,if_pos (by cases x with | nil=>exact absurd rfl hn | cons a b=>rfl)]
theorem words_space (l:List UInt8):wordsL (32 :: l)=wordsL l:=by
 unfold wordsL
 have:=splitC_hit (c:=32) l (a:=[]) (fun _ h=>by cases h)
 rw [List.nil_append] at this
 rw [this]
 rfl
theorem words_end {x:List UInt8} (hx:∀ d ∈ x,d ≠ 32) (hn:x ≠ []):wordsL x=[x]:=by
 unfold wordsL
 rw [splitC_none hx,List.filter_cons,if_pos (by cases x with | nil=>exact absurd rfl hn | cons a b=>rfl)]
 rfl
theorem spB_words (l:List UInt8):∀ (n pos:Nat) (st:Option Nat) (acc:List (Nat × Nat)),l.length=pos+n->(∀ a,st=some a->a < pos/\∀ d ∈ (l.drop a).take (pos - a),d ≠ 32) →
  (Lib.closeSpans ⟨l.toArray⟩ (spB (l.drop pos) pos st acc)).map (fun x=>(⟨l.toArray⟩:ByteArray).extract x.1 x.2) =
   acc.map (fun x=>(⟨l.toArray⟩:ByteArray).extract x.1 x.2)++(wordsL ((match st with | some a=>(l.drop a).take (pos - a) | none=>[])++l.drop pos)).map (fun x=>(⟨x.toArray⟩:ByteArray)):=by
 have hex:∀ a b,(⟨l.toArray⟩:ByteArray).extract a b=⟨((l.drop a).take (b - a)).toArray⟩:=fun a b=>Lib.extract_mk l a b
 have hsz:(⟨l.toArray⟩:ByteArray).size=l.length:=by simp [ByteArray.size]
 intro n
 induction n with
 | zero =>
  intro pos st acc hl hst
  rw [List.drop_of_length_le (by omega),List.append_nil]
  unfold spB Lib.closeSpans
  cases st with
  | none=>simp [wordsL,splitC]
  | some a =>
   obtain ⟨h1,h2⟩:=hst a rfl
   have hne:(l.drop a).take (pos - a) ≠ []:=by
    intro e
    have:=congrArg List.length e
    simp at this
    omega
   dsimp only
   rw [words_end h2 hne,List.map_append]
   simp only [List.map_cons,List.map_nil,hex,hsz]
   rw [show l.length=pos by omega]
 | succ n ih =>
  intro pos st acc hl hst
  rw [List.drop_eq_getElem_cons (show pos < l.length by omega),spB_cons]
  by_cases hc:l[pos]'(by omega)=32
  ·rw [if_pos hc,hc]
   cases st with
   | none =>
    dsimp only
    rw [ih (pos+1) none acc (by omega) (fun _ h=>by cases h)]
    dsimp only
    rw [List.nil_append,List.nil_append,words_space]
   | some a =>
    obtain ⟨h1,h2⟩:=hst a rfl
    have hne:(l.drop a).take (pos - a) ≠ []:=by
     intro e
     have:=congrArg List.length e
     simp at this
     omega
    dsimp only
    rw [ih (pos+1) none _ (by omega) (fun _ h=>by cases h),words_hit h2 hne]
    simp [hex]
  ·rw [if_neg hc]
   have hpart:∀ a,a<=pos->(l.drop a).take (pos+1 - a)=(l.drop a).take (pos - a)++[l[pos]'(by omega)]:=fun a ha=>by
    rw [show pos+1 - a=(pos - a)+1 by omega,List.take_succ_eq_append_getElem (by rw [List.length_drop];omega),List.getElem_drop]
    congr 3
    omega
   cases st with
   | none =>
    have hp2:=hpart pos (Nat.le_refl _)
    rw [Nat.sub_self,List.take_zero,List.nil_append] at hp2
    rw [show (none:Option Nat).getD pos=pos from rfl,ih (pos+1) (some pos) acc (by omega) (fun a ha=>by
     cases ha
     refine ⟨by omega,fun d hd=>?_⟩
     rw [hp2] at hd
     obtain rfl:d=_:=by simpa using hd
     exact hc)]
    dsimp only
    rw [hp2]
    simp
   | some a =>
    obtain ⟨h1,h2⟩:=hst a rfl
    have hp2:=hpart a (by omega)
    rw [show (some a).getD pos=a from rfl,ih (pos+1) (some a) acc (by omega) (fun b hb=>by
     cases hb
     refine ⟨by omega,fun d hd=>?_⟩
     rw [hp2] at hd
     rcases List.mem_append.1 hd with hd | hd
     ·exact h2 d hd
     ·obtain rfl:d=_:=by simpa using hd
      exact hc)]
    dsimp only
    rw [hp2]
    simp
theorem fields_words (l:List UInt8):Lib.goFieldsP (fun r=>r == 32) ⟨l.toArray⟩=(wordsL l).map (fun x=>(⟨x.toArray⟩:ByteArray)):=by
 have hsz:(⟨l.toArray⟩:ByteArray).size=l.length:=by simp [ByteArray.size]
 unfold Lib.goFieldsP Lib.spansOfP
 rw [hsz,spans_bytes l l.length 0 none [] (by omega)]
 have:=spB_words l l.length 0 none [] (by omega) (fun _ h=>by cases h)
 rw [this]
 simp
theorem splitO_ne:∀ l:List UInt8,splitO l ≠ []
 | []=>by simp [splitO]
 | [c]=>by simp [splitO]
 | c :: d :: l=>by
  rw [splitO]
  split
  ·simp
  ·split <;> simp
theorem index_two (c d:UInt8) (l:List UInt8):Lib.index (c :: d :: l) [124,124]=if c=124/\d=124 then 0 else if Lib.index (d :: l) [124,124] == -1 then -1 else Lib.index (d :: l) [124,124]+1:=by
 rw [Lib.index]
 have:List.isPrefixOf [124,124] (c :: d :: l)=(decide (c=124/\d=124)):=by
  rw [List.isPrefixOf,List.isPrefixOf,List.isPrefixOf]
  by_cases h1:c=124
  ·by_cases h2:d=124
   ·subst h1;subst h2;rfl
   ·have e:((124:UInt8) == d)=false:=by simpa using fun h=>h2 h.symm
    simp [h2,e]
  ·have e:((124:UInt8) == c)=false:=by simpa using fun h=>h1 h.symm
   simp [h1,e]
 rw [this]
 by_cases h:c=124/\d=124
 ·rw [if_pos h,if_pos (by simpa using h)]
 ·rw [if_neg h,if_neg (by simpa using h)]
theorem splitO_none:∀ l:List UInt8,Lib.index l [124,124] = -1->splitO l=[l]
 | [],_=>rfl
 | [c],_=>rfl
 | c :: d :: l,h=>by
  rw [index_two] at h
  by_cases hc:c=124/\d=124
  ·rw [if_pos hc] at h;cases h
  ·rw [if_neg hc] at h
   have h2:Lib.index (d :: l) [124,124] = -1:=by
    by_cases e:Lib.index (d :: l) [124,124] = -1
    ·exact e
    ·rw [if_neg (by simpa using e)] at h
     have:=Lib.index_ge (d :: l) [124,124]
     omega
   rw [splitO,if_neg hc,splitO_none (d :: l) h2]
theorem splitO_hit:∀ (l:List UInt8) (i:Nat),Lib.index l [124,124]=(i:Int)->splitO l=l.take i :: splitO (l.drop (i+2))/\i+2<=l.length
 | [],i,h=>by
  have:Lib.index [] [124,124] = -1:=rfl
  omega
 | [c],i,h=>by
  have:Lib.index [c] [124,124] = -1:=by
   rw [Lib.index]
   have e:List.isPrefixOf [124,124] [c]=false:=by
    rw [List.isPrefixOf]
    simp
   rw [e];rfl
  omega
 | c :: d :: l,i,h=>by
  rw [index_two] at h
  by_cases hc:c=124/\d=124
  ·rw [if_pos hc] at h
   have:i=0:=by omega
   subst this
   rw [splitO,if_pos hc]
   exact ⟨rfl,by simp⟩
  ·rw [if_neg hc] at h
   by_cases e:Lib.index (d :: l) [124,124] = -1
   ·rw [if_pos (by simpa using e)] at h;omega
   ·rw [if_neg (by simpa using e)] at h
    have:=Lib.index_ge (d :: l) [124,124]
    obtain ⟨k,rfl⟩:∃ k,i=k+1:=⟨i - 1,by omega⟩
    obtain ⟨h1,h2⟩:=splitO_hit (d :: l) k (by omega)
    rw [splitO,if_neg hc,h1]
    exact ⟨rfl,by simp at h2 ⊢;omega⟩
theorem splitO_length_le:∀ l:List UInt8,(splitO l).length<=l.length+1
 | []=>by simp [splitO]
 | [c]=>by simp [splitO]
 | c :: d :: l=>by
  have h1:=splitO_length_le l
  have h2:=splitO_length_le (d :: l)
  rw [splitO]
  split
  ·simp;omega
  ·split
   ·simp
   ·rename_i h;rw [h] at h2;simp at h2 ⊢;omega
theorem splitO_mem_le:∀ (l:List UInt8),∀ p ∈ splitO l,p.length<=l.length
 | [],p,hp=>by simp [splitO] at hp;simp [hp]
 | [c],p,hp=>by simp [splitO] at hp;simp [hp]
 | c :: d :: l,p,hp=>by
  have h1:=splitO_mem_le l
  have h2:=splitO_mem_le (d :: l)
  rw [splitO] at hp
  split at hp
  ·rcases List.mem_cons.1 hp with rfl | hp
   ·simp
   ·have:=h1 p hp;simp;omega
  ·split at hp
   ·simp at hp;simp [hp]
   ·rename_i q r h
    rw [h] at h2
    rcases List.mem_cons.1 hp with rfl | hp
    ·have:=h2 q (by simp);simp at this ⊢;omega
    ·have:=h2 p (by simp [hp]);simp at this ⊢;omega
/-! ### Spaces about -/
theorem splitC_snoc (c:UInt8):∀ l:List UInt8,splitC c (l++[c])=splitC c l++[[]]
 | []=>by
  show splitC c [c]=_
  simp [splitC]
 | d :: l=>by
  have ih:=splitC_snoc c l
  show splitC c (d :: (l++[c]))=_
  rw [splitC,splitC,ih]
  by_cases h:d=c
  ·rw [if_pos h,if_pos h];rfl
  ·rw [if_neg h,if_neg h]
   match hs:splitC c l with
   | []=>exact absurd hs (splitC_ne c l)
   | p :: r=>rfl
theorem words_snoc (l:List UInt8):wordsL (l++[32])=wordsL l:=by
 unfold wordsL
 rw [splitC_snoc,List.filter_append]
 simp
theorem words_lead:∀ l:List UInt8,wordsL (l.dropWhile (· == 32))=wordsL l
 | []=>rfl
 | d :: l=>by
  by_cases h:d=32
  ·subst h
   rw [List.dropWhile_cons,if_pos (by simp),words_lead l,words_space]
  ·rw [List.dropWhile_cons,if_neg (by simpa using h)]
theorem words_trail:∀ (n:Nat) (l:List UInt8),l.length=n->wordsL (l.reverse.dropWhile (· == 32)).reverse=wordsL l:=by
 intro n
 induction n with
 | zero=>intro l hl;rw [List.length_eq_zero_iff.1 hl];rfl
 | succ n ih =>
  intro l hl
  have hne:l ≠ []:=by intro e;rw [e] at hl;cases hl
  have e:=List.dropLast_concat_getLast hne
  generalize l.getLast hne=z at *
  generalize hd:l.dropLast=d at *
  subst e
  rw [List.reverse_append]
  show wordsL ((z :: d.reverse).dropWhile (· == 32)).reverse=_
  by_cases h:z=32
  ·subst h
   rw [List.dropWhile_cons,if_pos (by simp),ih d (by simpa using hl),words_snoc]
  ·rw [List.dropWhile_cons,if_neg (by simpa using h)]
   simp
theorem words_trim (l:List UInt8):wordsL (Lib.trimB l 32)=wordsL l:=by
 unfold Lib.trimB Lib.trimLeftB Lib.trimRightB
 rw [words_lead,words_trail _ l rfl]
theorem words_nil:∀ {l:List UInt8},wordsL l=[]->∀ d ∈ l,d=32:=by
 intro l h d hd
 apply Classical.byContradiction
 intro hne
 have hall:∀ x ∈ splitC 32 l,x=[]:=fun x hx=>by
  cases x with
  | nil=>rfl
  | cons a b =>
   have:(a :: b) ∈ wordsL l:=List.mem_filter.2 ⟨hx,rfl⟩
   rw [h] at this;cases this
 have key:∀ m:List UInt8,d ∈ m->∃ x ∈ splitC 32 m,d ∈ x:=by
  intro m
  induction m with
  | nil=>intro h;cases h
  | cons a m ih =>
   intro hm
   rw [splitC]
   by_cases ha:a=32
   ·rw [if_pos ha]
    rcases List.mem_cons.1 hm with e | hm
    ·exact absurd (e.trans ha) hne
    ·obtain ⟨x,hx,hx2⟩:=ih hm
     exact ⟨x,by simp [hx],hx2⟩
   ·rw [if_neg ha]
    match hs:splitC 32 m with
    | []=>exact absurd hs (splitC_ne 32 m)
    | p :: r =>
     rcases List.mem_cons.1 hm with e | hm
     ·exact ⟨a :: p,by simp,by simp [e]⟩
     ·obtain ⟨x,hx,hx2⟩:=ih hm
      rw [hs] at hx
      rcases List.mem_cons.1 hx with rfl | hx
      ·exact ⟨a :: x,by simp,by simp [hx2]⟩
      ·exact ⟨x,by simp [hx],hx2⟩
 obtain ⟨x,hx,hdx⟩:=key l hd
 rw [hall x hx] at hdx
 cases hdx
theorem trim_ends (l:List UInt8):(∀ d,(Lib.trimB l 32).head? = some d->d ≠ 32)/\(∀ d,(Lib.trimB l 32).getLast? = some d->d ≠ 32):=by
 have hh:∀ m:List UInt8,∀ d,(m.dropWhile (· == 32)).head? = some d->d ≠ 32:=by
  intro m
  induction m with
  | nil=>intro d h;cases h
  | cons a m ih =>
   intro d h
   rw [List.dropWhile_cons] at h
   by_cases ha:a=32
   ·rw [if_pos (by simpa using ha)] at h;exact ih d h
   ·rw [if_neg (by simpa using ha)] at h
    have:a=d:=by simpa using h
    rw [<- this];exact ha
 unfold Lib.trimB Lib.trimLeftB Lib.trimRightB
 refine ⟨hh _,fun d h=>?_⟩
 have hs:∀ m:List UInt8,∀ d,(m.dropWhile (· == 32)).getLast? = some d->m.getLast? = some d:=by
  intro m
  induction m with
  | nil=>intro d h;cases h
  | cons a m ih =>
   intro d h
   rw [List.dropWhile_cons] at h
   by_cases ha:a=32
   ·rw [if_pos (by simpa using ha)] at h
    have:=ih d h
    rw [List.getLast?_cons,this];rfl
   ·rw [if_neg (by simpa using ha)] at h;exact h
 have h2:=hs _ d h
 rw [List.getLast?_reverse] at h2
 exact hh _ d h2
theorem trim_star (l:List UInt8):Lib.trimB l 32=[42] ↔ wordsL l=[[42]]:=by
 constructor
 ·intro h
  rw [<- words_trim,h]
  decide
 ·intro h
  rw [<- words_trim] at h
  obtain ⟨h1,h2⟩:=trim_ends l
  generalize Lib.trimB l 32=t at *
  by_cases hs:(32:UInt8) ∈ t
  ·obtain ⟨a,b,rfl,ha⟩:=first_place hs
   cases a with
   | nil=>exact absurd rfl (h1 32 rfl)
   | cons x a =>
    rw [words_hit ha (by simp)] at h
    have hb:wordsL b=[]:=by
     have:=List.tail_eq_of_cons_eq h
     exact this
    have hb2:=words_nil hb
    have hl:((x :: a)++32 :: b).getLast? = some 32:=by
     rw [List.getLast?_append]
     have:(32 :: b).getLast? = some 32:=by
      have hz:∀ z ∈ 32 :: b,z=32:=fun z hz=>by
       rcases List.mem_cons.1 hz with rfl | hz
       ·rfl
       ·exact hb2 z hz
      rw [List.getLast?_eq_some_getLast (by simp)]
      rw [hz _ (List.getLast_mem (by simp))]
     rw [this];rfl
    exact absurd rfl (h2 32 hl)
  ·by_cases hn:t=[]
   ·subst hn;cases h
   ·rw [words_end (fun d hd e=>hs (e ▸ hd)) hn] at h
    exact List.head_eq_of_cons_eq h
end Go.Proofs.YtgiigemfbebcgaaGreatDoor
