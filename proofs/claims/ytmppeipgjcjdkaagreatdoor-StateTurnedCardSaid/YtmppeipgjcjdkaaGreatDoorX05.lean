/-
  Layers 0 to 14: helps of the laws of indexes. No statement is proved here; no condition.
-/
import Derived.Test.YtmppeipgjcjdkaaGreatDoorX00
import Derived.Test.YtmppeipgjcjdkaaGreatDoorX03
import Derived.Test.YtmppeipgjcjdkaaGreatDoorX01
import Derived.Lib.Index
import Derived.Lib.TrimByte
import Derived.Great.BuildSlice
import Derived.Great.FillDense
namespace Go.Proofs.YtmppeipgjcjdkaaGreatDoor
open _root_.Go.Proofs.Tryz
open Go.RowKit
theorem index_two (c d:UInt8) (l:List UInt8):Lib.index (c :: d :: l) [124,124]=if c=124/\d=124 then 0 else if Lib.index (d :: l) [124,124] == -1 then -1 else Lib.index (d :: l) [124,124]+1:=by
 rw [Lib.index]
 have:List.isPrefixOf [124,124] (c :: d :: l)=(decide (c=124/\d=124)):=by
  rw [List.isPrefixOf,List.isPrefixOf,List.isPrefixOf]
  by_cases h1:c=124
  ·by_cases h2:d=124
   ·subst h1;subst h2;rfl
   ·have e:((124:UInt8) == d)=false:=by simpa using fun h=>h2 h.symm
    simp [h2,e]
  ·have e:((124:UInt8) == c)=false:=by simpa using fun h=>h1 h.symm
   simp [h1,e]
 rw [this]
 by_cases h:c=124/\d=124
 ·rw [if_pos h,if_pos (by simpa using h)]
 ·rw [if_neg h,if_neg (by simpa using h)]
theorem splitO_none:∀ l:List UInt8,Lib.index l [124,124] = -1->splitO l=[l]
 | [],_=>rfl
 | [c],_=>rfl
 | c :: d :: l,h=>by
  rw [index_two] at h
  by_cases hc:c=124/\d=124
  ·rw [if_pos hc] at h;cases h
  ·rw [if_neg hc] at h
   have h2:Lib.index (d :: l) [124,124] = -1:=by
    by_cases e:Lib.index (d :: l) [124,124] = -1
    ·exact e
    ·rw [if_neg (by simpa using e)] at h
     have:=Lib.index_ge (d :: l) [124,124]
     omega
   rw [splitO,if_neg hc,splitO_none (d :: l) h2]
theorem splitO_hit:∀ (l:List UInt8) (i:Nat),Lib.index l [124,124]=(i:Int)->splitO l=l.take i :: splitO (l.drop (i+2))/\i+2<=l.length
 | [],i,h=>by
  have:Lib.index [] [124,124] = -1:=rfl
  omega
 | [c],i,h=>by
  have:Lib.index [c] [124,124] = -1:=by
   rw [Lib.index]
   have e:List.isPrefixOf [124,124] [c]=false:=by
    rw [List.isPrefixOf]
    simp
   rw [e];rfl
  omega
 | c :: d :: l,i,h=>by
  rw [index_two] at h
  by_cases hc:c=124/\d=124
  ·rw [if_pos hc] at h
   have:i=0:=by omega
   subst this
   rw [splitO,if_pos hc]
   exact ⟨rfl,by simp⟩
  ·rw [if_neg hc] at h
   by_cases e:Lib.index (d :: l) [124,124] = -1
   ·rw [if_pos (by simpa using e)] at h;omega
   ·rw [if_neg (by simpa using e)] at h
    have:=Lib.index_ge (d :: l) [124,124]
    obtain ⟨k,rfl⟩:∃ k,i=k+1:=⟨i - 1,by omega⟩
    obtain ⟨h1,h2⟩:=splitO_hit (d :: l) k (by omega)
    rw [splitO,if_neg hc,h1]
    exact ⟨rfl,by simp at h2 ⊢;omega⟩
theorem splitO_mem_le:∀ (l:List UInt8),∀ p ∈ splitO l,p.length<=l.length
 | [],p,hp=>by simp [splitO] at hp;simp [hp]
 | [c],p,hp=>by simp [splitO] at hp;simp [hp]
 | c :: d :: l,p,hp=>by
  have h1:=splitO_mem_le l
  have h2:=splitO_mem_le (d :: l)
  rw [splitO] at hp
  split at hp
  ·rcases List.mem_cons.1 hp with rfl | hp
   ·simp
   ·have:=h1 p hp;simp;omega
  ·split at hp
   ·simp at hp;simp [hp]
   ·rename_i q r h
    rw [h] at h2
    rcases List.mem_cons.1 hp with rfl | hp
    ·have:=h2 q (by simp);simp at this ⊢;omega
    ·have:=h2 p (by simp [hp]);simp at this ⊢;omega
/-! ### Spaces about -/
theorem splitC_snoc (c:UInt8):∀ l:List UInt8,splitC c (l++[c])=splitC c l++[[]]
 | []=>by
  show splitC c [c]=_
  simp [splitC]
 | d :: l=>by
  have ih:=splitC_snoc c l
  show splitC c (d :: (l++[c]))=_
  rw [splitC,splitC,ih]
  by_cases h:d=c
  ·rw [if_pos h,if_pos h];rfl
  ·rw [if_neg h,if_neg h]
   match hs:splitC c l with
   | []=>exact absurd hs (splitC_ne c l)
   | p :: r=>rfl
theorem words_snoc (l:List UInt8):wordsL (l++[32])=wordsL l:=by
 unfold wordsL
 rw [splitC_snoc,List.filter_append]
 simp
theorem words_lead:∀ l:List UInt8,wordsL (l.dropWhile (· == 32))=wordsL l
 | []=>rfl
 | d :: l=>by
  by_cases h:d=32
  ·subst h
   rw [List.dropWhile_cons,if_pos (by simp),words_lead l,words_space]
  ·rw [List.dropWhile_cons,if_neg (by simpa using h)]
theorem words_trail:∀ (n:Nat) (l:List UInt8),l.length=n->wordsL (l.reverse.dropWhile (· == 32)).reverse=wordsL l:=by
 intro n
 induction n with
 | zero=>intro l hl;rw [List.length_eq_zero_iff.1 hl];rfl
 | succ n ih =>
  intro l hl
  have hne:l ≠ []:=by intro e;rw [e] at hl;cases hl
  have e:=List.dropLast_concat_getLast hne
  generalize l.getLast hne=z at *
  generalize hd:l.dropLast=d at *
  subst e
  rw [List.reverse_append]
  show wordsL ((z :: d.reverse).dropWhile (· == 32)).reverse=_
  by_cases h:z=32
  ·subst h
   rw [List.dropWhile_cons,if_pos (by simp),ih d (by simpa using hl),words_snoc]
  ·rw [List.dropWhile_cons,if_neg (by simpa using h)]
   simp
theorem words_trim (l:List UInt8):wordsL (Lib.trimB l 32)=wordsL l:=by
 unfold Lib.trimB Lib.trimLeftB Lib.trimRightB
 rw [words_lead,words_trail _ l rfl]
theorem words_nil:∀ {l:List UInt8},wordsL l=[]->∀ d ∈ l,d=32:=by
 intro l h d hd
 apply Classical.byContradiction
 intro hne
 have hall:∀ x ∈ splitC 32 l,x=[]:=fun x hx=>by
  cases x with
  | nil=>rfl
  | cons a b =>
   have:(a :: b) ∈ wordsL l:=List.mem_filter.2 ⟨hx,rfl⟩
   rw [h] at this;cases this
 have key:∀ m:List UInt8,d ∈ m->∃ x ∈ splitC 32 m,d ∈ x:=by
  intro m
  induction m with
  | nil=>intro h;cases h
  | cons a m ih =>
   intro hm
   rw [splitC]
   by_cases ha:a=32
   ·rw [if_pos ha]
    rcases List.mem_cons.1 hm with e | hm
    ·exact absurd (e.trans ha) hne
    ·obtain ⟨x,hx,hx2⟩:=ih hm
     exact ⟨x,by simp [hx],hx2⟩
   ·rw [if_neg ha]
    match hs:splitC 32 m with
    | []=>exact absurd hs (splitC_ne 32 m)
    | p :: r =>
     rcases List.mem_cons.1 hm with e | hm
     ·exact ⟨a :: p,by simp,by simp [e]⟩
     ·obtain ⟨x,hx,hx2⟩:=ih hm
      rw [hs] at hx
      rcases List.mem_cons.1 hx with rfl | hx
      ·exact ⟨a :: x,by simp,by simp [hx2]⟩
      ·exact ⟨x,by simp [hx],hx2⟩
 obtain ⟨x,hx,hdx⟩:=key l hd
 rw [hall x hx] at hdx
 cases hdx
theorem trim_ends (l:List UInt8):(∀ d,(Lib.trimB l 32).head? = some d->d ≠ 32)/\(∀ d,(Lib.trimB l 32).getLast? = some d->d ≠ 32):=by
 have hh:∀ m:List UInt8,∀ d,(m.dropWhile (· == 32)).head? = some d->d ≠ 32:=by
  intro m
  induction m with
  | nil=>intro d h;cases h
  | cons a m ih =>
   intro d h
   rw [List.dropWhile_cons] at h
   by_cases ha:a=32
   ·rw [if_pos (by simpa using ha)] at h;exact ih d h
   ·rw [if_neg (by simpa using ha)] at h
    have:a=d:=by simpa using h
    rw [<- this];exact ha
 unfold Lib.trimB Lib.trimLeftB Lib.trimRightB
 refine ⟨hh _,fun d h=>?_⟩
 have hs:∀ m:List UInt8,∀ d,(m.dropWhile (· == 32)).getLast? = some d->m.getLast? = some d:=by
  intro m
  induction m with
  | nil=>intro d h;cases h
  | cons a m ih =>
   intro d h
   rw [List.dropWhile_cons] at h
   by_cases ha:a=32
   ·rw [if_pos (by simpa using ha)] at h
    have:=ih d h
    rw [List.getLast?_cons,this];rfl
   ·rw [if_neg (by simpa using ha)] at h;exact h
 have h2:=hs _ d h
 rw [List.getLast?_reverse] at h2
 exact hh _ d h2
theorem trim_star (l:List UInt8):Lib.trimB l 32=[42] ↔ wordsL l=[[42]]:=by
 constructor
 ·intro h
  rw [<- words_trim,h]
  decide
 ·intro h
  rw [<- words_trim] at h
  obtain ⟨h1,h2⟩:=trim_ends l
  generalize Lib.trimB l 32=t at *
  by_cases hs:(32:UInt8) ∈ t
  ·obtain ⟨a,b,rfl,ha⟩:=first_place hs
   cases a with
   | nil=>exact absurd rfl (h1 32 rfl)
   | cons x a =>
    rw [words_hit ha (by simp)] at h
    have hb:wordsL b=[]:=by
     have:=List.tail_eq_of_cons_eq h
     exact this
    have hb2:=words_nil hb
    have hl:((x :: a)++32 :: b).getLast? = some 32:=by
     rw [List.getLast?_append]
     have:(32 :: b).getLast? = some 32:=by
      have hz:∀ z ∈ 32 :: b,z=32:=fun z hz=>by
       rcases List.mem_cons.1 hz with rfl | hz
       ·rfl
       ·exact hb2 z hz
      rw [List.getLast?_eq_some_getLast (by simp)]
      rw [hz _ (List.getLast_mem (by simp))]
     rw [this];rfl
    exact absurd rfl (h2 32 hl)
  ·by_cases hn:t=[]
   ·subst hn;cases h
   ·rw [words_end (fun d hd e=>hs (e ▸ hd)) hn] at h
    exact List.head_eq_of_cons_eq h
theorem words_le (l:List UInt8):(wordsL l).length<=l.length+1:=Nat.le_trans (List.length_filter_le _ _) (splitC_length_le 32 l)
theorem words_mem_le (l:List UInt8):∀ x ∈ wordsL l,x.length<=l.length/\x ≠ []:=fun x hx=>by
 obtain ⟨h1,h2⟩:=List.mem_filter.1 hx
 refine ⟨splitC_mem_le 32 l x h1,?_⟩
 rintro rfl
 cases h2
theorem nextV_pre (v:Ver) (p:Nat):(nextV v p).pre=[]:=by
 unfold nextV
 split
 ·split <;> rfl
 ·split
  ·split <;> rfl
  ·split <;> rfl
theorem bytes_of_list {G:ByteArray} {l:List UInt8} (h:G.toList=l):G=⟨l.toArray⟩:=by
 rw [<- h,ByteArray.toList_eq]
theorem verOf_ok {l:List UInt8} {v:Ver} (h:verOf l=some v):VerOk v:=by
 match hs:splitC 46 (headC 45 l) with
 | [a,b,c] =>
  rw [verOf_three hs] at h
  by_cases hc:(numB a && numB b && numB c && preOk l)=true
  ·rw [if_pos hc] at h
   obtain rfl:=Option.some.inj h
   simp only [Bool.and_eq_true] at hc
   obtain ⟨⟨⟨h1,h2⟩,h3⟩,-⟩:=hc
   have k:∀ x:List UInt8,numB x=true->0<=(decV x:Int)/\(decV x:Int)<=999999999:=fun x hx=>by
    have e:(digitsB x && decide (x.length<=9) && plainB x)=true:=hx
    simp only [Bool.and_eq_true,decide_eq_true_eq] at e
    obtain ⟨⟨d1,d2⟩,-⟩:=e
    have d3:x.all dig=true:=by
     unfold digitsB at d1
     simp only [Bool.and_eq_true] at d1
     exact d1.1
    have:=decV_lt _ x rfl d3
    have h10:10 ^ x.length<=10 ^ 9:=Nat.pow_le_pow_right (by omega) d2
    omega
   exact ⟨k a h1,k b h2,k c h3⟩
  ·rw [if_neg hc] at h;cases h
 | []=>rw [verOf_len (by rw [hs];decide)] at h;cases h
 | [_]=>rw [verOf_len (by rw [hs];simp)] at h;cases h
 | [_,_]=>rw [verOf_len (by rw [hs];simp)] at h;cases h
 | _ :: _ :: _ :: _ :: _=>rw [verOf_len (by rw [hs];simp)] at h;cases h
set_option maxRecDepth 100000 in
theorem load_need {w:World} {b:Nat} {v0 v1 v2 v3:Value} (h:w.heap[b]? = some (.cells #[v0,v1,v2,v3] 113 (0,0))) :
  (loadVar 113 ⟨b,0,none⟩).run prog w=.ok (.agg #[v0,v1,v2,v3]) w :=
 run_loadVar_row (P:=prog) w b 113 113 #[v0,v1,v2,v3] (0,0) _ h underlying113 rfl (by kernel_rfl)
set_option maxRecDepth 100000 in
set_option maxHeartbeats 400000 in
theorem within_any (x l m:Int) (w:World) :
  Calls prog 25 #[.int .i64 x,.int .i64 l,.int .i64 m] w fun e w'=>e=.returned (.int .i64 (min (max x l) m))/\w=w':=by
 refine calls_hide fun R hR=>?_
 rcases Int.lt_or_le x l with h1 | h1
 ·rcases Int.lt_or_le m l with h2 | h2
  ·have e1:min (max x l) m=m:=by omega
   rw [e1] at hR;clear e1
   go_enter func25,ntmps25
   go_wp2
   exact fin hR ⟨(by first | rfl | (show Ending.returned (.int .i64 (min (max x l) m))=_;congr 2;omega)),rfl⟩
  ·have e1:min (max x l) m=l:=by omega
   rw [e1] at hR;clear e1
   go_enter func25,ntmps25
   go_wp2
   exact fin hR ⟨(by first | rfl | (show Ending.returned (.int .i64 (min (max x l) m))=_;congr 2;omega)),rfl⟩
 ·rcases Int.lt_or_le m x with h2 | h2
  ·have e1:min (max x l) m=m:=by omega
   rw [e1] at hR;clear e1
   go_enter func25,ntmps25
   go_wp2
   exact fin hR ⟨(by first | rfl | (show Ending.returned (.int .i64 (min (max x l) m))=_;congr 2;omega)),rfl⟩
  ·have e1:min (max x l) m=x:=by omega
   rw [e1] at hR;clear e1
   go_enter func25,ntmps25
   go_wp2
   exact fin hR ⟨(by first | rfl | (show Ending.returned (.int .i64 (min (max x l) m))=_;congr 2;omega)),rfl⟩
set_option maxRecDepth 100000 in
set_option maxHeartbeats 400000 in
theorem sectors_any (p:Addr) (a:Option Addr) (n c:Nat) (w:World) (h0:w.cell? p=some (.slice a n c)) :
  Calls prog 59 #[.pointer (some p)] w fun e w'=>e=.returned (.int .i64 n)/\w=w':=by
 go_enter func59,ntmps59
 go_wp2
 go_ret
 exact ⟨rfl,rfl⟩
set_option maxRecDepth 100000 in
set_option maxHeartbeats 400000 in
theorem dsize_any (p:Addr) (sb n c:Nat) (a:Option Addr) (m k:Nat) (w:World) (hn:0 < n) (h0:w.cell? p=some (.slice (some ⟨sb,0,none⟩) n c)) (h1:w.cell? ⟨sb,0,none⟩=some (.slice a m k)) :
  Calls prog 60 #[.pointer (some p)] w fun e w'=>e=.returned (.int .i64 m)/\w=w':=by
 go_enter func60,ntmps60
 go_wp2
 go_ret
 exact ⟨rfl,rfl⟩
def atE (dead:Bool) (i:Int) (n:Nat):Int:=if dead then 32 else if i < 0\/(n:Int)<=i then 30 else 0
set_option maxRecDepth 100000 in
set_option maxHeartbeats 400000 in
theorem dat_any (b:Nat) (sa:Option Addr) (n c:Nat) (vm:Value) (cut:Int) (dead:Bool) (i:Int) (w:World)
  (hb:w.heap[b]? = some (.cells #[.slice sa n c,vm,.int .i64 cut,.bool dead] 83 (0,0))) :
  Calls prog 231 #[.pointer (some ⟨b,0,none⟩),.int .i64 i] w fun e w'=>e=.returned (.int .i64 (atE dead i n))/\w=w':=by
 have c0:=cell_of (i:=0) hb rfl
 have c3:=cell_of (i:=3) hb rfl
 clear hb
 refine calls_hide fun R hR=>?_
 cases dead
 ·rcases Int.lt_or_le i 0 with h1 | h1
  ·go_enter func231,ntmps231
   go_wp2
   exact fin hR ⟨by simp [atE,h1],rfl⟩
  ·rcases Int.lt_or_le i n with h2 | h2
   ·go_enter func231,ntmps231
    go_wp2
    exact fin hR ⟨by simp [atE];omega,rfl⟩
   ·go_enter func231,ntmps231
    go_wp2
    exact fin hR ⟨by simp [atE];omega,rfl⟩
 ·go_enter func231,ntmps231
  go_wp2
  exact fin hR ⟨by simp [atE],rfl⟩
set_option maxRecDepth 100000 in
set_option maxHeartbeats 400000 in
theorem powered_any (b:Nat) (vs vm:Value) (cut:Int) (dead:Bool) (w:World) (hcut:-1<=cut) (hcut2:cut<=9223372036854775807)
  (hb:w.heap[b]? = some (.cells #[vs,vm,.int .i64 cut,.bool dead] 83 (0,0))) :
  Calls prog 244 #[.pointer (some ⟨b,0,none⟩)] w fun e w' =>
   e=.returned (.int .i64 (if cut=0 then 32 else 0)) ∧
   w'.heap[b]? = some (.cells #[vs,vm,.int .i64 (if 0 < cut then cut - 1 else cut),.bool (if cut=0 then true else dead)] 83 (0,0))/\Mod (· = b) w w'/\w'.heap.size=w.heap.size:=by
 have c2:=cell_of (i:=2) hb rfl
 have c3:=cell_of (i:=3) hb rfl
 have f2:=frozen_of 2 hb
 have f3:=frozen_of 3 hb
 have HB:=zh hb
 clear hb
 refine calls_hide fun R hR=>?_
 by_cases h0:cut=0
 ·subst h0
  go_enter func244,ntmps244
  go_wp2
  exact fin hR ⟨rfl,by rw [heap_setCell HB.out];rfl,(Mod.refl (· = b) _).setCell (fun _=>rfl) _,by simp⟩
 ·have hb0:(cut == 0)=false:=by simpa using h0
  by_cases h1:0 < cut
  ·go_enter func244,ntmps244
   go_wp2
   exact fin hR ⟨by simp [h0],by rw [heap_setCell HB.out];simp [h0,h1],(Mod.refl (· = b) _).setCell (fun _=>rfl) _,by simp⟩
  ·go_enter func244,ntmps244
   go_wp2
   refine fin hR ⟨by simp [h0],?_,Mod.refl _ _,rfl⟩
   rw [HB.out,if_neg (by omega),if_neg h0]
section
variable {P:Program} {ops:Array Oper} {Q:Exit->Act->World->Prop} {md:Region.Mode} {S:World->Prop}
end
section
variable {P:Program} {ops:Array Oper} {Q:Exit->Act->World->Prop} {md:Region.Mode} {S:World->Prop}
theorem wpAnyT_firstC {z i:Nat} {oi:Oper} {v:Value} (V:List Nat) (hi:ops[i]? = some oi) (hzV:z ∈ V)
  (hV:∀ k ∈ V,k ≠ i/\∃ ok,ops[k]? = some ok/\∃ e ∈ ok.after,Region.binds md e=true/\(e.on=i\/e.on ∈ V)) (hsel:∀ (j:Nat) (o:Oper) cs b,ops[j]? = some o->o.op ≠ .select cs b)
  (hQ:∀ c a w,Q (.panic c) (a.put oi.dst v) w->Q (.panic c) a w) :
  ∀ (fuel:Nat) (listed:Array Bool) (a:Act) (w:World),(∀ k ∈ V,listed.getD k true=false) →
   (∀ j oj,ops[j]? = some oj->j ≠ i->listed.getD j true=false->(∀ e ∈ oj.after,Region.binds md e=true->e.on ≠ i)->oi.apart ops oj=true) →
   i ∈ Region.ready md ops listed->YieldsIf P ops S oi v a->S w →
   wpAnyT P md ops Q S z fuel (listed.setIfInBounds i true) (a.put oi.dst v) w->wpAnyT P md ops Q S z (fuel+1) listed a w:=by
 intro fuel
 induction fuel with
 | zero =>
  intro listed a w _ _ hr hy hS H
  refine ⟨fun h=>(by rw [h] at hr;cases hr),fun j hj=>?_⟩
  by_cases hji:j=i
  ·subst hji;exact hy.wpOp hi hS ⟨fun _=>hS,H⟩
  ·have:=ready_mono hj hji
   rw [H.1] at this
   cases this
 | succ fuel ih =>
  intro listed a w hun hfree hr hy hS H
  refine ⟨fun h=>(by rw [h] at hr;cases hr),fun j hj=>?_⟩
  by_cases hji:j=i
  ·subst hji;exact hy.wpOp hi hS ⟨fun _=>hS,H⟩
  ·have h1:=H.2 j (ready_mono hj hji)
   obtain ⟨hjun,oj,hoj,hall⟩:=mem_ready.1 hj
   have hno:∀ k,listed.getD k true=false->∀ e ∈ oj.after,Region.binds md e=true->e.on ≠ k:=fun k h0 e he hb heq=>by
    have h1:=hall e he hb
    rw [heq] at h1
    rcases Nat.lt_or_ge k listed.size with h' | h'
    ·simp [h'] at h0 h1;rw [h0] at h1;cases h1
    ·simp [Array.getElem?_eq_none h'] at h1
   have hnot:=hno i (mem_ready.1 hr).1
   have hjV:j ∉ V:=fun hjv=>by
    obtain ⟨_,ok,hok,e,he,hb,hor⟩:=hV j hjv
    rw [hoj] at hok
    cases hok
    rcases hor with h | h
    ·exact hnot e he hb h
    ·exact hno _ (hun _ h) e he hb rfl
   have hjz:j ≠ z:=fun e=>hjV (e ▸ hzV)
   have h2:=wpOp_putIf hoj (hfree j oj hoj hji hjun hnot) (fun cs b=>hsel i oi cs b hi) (fun cs b=>hsel j oj cs b hoj) hQ hy h1
   have hfree':∀ k ok,ops[k]? = some ok->k ≠ i->(listed.setIfInBounds j true).getD k true=false →
     (∀ e ∈ ok.after,Region.binds md e=true->e.on ≠ i)->oi.apart ops ok=true:=fun k ok hk hki hun hno=>by
    refine hfree k ok hk hki ?_ hno
    by_cases hjk:j=k
    ·subst hjk;exact hjun
    ·rw [getD_set_ne true hjk] at hun;exact hun
   have hun':∀ k ∈ V,(listed.setIfInBounds j true).getD k true=false:=fun k hk=>by
    have hjk:j ≠ k:=fun e=>hjV (e.symm ▸ hk)
    rw [getD_set_ne true hjk];exact hun k hk
   have hin:i ∈ Region.ready md ops (listed.setIfInBounds j true):=ready_mono hr (Ne.symm hji)
   refine wpOp_mono (fun a' w' h3=>?_) h2
   have hS':S w':=h3.2.1 hjz
   exact ⟨fun _=>hS',ih (listed.setIfInBounds j true) a' w' hun' hfree' hin h3.1 hS' (by rw [Array.setIfInBounds_comm _ _ hji];exact h3.2.2)⟩
def chainB (md:Region.Mode) (ops:Array Oper) (listed:Array Bool) (V:List Nat) (z i:Nat):Bool :=
 V.contains z && V.all fun k=>!listed.getD k true && !(k == i) && match ops[k]? with
  | some o=>o.after.any fun e=>Region.binds md e && (e.on == i || V.contains e.on)
  | none=>false
theorem wpAnyT_takeC {z:Nat} (V:List Nat) (i:Nat) (d:Option Tmp) {oi:Oper} (v:Value) {fuel:Nat} {listed:Array Bool} {a:Act} {w:World} (hi:ops[i]? = some oi) (hd:oi.dst=d)
  (hs:(Region.noSelect ops && Region.free md ops listed i && (Region.ready md ops listed).contains i && chainB md ops listed V z i)=true)
  (hQ:∀ c a w,Q (.panic c) (a.put oi.dst v) w->Q (.panic c) a w) (hS:S w) (hy:YieldsIf P ops S oi v a)
  (h:wpAnyT P md ops Q S z fuel (listed.setIfInBounds i true) (a.put d v) w):wpAnyT P md ops Q S z (fuel+1) listed a w:=by
 subst hd
 simp only [Bool.and_eq_true] at hs
 obtain ⟨⟨⟨h1,h2⟩,h3⟩,h4⟩:=hs
 unfold chainB at h4
 simp only [Bool.and_eq_true,List.all_eq_true,Bool.not_eq_true',beq_eq_false_iff_ne,ne_eq] at h4
 obtain ⟨hz,hall⟩:=h4
 refine wpAnyT_firstC V hi (by simpa using hz) (fun k hk=>?_) (Region.noSelect_spec h1) hQ fuel listed a w (fun k hk=>(hall k hk).1.1) (Region.free_spec hi h2) (by simpa using h3) hy hS h
 obtain ⟨⟨_,hne⟩,h5⟩:=hall k hk
 refine ⟨hne,?_⟩
 split at h5
 ·rename_i o ho
  obtain ⟨e,he,hb⟩:=Array.any_eq_true'.1 h5
  simp only [Bool.and_eq_true,Bool.or_eq_true,beq_iff_eq] at hb
  exact ⟨o,ho,e,he,hb.1,hb.2.imp id (fun h=>by simpa using h)⟩
 ·cases h5
end
abbrev StoppedL (n:Int):Ending:=.panicked [{ v:=failV n,recovered:=false }]
theorem lmust_yes (n:Int) (w:World):Calls prog 104 #[.bool true,.int .i64 n] w fun e w'=>e=.returned (.tuple #[])/\w'=w:=by
 refine calls_hide fun R hR=>?_
 go_enter func104,ntmps104
 go_wp2_with fail
 go_end0
 exact fin hR ⟨rfl,rfl⟩
theorem lmust_no (n:Int) (w:World):Calls prog 104 #[.bool false,.int .i64 n] w fun e w'=>e=StoppedL n/\w'=w:=by
 refine calls_hide fun R hR=>?_
 go_enter func104,ntmps104
 go_wp2_with fail
 exact ⟨rfl,fin hR ⟨rfl,rfl⟩⟩
structure FrD (n:Nat) (l:List (Nat × Value)) (df:List Deferred) (a:Act):Prop where
 size:a.tmps.size=n
 defers:a.defers=df
 holds:Holds a.tmps l
def Lose (G:Act->Prop) (Q:Exit->Act->World->Prop):Exit->Act->World->Prop
 | .panic c,a,w=>G a/\∀ T,G T->Q (.panic c) T w
 | e,a,w=>Q e a w
theorem wp_lose {P:Program} {s:Code} {Q:Exit->Act->World->Prop} {a:Act} {w:World} (G:Act->Prop) (h:s.wp P (Lose G Q) a w):s.wp P Q a w:=by
 refine wp_mono h ?_
 intro e a' w' hq
 cases e with
 | normal=>exact hq
 | exit id=>exact hq
 | goto l=>exact hq
 | ret=>exact hq
 | panic ch=>exact hq.2 _ hq.1
 | outgrown=>exact hq
theorem holds_put {t:Array Value} {d:Nat} {v:Value}:∀ {l:List (Nat × Value)},l.all (fun p=>p.1 != d)=true->Holds (t.setIfInBounds d v) l->Holds t l
 | [],_,_=>trivial
 | p :: l,hl,h=>by
  rw [List.all_cons,Bool.and_eq_true] at hl
  refine ⟨?_,holds_put hl.2 h.2⟩
  have h1:=h.1
  rw [Array.getD_eq_getD_getElem?,Array.getElem?_setIfInBounds_ne (by have:=hl.1;simp at this;exact fun e=>this e.symm)] at h1
  rw [Array.getD_eq_getD_getElem?]
  exact h1
theorem lose_put {n:Nat} {l:List (Nat × Value)} {df:List Deferred} {Q:Exit->Act->World->Prop} {d:Nat} {v:Value} (hl:l.all (fun p=>p.1 != d)=true) :
  ∀ c a w,Lose (FrD n l df) Q (.panic c) (a.put (some d) v) w->Lose (FrD n l df) Q (.panic c) a w:=fun c a w h=>by
 obtain ⟨⟨h1,h2,h3⟩,h4⟩:=h
 refine ⟨⟨?_,h2,holds_put hl h3⟩,h4⟩
 rw [<- h1]
 simp [Act.put]
theorem yL {P:Program} {ops:Array Oper} {Q:Exit → Act → World → Prop} {md:Region.Mode} {S:World → Prop} {n:Nat} {l:List (Nat × Value)} {df:List Deferred} {z:Nat} (i d:Nat) {oi:Oper} {v:Value} {fuel:Nat} {listed l2:Array Bool} {a a2:Act} {w:World} (hS:S w)
  (h:wpAnyT P md ops (Lose (FrD n l df) Q) S z fuel l2 a2 w) (hi:ops[i]? = some oi:=by rfl) (hd:oi.dst=some d:=by rfl)
  (hs:(Region.noSelect ops && Region.free md ops listed i && (Region.ready md ops listed).contains i && (ops[z]?).isNone)=true:=by kernel_rfl)
  (hp:l.all (fun p=>p.1 != d)=true:=by rfl)
  (hg:Region.wanted oi (yielded ops a.tmps)=true:=by rfl)
  (hy:∀ w,S w → (execOp a.eval oi).run P w=.ok (.value v) w:=by (intro _ q;go_simp;try rfl))
  (hl:listed.setIfInBounds i true=l2:=by (try simp only [yB,yC,yD]);rfl) (ha:a.put (some d) v=a2:=by (simp only [Act.put,yB,yC,yD];rfl)) :
  wpAnyT P md ops (Lose (FrD n l df) Q) S z (fuel+1) listed a w :=
 wpAnyT_takeV (z:=z) i (some d) v hi hd hs (by rw [hd];exact lose_put hp) hS (Or.inl ⟨hg,hy⟩) (by rw [hl,ha];exact h)
theorem yX {P:Program} {ops:Array Oper} {Q:Exit → Act → World → Prop} {md:Region.Mode} {S:World → Prop} {n:Nat} {l:List (Nat × Value)} {df:List Deferred} {z:Nat} (i d:Nat) {oi:Oper} {fuel:Nat} {listed l2:Array Bool} {a a2:Act} {w:World} (hS:S w)
  (h:wpAnyT P md ops (Lose (FrD n l df) Q) S z fuel l2 a2 w) (hi:ops[i]? = some oi:=by rfl) (hd:oi.dst=some d:=by rfl)
  (hs:(Region.noSelect ops && Region.free md ops listed i && (Region.ready md ops listed).contains i && (ops[z]?).isNone)=true:=by kernel_rfl)
  (hp:l.all (fun p=>p.1 != d)=true:=by rfl)
  (hg:Region.wanted oi (yielded ops a.tmps)=false:=by rfl)
  (hl:listed.setIfInBounds i true=l2:=by (try simp only [yB,yC,yD]);rfl) (ha:a.put (some d) undef=a2:=by (simp only [Act.put,yB,yC,yD];rfl)) :
  wpAnyT P md ops (Lose (FrD n l df) Q) S z (fuel+1) listed a w :=
 wpAnyT_takeV (z:=z) i (some d) undef hi hd hs (by rw [hd];exact lose_put hp) hS (Or.inr ⟨hg,rfl⟩) (by rw [hl,ha];exact h)
def rightB (c:UInt8):Bool:=decide (32 < c.toNat) && decide (c.toNat < 127) && c != 34 && c != 92 && c != 42 && c != 63 && c != 58
def partB (s:List UInt8):Bool:=decide (s.length<=32) && s.all rightB
def partsG:List (List UInt8)->List (List UInt8)->List (List UInt8) ⊕ Nat
 | out,[]=>.inl out
 | out,x :: l =>
  if x=[]\/x=[46] then partsG out l
  else if x=[46,46] then (if out=[] then .inr 51 else partsG out.dropLast l)
  else if partB x then partsG (out++[x]) l else .inr 50
def glueP:List (List UInt8)->List UInt8
 | []=>[]
 | [x]=>x
 | x :: y :: l=>x++47 :: glueP (y :: l)
def cleanP (s:List UInt8):List UInt8 × Nat :=
 if 200 < s.length then ([],50)
 else if s.head? = some 47 then ([],51)
 else match partsG [] (splitC 47 s) with
  | .inr e=>([],e)
  | .inl out=>if 12 < out.length then ([],50) else (glueP out,0)
def parentP (p:List UInt8):List UInt8:=((p.reverse.dropWhile (· != 47)).drop 1).reverse
structure Fl where
 path:List UInt8
 dir:Bool
 b:List UInt8
deriving DecidableEq
abbrev Tr:=List Fl
def atT (t:Tr) (p:List UInt8):Option Fl:=t.find? fun f=>f.path == p
def nodeT (t:Tr) (p:List UInt8):Option (Bool × List UInt8):=if p=[] then some (true,[]) else (atT t p).map fun f=>(f.dir,f.b)
def aheadG (t:Tr):Nat->List UInt8->List (List UInt8)->Option (List (List UInt8))
 | 0,_,out=>some out
 | n+1,d,out=>if d=[] then some out else match atT t d with
  | none=>aheadG t n (parentP d) (out++[d])
  | some f=>if f.dir then aheadG t n (parentP d) out else none
def aheadT (t:Tr) (p:List UInt8):Option (List (List UInt8)):=aheadG t p.length (parentP p) []
def sizeT (t:Tr):Nat:=(t.map fun f=>f.b.length).sum
def roomT (t:Tr) (files:Nat) (more old:Nat):Bool:=decide (t.length+files<=500) && decide (sizeT t+more<=1048576+old)
def putT:Tr->Fl->Tr
 | [],f=>[f]
 | g :: l,f=>if g.path=f.path then f :: l else if g.path < f.path then g :: putT l f else f :: g :: l
def makeT (t:Tr) (l:List (List UInt8)):Tr:=l.foldl (fun t d=>putT t ⟨d,true,[]⟩) t
def writeT (t:Tr) (s b:List UInt8):Tr ⊕ Nat :=
 match cleanP s with
 |(p,e)=>if e ≠ 0 then .inr e else match nodeT t p with
  | some (true,_)=>.inr 54
  | some (false,c)=>match aheadT t p with
   | none=>.inr 54
   | some lack=>if 65536 < b.length\/roomT t 0 b.length c.length=false then .inr 55 else .inl (putT (makeT t lack) ⟨p,false,b⟩)
  | none=>match aheadT t p with
   | none=>.inr 54
   | some lack=>if 65536 < b.length\/roomT t (lack.length+1) b.length 0=false then .inr 55 else .inl (putT (makeT t lack) ⟨p,false,b⟩)
def mkdirT (t:Tr) (s:List UInt8):Tr ⊕ Nat :=
 match cleanP s with
 |(p,e)=>if e ≠ 0 then .inr e else match nodeT t p with
  | some (true,_)=>.inl t
  | some (false,_)=>.inr 54
  | none=>match aheadT t p with
   | none=>.inr 54
   | some lack=>if roomT t (lack.length+1) 0 0=false then .inr 55 else .inl (makeT t (lack++[p]))
def isDirT (t:Tr) (p:List UInt8):Bool:=match nodeT t p with
 | some (d,_)=>d
 | none=>false
def ofG (t:Tr) (seen:List (List UInt8)):List Fl->Tr ⊕ Nat
 | []=>.inl t
 | f :: l=>match cleanP f.path with
  |(p,e)=>if e ≠ 0 then .inr e else if p ∈ seen\/(f.dir=true/\isDirT t p=true) then .inr 53 else
   match (if f.dir then mkdirT t p else writeT t p f.b) with
   | .inr e=>.inr e
   | .inl t'=>ofG t' (p :: seen) l
def ofT (l:List Fl):Tr ⊕ Nat:=ofG [] [] l
set_option maxRecDepth 100000 in
theorem right_any (c:UInt8) (w:World):Calls prog 281 #[.int .u8 (c.toNat:Int)] w fun e w'=>e=.returned (.bool (rightB c))/\w'=w:=by
 refine calls_hide fun R hR=>?_
 have HS:=zh (show rightB c=(decide (32 < c.toNat) && decide (c.toNat < 127) && decide (c.toNat ≠ 34/\c.toNat ≠ 92/\c.toNat ≠ 42/\c.toNat ≠ 63/\c.toNat ≠ 58)) by
  have h:∀ k:UInt8,(c != k)=decide (c.toNat ≠ k.toNat):=fun k=>by
   rw [Bool.eq_iff_iff]
   simp [UInt8.toNat_inj]
  unfold rightB
  rw [h,h,h,h,h]
  generalize c.toNat=x
  rw [Bool.eq_iff_iff]
  simp
  omega)
 generalize rightB c=s at *
 generalize c.toNat=x at *
 go_enter func281,ntmps281
 by_cases h:x=34\/x=92\/x=42\/x=63\/x=58
 ·have HF:=zh (show s=false by rw [HS.out,Bool.and_eq_false_iff];right;simp;omega)
  clear HS
  rcases h with rfl | rfl | rfl | rfl | rfl <;>
  ·go_wp2_with fail
   exact fin hR ⟨by rw [HF.out];rfl,rfl⟩
 ·have a1:((x:Int) == 34)=false:=by rw [beq_eq_false_iff_ne];omega
  have a2:((x:Int) == 92)=false:=by rw [beq_eq_false_iff_ne];omega
  have a3:((x:Int) == 42)=false:=by rw [beq_eq_false_iff_ne];omega
  have a4:((x:Int) == 63)=false:=by rw [beq_eq_false_iff_ne];omega
  have a5:((x:Int) == 58)=false:=by rw [beq_eq_false_iff_ne];omega
  have HF:=zh (show s=(decide (32 < x) && decide (x < 127)) by rw [HS.out,decide_eq_true (by omega:x ≠ 34/\x ≠ 92/\x ≠ 42/\x ≠ 63/\x ≠ 58),Bool.and_true])
  clear HS
  by_cases h32:(32:Int) < (x:Int)
  ·go_wp2_with fail
   refine fin hR ⟨bool_ret ?_,rfl⟩
   rw [HF.out,decide_eq_true (by omega:32 < x)]
   simp
   omega
  ·go_wp2_with fail
   refine fin hR ⟨bool_ret ?_,rfl⟩
   rw [HF.out,decide_eq_false (by omega:¬ 32 < x)]
   simp
set_option maxRecDepth 100000 in
set_option maxHeartbeats 4000000 in
theorem part_any (l:List UInt8) (hl:l.length<=1000000) (w:World):Calls prog 233 #[strV l] w fun e w'=>e=.returned (.int .i64 (if partB l then 0 else 50))/\w'=w:=by
 refine calls_hide fun R hR=>?_
 have HX:=zh (run_at l)
 have HZ:=zh (str_len3 l)
 have HRT:=zh right_any
 have HPB:=zh (show partB l=(decide (l.length<=32) && l.all rightB) from rfl)
 unfold strV at *
 generalize (⟨l.toArray⟩:ByteArray)=Z at *
 have hZs:(Z.size:Int)=(l.length:Int):=by rw [HZ.out]
 go_enter func233,ntmps233
 by_cases h32:(32:Int) < (l.length:Int)
 ·have HE:=zh (show (if partB l=true then (0:Int) else 50)=50 by rw [HPB.out,decide_eq_false (by omega:¬ l.length<=32)];rfl)
  go_wp2_with fail
  exact fin hR ⟨by rw [HE.out];rfl,rfl⟩
 have HND:=zh (show partB l=l.all rightB by rw [HPB.out,decide_eq_true (by omega:l.length<=32),Bool.true_and])
 clear HPB
 go_wp2_with fail
 go_loopw [9] (fun q wr=>∃ k:Nat,k<=l.length/\q=.int .i64 (k:Int)/\wr=w/\∀ i (hi:i < l.length),i < k->rightB l[i]=true) (fun q _=>l.length - (intOf q).toNat)
 case atStart=>exact ⟨0,by omega,rfl,rfl,fun i _ hi=>absurd hi (by omega)⟩
 case round =>
  obtain ⟨k,hk,rfl,rfl,hall⟩:=hrel
  have hk0:(0:Int)<=(k:Int):=Int.natCast_nonneg _
  by_cases hlt:k < l.length
  ·have hk1:(k:Int) < (Z.size:Int):=by omega
   have hidx:=HX.out k hlt
   have HN:=zh (fun h=>all_take_succ (p:=rightB) hlt hall h)
   have HF:=zh (fun h=>not_all (p:=rightB) hlt h)
   have HRK:=zh (HRT.out l[k])
   generalize rightB l[k]=sg at *
   generalize l[k].toNat=x at *
   clear hall
   go_wp2_with fail
   with_reducible refine (HRK.out _).mono ?_
   rintro e w2 ⟨rfl,rfl⟩
   rcases sg with _ | _
   ·have HE:=zh (show (if partB l=true then (0:Int) else 50)=50 by rw [HND.out,HF.out rfl];rfl)
    clear hidx
    go_wp2_with fail
    exact fin hR ⟨by rw [HE.out];rfl,rfl⟩
   ·have HN2:=zh (HN.out rfl)
    clear hidx
    go_wp2_with fail
    exact ⟨⟨k+1,by omega,rfl,trivial,HN2.out⟩,by show l.length - ((k:Int)+1).toNat < l.length - (k:Int).toNat;omega⟩
  ·have HE:=zh (show (if partB l=true then (0:Int) else 50)=0 by rw [HND.out,all_of (p:=rightB) (by omega) hall];rfl)
   have hk1:¬ (k:Int) < (Z.size:Int):=by omega
   clear hall
   go_wp2_with fail
   exact fin hR ⟨by rw [HE.out],rfl⟩
theorem run_app_full {P:Program} {w:World} (t ty e:TypeId) (i:TypeInfo) (z:Value) (size bytes base:Nat) (ht:P.underlying t=some (.slice e)) (hi:P.info? e=some i) (hz:i.zero=some z)
  (hsize:i.size=size) (hby:i.bytes=bytes) (hzs:z.cells.size=size) (sv:Value) (n:Nat) (olds:List Value)
  (hcase:(sv=.slice none 0 0/\n=0/\olds=[])\/∃ a0,sv=.slice (some a0) n n/\olds.length=n*size/\∀ j v,olds[j]? = some v->w.cell? (a0.add j)=some v)
  (xa:Addr) (m c:Nat) (news:List Value) (hm:0 < m) (hl:news.length=m*size) (hnews:∀ j v,news[j]? = some v->w.cell? (xa.add j)=some v)
  (h63:n+m<=maxLen) (hbytes:(n+m)*bytes<=140737488355328) (hbase:base<=w.heap.size) :
  ∃ v' w',(Builtin.append_ #[t,t] ty #[sv,.slice (some xa) m c]).run P w=.ok v' w'/\w'.ownsRow base e size v' (n+m) (olds++news)/\Mod No w w':=by
 subst hsize
 subst hby
 have hol:olds.length=n*i.size:=by
  rcases hcase with ⟨-,rfl,rfl⟩ | ⟨a0,-,h,-⟩
  ·simp
  ·exact h
 have hlen:(olds++news).length=(n+m)*i.size:=by rw [List.length_append,hol,hl,Nat.add_mul]
 have grown:∀ (old:Nat),old < n+m →
   (w.drew.alloc (.cells (olds.toArray++news.toArray++Builtin.zeroCells z.cells (grownCap w (n+m) old e - (n+m))) e)).ownsRow base e i.size
    (.slice (some ⟨w.heap.size,0,none⟩) (n+m) (grownCap w (n+m) old e)) (n+m) (olds++news) ∧
   Mod No w (w.drew.alloc (.cells (olds.toArray++news.toArray++Builtin.zeroCells z.cells (grownCap w (n+m) old e - (n+m))) e)):=by
  intro old ho
  have hge:=grownCap_ge w (n+m) old e
  have hcm:grownCap w (n+m) old e<=maxLen:=grownCap_le_maxLen w (n+m) old e h63
  refine ⟨⟨hlen,.inr ⟨w.heap.size,_,_,rfl,hbase,heap_alloc_new w.drew _,hge,hcm,?_,?_⟩⟩,((Mod.refl No w).drew).alloc _⟩
  ·simp only [Array.size_append,List.size_toArray,size_zeroCells,hzs,hol,hl,<- Nat.add_mul]
   congr 1
   omega
  ·simp only [Array.toList_append,List.append_assoc]
   rw [<- List.append_assoc,<- hlen]
   exact List.take_left
 have h63':((n+m:Nat):Int)<=9223372036854775807:=by unfold maxLen at h63;omega
 rcases hcase with ⟨rfl,rfl,rfl⟩ | ⟨a0,rfl,h1,h2⟩
 ·have hr:=run_append_nil (P:=P) w t ty e i z ht hi hz xa m c news hl hnews hm (by simpa using h63') (by have hb:=hbytes;simp only [Nat.zero_add] at hb;omega)
  have hgr:=grown 0 (by omega)
  simp only [Nat.zero_add,List.nil_append,Array.empty_append] at hgr ⊢
  exact ⟨_,_,hr,hgr.1,hgr.2⟩
 ·have hr:=run_append_grow (P:=P) w t ty e i z ht hi hz a0 n n olds h1 h2 xa m c news hl hnews (by omega) h63' (growslice_fits (by omega) hbytes)
  have hgr:=grown n (by omega)
  exact ⟨_,_,hr,hgr.1,hgr.2⟩
theorem wp_app_full {P:Program} (w:World) {o:Oper} {a:Act} {K:Act->World->Prop} {Q:Exit->Act->World->Prop} (s x:Operand) (t:TypeId)
  (ho:o.op=.call { callee:=.builtin .append,args:=#[s,x],argTypes:=#[t,t] })
  (base:Nat) (e:TypeId) (i:TypeInfo) (z:Value) (size bytes:Nat) (ht:P.underlying t=some (.slice e)) (hi:P.info? e=some i) (hz:i.zero=some z)
  (hsize:i.size=size) (hby:i.bytes=bytes) (hzs:z.cells.size=size)
  (sv:Value) (n:Nat) (olds:List Value) (hs:a.eval s=sv)
  (hcase:(sv=.slice none 0 0/\n=0/\olds=[])\/∃ a0,sv=.slice (some a0) n n/\olds.length=n*size/\∀ j v,olds[j]? = some v->w.cell? (a0.add j)=some v)
  (xa:Addr) (m c:Nat) (news:List Value) (hx:a.eval x=.slice (some xa) m c) (hm:0 < m) (hl:news.length=m*size) (hnews:∀ j v,news[j]? = some v->w.cell? (xa.add j)=some v)
  (h63:n+m<=maxLen) (hbytes:(n+m)*bytes<=140737488355328) (hbase:base<=w.heap.size)
  (h:∀ v' w',w'.ownsRow base e size v' (n+m) (olds++news)->Mod No w w'->K (a.put o.dst v') w'):o.wp P a w K Q:=by
 obtain ⟨v',w',hr,h1,h2⟩:=run_app_full (P:=P) t o.type e i z size bytes base ht hi hz hsize hby hzs sv n olds hcase xa m c news hm hl hnews h63 hbytes hbase
 unfold Oper.wp
 simp only [execOp,ho,resolve,invoke,builtin,Sem.run_bind,Sem.run_pure,Result.andThen_ok,List.map_toArray,List.map_cons,List.map_nil,hs,hx,hr]
 exact h v' w' h1 h2
theorem yslice3 {t:TypeId} {v h m r:Value} {w:World} (hr:(Instr.sliceAt t v none (some h) (some m)).run prog w=.ok r w) {o:Oper} {ρ:Operand->Value} (x y z:Operand) (ho:o.op=.slice t x none (some y) (some z)) (hx:ρ x=v) (hy:ρ y=h) (hz:ρ z=m):(execOp ρ o).run prog w=.ok (.value r) w:=by
 unfold execOp
 simp only [ho,Option.map_none,Option.map_some,hx,hy,hz,Sem.run_bind,Sem.run_pure,hr,Result.andThen_ok]
theorem yslice1 {t:TypeId} {v h r:Value} {w:World} (hr:(Instr.sliceAt t v (some h) none none).run prog w=.ok r w) {o:Oper} {ρ:Operand->Value} (x y:Operand) (ho:o.op=.slice t x (some y) none none) (hx:ρ x=v) (hy:ρ y=h):(execOp ρ o).run prog w=.ok (.value r) w:=by
 unfold execOp
 simp only [ho,Option.map_none,Option.map_some,hx,hy,Sem.run_bind,Sem.run_pure,hr,Result.andThen_ok]
theorem wp_value {P:Program} {o:Oper} {a:Act} {w w':World} {K:Act->World->Prop} {Q:Exit->Act->World->Prop} {v:Value} (hr:(execOp a.eval o).run P w=.ok (.value v) w') (h:K (a.put o.dst v) w'):o.wp P a w K Q:=by
 unfold Oper.wp
 rw [hr,Oper.upon_value]
 exact h
theorem yloadv {ty:TypeId} {a:Addr} {v:Value} {w:World} {o:Oper} {ρ:Operand->Value} (hl:(loadVar ty a).run prog w=.ok v w) (x:Operand) (ho:o.op=.load ty x) (hx:ρ x=.pointer (some a)) :
  (execOp ρ o).run prog w=.ok (.value v) w:=by
 unfold execOp
 simp only [ho,hx,Instr.loadAt,Instr.sureAddr,Sem.run_bind,Sem.run_pure,Result.andThen_ok,hl]
end Go.Proofs.YtmppeipgjcjdkaaGreatDoor
namespace Go.Proofs.YtmppeipgjcjdkaaGreatDoor
open _root_.Go.Proofs.Tryz
def cnB (n:Nat):List UInt8:=if h:n < 128 then [UInt8.ofNat n] else UInt8.ofNat (n % 128+128) :: cnB (n / 128)
termination_by n
decreasing_by omega
theorem numB_lt {n:Nat} (h:n < 128):cnB n=[UInt8.ofNat n]:=by rw [cnB];simp [h]
theorem numB_ge {n:Nat} (h:128<=n):cnB n=UInt8.ofNat (n % 128+128) :: cnB (n / 128):=by rw [cnB];simp [Nat.not_lt.2 h]
theorem numB_len:∀ (k n:Nat),n < 128 ^ (k+1)->(cnB n).length<=k+1
 | k,n,h=>by
  by_cases hn:n < 128
  ·rw [numB_lt hn];simp
  ·rw [numB_ge (by omega)]
   match k,h with
   | 0,h=>simp at h;omega
   | k+1,h =>
    have:=numB_len k (n / 128) (by rw [Nat.pow_succ] at h;exact Nat.div_lt_of_lt_mul (by rw [Nat.mul_comm];exact h))
    simp only [List.length_cons];omega
def rdNumG (i acc:Nat):List UInt8->Option (Nat × List UInt8)
 | []=>none
 | x :: l=>if 10<=i then none else if i=9/\1 < x.toNat then none else
   if x.toNat < 128 then (if x.toNat=0/\i ≠ 0 then none else some (acc+x.toNat % 128*2 ^ (7*i),l)) else rdNumG (i+1) (acc+x.toNat % 128*2 ^ (7*i)) l
def rdNum (l:List UInt8):Option (Nat × List UInt8):=rdNumG 0 0 l
theorem rdNumG_num:∀ (k i acc m:Nat) (l:List UInt8),i+k=9->m*2 ^ (7*i) < 18446744073709551616->(i ≠ 0->0 < m)->rdNumG i acc (cnB m++l)=some (acc+m*2 ^ (7*i),l):=by
 intro k
 induction k with
 | zero =>
  intro i acc m l hi hm h0
  have hi9:i=9:=by omega
  subst hi9
  have hm2:m < 2:=by omega
  rw [numB_lt (by omega)]
  have hx:(UInt8.ofNat m).toNat=m:=by simp;omega
  simp only [List.cons_append,List.nil_append,rdNumG,hx]
  rw [if_neg (by omega),if_neg (by omega),if_pos (by omega),if_neg (by have:=h0 (by omega);omega),Nat.mod_eq_of_lt (by omega)]
 | succ k ih =>
  intro i acc m l hi hm h0
  by_cases hs:m < 128
  ·rw [numB_lt hs]
   have hx:(UInt8.ofNat m).toNat=m:=by simp;omega
   simp only [List.cons_append,List.nil_append,rdNumG,hx]
   rw [if_neg (by omega),if_neg (by omega),if_pos hs,if_neg (fun h=>by have:=h0 h.2;omega),Nat.mod_eq_of_lt hs]
  ·rw [numB_ge (by omega)]
   have hx:(UInt8.ofNat (m % 128+128)).toNat=m % 128+128:=by simp;omega
   have hp:2 ^ (7*(i+1))=128*2 ^ (7*i):=by rw [show 7*(i+1)=7*i+7 by omega,Nat.pow_add];omega
   have hd:m / 128*(128*2 ^ (7*i))=m / 128*128*2 ^ (7*i):=by rw [Nat.mul_assoc]
   have hle:m / 128*128*2 ^ (7*i)<=m*2 ^ (7*i):=Nat.mul_le_mul_right _ (by omega)
   simp only [List.cons_append,rdNumG,hx]
   rw [if_neg (by omega),if_neg (by omega),if_neg (by omega),ih (i+1) _ (m / 128) l (by omega) (by rw [hp,hd];omega) (fun _=>by omega)]
   congr 2
   rw [hp,hd,show (m % 128+128) % 128=m % 128 by omega,Nat.add_assoc,<- Nat.add_mul]
   congr 2;omega
theorem rdNum_num (n:Nat) (l:List UInt8) (h:n < 18446744073709551616):rdNum (cnB n++l)=some (n,l):=by
 have:=rdNumG_num 9 0 0 n l rfl (by simpa using h) (fun h=>absurd rfl h)
 simpa [rdNum] using this
def textB (s:List UInt8):List UInt8:=cnB s.length++s
def rdText (l:List UInt8):Option (List UInt8 × List UInt8):=match rdNum l with
 | some (n,r)=>if n<=r.length then some (r.take n,r.drop n) else none
 | none=>none
theorem rdText_text (s l:List UInt8) (h:s.length < 18446744073709551616):rdText (textB s++l)=some (s,l):=by
 unfold rdText textB
 rw [List.append_assoc,rdNum_num _ _ h]
 simp
def boolB (b:Bool):List UInt8:=[if b then 1 else 0]
def rdBool:List UInt8->Option (Bool × List UInt8)
 | []=>none
 | x :: l=>if x.toNat<=1 then some (x.toNat == 1,l) else none
theorem rdBool_bool (b:Bool) (l:List UInt8):rdBool (boolB b++l)=some (b,l):=by
 cases b <;> rfl
end Go.Proofs.YtmppeipgjcjdkaaGreatDoor
namespace Go.Proofs.YtmppeipgjcjdkaaGreatDoor
open _root_.Go.Proofs.Tryz
open Go.RowKit
def wtP (l:List (List UInt8)):Nat:=(l.map fun x=>x.length+1).sum
theorem wtP_cons (x:List UInt8) (l:List (List UInt8)):wtP (x :: l)=x.length+1+wtP l:=by simp [wtP]
theorem wtP_append (a b:List (List UInt8)):wtP (a++b)=wtP a+wtP b:=by simp [wtP]
theorem wtP_drop:∀ l:List (List UInt8),wtP l.dropLast<=wtP l
 | []=>Nat.le_refl _
 | [x]=>by simp [wtP]
 | x :: y :: l=>by
  rw [List.dropLast_cons_cons,wtP_cons,wtP_cons x]
  have:=wtP_drop (y :: l)
  omega
theorem parts_wt:∀ (l out out':List (List UInt8)),partsG out l=.inl out'->wtP out'<=wtP out+wtP l
 | [],out,out',h=>by
  unfold partsG at h
  cases h
  exact Nat.le_add_right _ _
 | x :: l,out,out',h=>by
  unfold partsG at h
  rw [wtP_cons]
  split at h
  ·have:=parts_wt l _ _ h;omega
  ·split at h
   ·split at h
    ·cases h
    ·have:=parts_wt l _ _ h
     have:=wtP_drop out
     omega
   ·split at h
    ·have:=parts_wt l _ _ h
     rw [wtP_append,wtP_cons] at this
     have e:wtP []=0:=rfl
     omega
    ·cases h
theorem parts_mem:∀ (l out out':List (List UInt8)),partsG out l=.inl out'->∀ x ∈ out',x ∈ out\/x ∈ l
 | [],out,out',h,x,hx=>by
  unfold partsG at h
  cases h
  exact .inl hx
 | y :: l,out,out',h,x,hx=>by
  unfold partsG at h
  split at h
  ·rcases parts_mem l _ _ h x hx with e | e
   ·exact .inl e
   ·exact .inr (by simp [e])
  ·split at h
   ·split at h
    ·cases h
    ·rcases parts_mem l _ _ h x hx with e | e
     ·exact .inl (List.dropLast_subset _ e)
     ·exact .inr (by simp [e])
   ·split at h
    ·rcases parts_mem l _ _ h x hx with e | e
     ·rcases List.mem_append.1 e with e | e
      ·exact .inl e
      ·exact .inr (by simp at e;simp [e])
     ·exact .inr (by simp [e])
    ·cases h
theorem split_wt (c:UInt8):∀ s:List UInt8,wtP (splitC c s)=s.length+1
 | []=>rfl
 | d :: s=>by
  have ih:=split_wt c s
  unfold splitC
  split
  ·rw [wtP_cons,ih];simp;omega
  ·split
   ·rename_i h;exact absurd h (splitC_ne c s)
   ·rename_i p r h
    rw [h,wtP_cons] at ih
    rw [wtP_cons]
    simp
    omega
theorem split_free (c:UInt8):∀ s:List UInt8,∀ x ∈ splitC c s,c ∉ x
 | [],x,hx=>by simp [splitC] at hx;simp [hx]
 | d :: s,x,hx=>by
  have ih:=split_free c s
  unfold splitC at hx
  split at hx
  ·rcases List.mem_cons.1 hx with rfl | hx
   ·simp
   ·exact ih x hx
  ·rename_i hd
   split at hx
   ·rename_i h;exact absurd h (splitC_ne c s)
   ·rename_i p r h
    rcases List.mem_cons.1 hx with rfl | hx
    ·have:=ih p (by rw [h];simp)
     simp only [List.mem_cons,not_or]
     exact ⟨fun e=>hd e.symm,this⟩
    ·exact ih x (by rw [h];simp [hx])
theorem glue_wt:∀ l:List (List UInt8),(glueP l).length<=wtP l - 1
 | []=>Nat.le_refl _
 | [x]=>by rw [wtP_cons];simp [glueP]
 | x :: y :: l=>by
  have ih:=glue_wt (y :: l)
  have e:1<=wtP (y :: l):=by rw [wtP_cons];omega
  rw [wtP_cons]
  simp only [glueP,List.length_append,List.length_cons]
  omega
theorem glue_cnt:∀ l:List (List UInt8),(∀ x ∈ l,(47:UInt8) ∉ x)->(glueP l).count 47<=l.length - 1
 | [],_=>Nat.le_refl _
 | [x],h=>by
  have:List.count 47 x=0:=List.count_eq_zero.2 (h x (by simp))
  simp [glueP,this]
 | x :: y :: l,h=>by
  have ih:=glue_cnt (y :: l) (fun z hz=>h z (by simp [hz]))
  have:List.count 47 x=0:=List.count_eq_zero.2 (h x (by simp))
  simp only [glueP,List.count_append,List.count_cons_self,this]
  simp only [List.length_cons] at ih ⊢
  omega
theorem clean_all (s:List UInt8):(cleanP s).1.length<=200/\(cleanP s).1.count 47<=11:=by
 unfold cleanP
 split
 ·exact ⟨Nat.zero_le _,Nat.zero_le _⟩
 ·split
  ·exact ⟨Nat.zero_le _,Nat.zero_le _⟩
  ·split
   ·exact ⟨Nat.zero_le _,Nat.zero_le _⟩
   ·rename_i out h
    split
    ·exact ⟨Nat.zero_le _,Nat.zero_le _⟩
    ·have h1:=parts_wt _ _ _ h
     rw [split_wt] at h1
     have h2:=glue_wt out
     have e:wtP []=0:=rfl
     have h3:=glue_cnt out fun x hx=>by
      rcases parts_mem _ _ _ h x hx with h | h
      ·cases h
      ·exact split_free 47 s x h
     exact ⟨by dsimp only;omega,by dsimp only;omega⟩
theorem parent_cnt (p:List UInt8):parentP p=[]\/(parentP p).count 47+1<=p.count 47:=by
 unfold parentP
 have h1:(p.reverse.dropWhile (· != 47)).count 47<=p.count 47:=by
  rw [<- List.count_reverse (l:=p)]
  exact (List.dropWhile_sublist _).count_le 47
 rcases h:p.reverse.dropWhile (· != 47) with _ | ⟨c,r⟩
 ·exact .inl rfl
 ·right
  have hc:c=47:=by
   have:=List.head_dropWhile_not (· != 47) (l:=p.reverse) (by rw [h];simp)
   simp only [h,List.head_cons] at this
   simpa using this
  rw [h,hc,List.count_cons_self] at h1
  simp only [List.drop_succ_cons,List.drop_zero,List.count_reverse]
  exact h1
theorem parent_len (p:List UInt8):(parentP p).length<=p.length - 1:=by
 unfold parentP
 have h1:(p.reverse.dropWhile (· != 47)).length<=p.length:=by
  have h:=(List.dropWhile_sublist (· != (47:UInt8)) (l:=p.reverse)).length_le
  simpa using h
 simp
 omega
theorem ahead_all (t:Tr):∀ (n:Nat) (d:List UInt8) (out out':List (List UInt8)),aheadG t n d out=some out'->(d=[]->out'=out)/\out'.length<=out.length+(d.count 47+1)/\∀ x ∈ out',x ∈ out\/x.length<=d.length
 | 0,d,out,out',h=>by
  unfold aheadG at h
  cases h
  exact ⟨fun _=>rfl,by omega,fun x hx=>.inl hx⟩
 | n+1,d,out,out',h=>by
  unfold aheadG at h
  split at h
  ·cases h
   exact ⟨fun _=>rfl,by omega,fun x hx=>.inl hx⟩
  ·rename_i hd
   have hp:=parent_len d
   have hc:=parent_cnt d
   have key:∀ out1,aheadG t n (parentP d) out1=some out'->out'.length<=out1.length+d.count 47/\∀ x ∈ out',x ∈ out1\/x.length<=d.length:=fun out1 h=>by
    obtain ⟨h1,h2,h3⟩:=ahead_all t n _ _ _ h
    refine ⟨?_,fun x hx=>(h3 x hx).imp id fun h=>by omega⟩
    rcases hc with hc | hc
    ·rw [h1 hc];omega
    ·omega
   refine ⟨fun e=>absurd e hd,?_⟩
   split at h
   ·obtain ⟨h1,h2⟩:=key _ h
    rw [List.length_append,List.length_singleton] at h1
    refine ⟨by omega,fun x hx=>?_⟩
    rcases h2 x hx with e | e
    ·rcases List.mem_append.1 e with e | e
     ·exact .inl e
     ·exact .inr (by rw [List.mem_singleton.1 e];omega)
    ·exact .inr e
   ·split at h
    ·obtain ⟨h1,h2⟩:=key _ h
     exact ⟨by omega,h2⟩
    ·cases h
theorem aheadT_all {t:Tr} {p:List UInt8} {l:List (List UInt8)} (h:aheadT t p=some l):l.length<=p.count 47/\∀ x ∈ l,x.length<=p.length:=by
 obtain ⟨h1,h2,h3⟩:=ahead_all t _ _ _ _ h
 have hp:=parent_len p
 refine ⟨?_,fun x hx=>by
  rcases h3 x hx with e | e
  ·cases e
  ·omega⟩
 rcases parent_cnt p with hc | hc
 ·rw [h1 hc];exact Nat.zero_le _
 ·simp only [List.length_nil] at h2;omega
theorem put_len:∀ (t:Tr) (f:Fl),(putT t f).length<=t.length+1
 | [],f=>by simp [putT]
 | g :: l,f=>by
  have:=put_len l f
  unfold putT
  split
  ·simp
  ·split
   ·simp;omega
   ·simp
theorem put_mem:∀ (t:Tr) (f g:Fl),g ∈ putT t f->g=f\/g ∈ t
 | [],f,g,h=>by simp [putT] at h;exact .inl h
 | k :: l,f,g,h=>by
  unfold putT at h
  split at h
  ·rcases List.mem_cons.1 h with h | h
   ·exact .inl h
   ·exact .inr (by simp [h])
  ·split at h
   ·rcases List.mem_cons.1 h with h | h
    ·exact .inr (by simp [h])
    ·exact (put_mem l f g h).imp id fun h=>by simp [h]
   ·rcases List.mem_cons.1 h with h | h
    ·exact .inl h
    ·exact .inr h
theorem make_all:∀ (l:List (List UInt8)) (t:Tr),(makeT t l).length<=t.length+l.length/\∀ g ∈ makeT t l,g ∈ t\/(g.path ∈ l/\g.b=[])
 | [],t=>⟨Nat.le_refl _,fun g h=>.inl h⟩
 | d :: l,t=>by
  have h1:=put_len t ⟨d,true,[]⟩
  obtain ⟨h2,h3⟩:=make_all l (putT t ⟨d,true,[]⟩)
  refine ⟨by show (makeT (putT t ⟨d,true,[]⟩) l).length<=_;rw [List.length_cons];omega,fun g hg=>?_⟩
  rcases h3 g hg with h | h
  ·rcases put_mem _ _ _ h with rfl | h
   ·exact .inr ⟨by simp,rfl⟩
   ·exact .inl h
  ·exact .inr ⟨by simp [h.1],h.2⟩
def SmT (n:Nat) (t:Tr):Prop:=t.length<=n/\∀ g ∈ t,g.path.length<=200/\g.b.length<=500
theorem SmT.make {n:Nat} {t:Tr} (h:SmT n t) {p:List UInt8} (hp:p.length<=200/\p.count 47<=11) {l:List (List UInt8)} (hl:aheadT t p=some l):SmT (n+11) (makeT t l):=by
 obtain ⟨h1,h2⟩:=aheadT_all hl
 obtain ⟨h3,h4⟩:=make_all l t
 have h0:=h.1
 refine ⟨by omega,fun g hg=>?_⟩
 rcases h4 g hg with h5 | ⟨h5,h6⟩
 ·exact h.2 g h5
 ·exact ⟨by have:=h2 _ h5;omega,by rw [h6];exact Nat.zero_le _⟩
theorem SmT.put {n:Nat} {t:Tr} (h:SmT n t) {f:Fl} (hf:f.path.length<=200/\f.b.length<=500):SmT (n+1) (putT t f):=by
 have h0:=h.1
 have h1:=put_len t f
 refine ⟨by omega,fun g hg=>?_⟩
 rcases put_mem _ _ _ hg with rfl | h5
 ·exact hf
 ·exact h.2 g h5
theorem make_append (t:Tr) (l m:List (List UInt8)):makeT t (l++m)=makeT (makeT t l) m:=List.foldl_append
theorem write_sm {n:Nat} {t t':Tr} {s b:List UInt8} (h:SmT n t) (hb:b.length<=500) (e:writeT t s b=.inl t'):SmT (n+12) t':=by
 have hp:=clean_all s
 unfold writeT at e
 generalize cleanP s=z at *
 obtain ⟨p,c⟩:=z
 dsimp only at e hp
 split at e
 ·cases e
 ·split at e
  ·cases e
  ·split at e
   ·cases e
   ·rename_i lack hl
    split at e
    ·cases e
    ·cases e
     exact (h.make hp hl).put ⟨hp.1,hb⟩
  ·split at e
   ·cases e
   ·rename_i lack hl
    split at e
    ·cases e
    ·cases e
     exact (h.make hp hl).put ⟨hp.1,hb⟩
theorem mkdir_sm {n:Nat} {t t':Tr} {s:List UInt8} (h:SmT n t) (e:mkdirT t s=.inl t'):SmT (n+12) t':=by
 have hp:=clean_all s
 unfold mkdirT at e
 generalize cleanP s=z at *
 obtain ⟨p,c⟩:=z
 dsimp only at e hp
 split at e
 ·cases e
 ·split at e
  ·cases e
   exact ⟨by have:=h.1;omega,h.2⟩
  ·cases e
  ·split at e
   ·cases e
   ·rename_i lack hl
    split at e
    ·cases e
    ·cases e
     rw [make_append]
     exact (h.make hp hl).put (f:=⟨p,true,[]⟩) ⟨hp.1,Nat.zero_le _⟩
theorem ofG_sm:∀ (l:List Fl) (n:Nat) (t t':Tr) (seen:List (List UInt8)),SmT n t->(∀ f ∈ l,f.b.length<=500)->ofG t seen l=.inl t'->SmT (n+12*l.length) t'
 | [],n,t,t',seen,h,hb,e=>by
  unfold ofG at e
  cases e
  exact h
 | f :: l,n,t,t',seen,h,hb,e=>by
  unfold ofG at e
  split at e
  split at e
  ·cases e
  ·split at e
   ·cases e
   ·split at e
    ·cases e
    ·rename_i t1 h1
     have hs:SmT (n+12) t1:=by
      split at h1
      ·exact mkdir_sm h h1
      ·exact write_sm h (hb f (by simp)) h1
     have:=ofG_sm l _ _ _ _ hs (fun g hg=>hb g (by simp [hg])) e
     rw [List.length_cons]
     exact ⟨by have:=this.1;omega,this.2⟩
theorem of_sm {l:List Fl} (hl:l.length<=20) (hb:∀ f ∈ l,f.b.length<=500) {t:Tr} (e:ofT l=.inl t):SmT 240 t:=by
 have h:=ofG_sm l 0 [] t [] ⟨Nat.le_refl _,fun g hg=>by cases hg⟩ hb e
 exact ⟨by have:=h.1;omega,h.2⟩
def fileB (f:Fl):List UInt8:=textB f.path++(textB f.b++boolB f.dir)
def treeB (t:Tr):List UInt8:=cnB t.length++t.flatMap fileB
theorem numB_few {n:Nat} (h:n < 18446744073709551616):(cnB n).length<=10:=numB_len 9 n (by omega)
theorem fileB_len {f:Fl} (h:f.path.length<=200/\f.b.length<=500):(fileB f).length<=721:=by
 have h1:=numB_few (n:=f.path.length) (by omega)
 have h2:=numB_few (n:=f.b.length) (by omega)
 simp only [fileB,textB,boolB,List.length_append,List.length_singleton]
 omega
theorem files_len:∀ {t:Tr},(∀ g ∈ t,g.path.length<=200/\g.b.length<=500)->(t.flatMap fileB).length<=721*t.length
 | [],_=>Nat.le_refl 0
 | f :: t,h=>by
  have h1:=fileB_len (h f (by simp))
  have h2:=files_len (t:=t) fun g hg=>h g (by simp [hg])
  rw [List.flatMap_cons,List.length_append,List.length_cons]
  omega
theorem treeB_len {t:Tr} (h:SmT 240 t):(treeB t).length<=173050:=by
 have h0:=h.1
 have h1:=numB_few (n:=t.length) (by omega)
 have h2:=files_len h.2
 rw [treeB,List.length_append]
 omega
end Go.Proofs.YtmppeipgjcjdkaaGreatDoor
