/-
  Layers 0 to 14: helps of the laws of indexes. No statement is proved here; no condition.
-/
import Derived.Test.YtmppeipgjcjdkaaGreatDoorW38
namespace Go.Proofs.YtmppeipgjcjdkaaGreatDoor
open _root_.Go.Proofs.Tryz
open Go.RowKit
def PtOk (x:List UInt8):Prop:=x ≠ []/\x ≠ [46]/\x ≠ [46,46]/\partB x=true/\(47:UInt8) ∉ x
theorem parts_ok:∀ (l out out':List (List UInt8)),partsG out l=.inl out'->(∀ x ∈ out,PtOk x)->(∀ x ∈ l,(47:UInt8) ∉ x)->∀ x ∈ out',PtOk x
 | [],out,out',h,ho,_=>by
  rw [partsG] at h
  cases h
  exact ho
 | x :: l,out,out',h,ho,hl=>by
  have hl2:∀ y ∈ l,(47:UInt8) ∉ y:=fun y hy=>hl y (by simp [hy])
  rw [partsG] at h
  split at h
  ·exact parts_ok l out out' h ho hl2
  ·rename_i h0
   split at h
   ·split at h
    ·cases h
    ·exact parts_ok l out.dropLast out' h (fun y hy=>ho y ((List.dropLast_sublist out).subset hy)) hl2
   ·rename_i h1
    split at h
    ·rename_i h2
     refine parts_ok l (out++[x]) out' h (fun y hy=>?_) hl2
     rcases List.mem_append.1 hy with hy | hy
     ·exact ho y hy
     ·rw [List.mem_singleton] at hy
      subst hy
      exact ⟨fun e=>h0 (.inl e),fun e=>h0 (.inr e),h1,h2,hl y (by simp)⟩
    ·cases h
theorem parts_id:∀ (l out:List (List UInt8)),(∀ x ∈ l,PtOk x)->partsG out l=.inl (out++l)
 | [],out,_=>by rw [partsG,List.append_nil]
 | x :: l,out,h=>by
  obtain ⟨h0,h1,h2,h3,-⟩:=h x (by simp)
  rw [partsG,if_neg (by rintro (e | e);exact h0 e;exact h1 e),if_neg h2,if_pos h3,parts_id l (out++[x]) (fun y hy=>h y (by simp [hy])),List.append_assoc]
  rfl
theorem split_glue:∀ (l:List (List UInt8)),l ≠ []->(∀ x ∈ l,(47:UInt8) ∉ x)->splitC 47 (glueP l)=l
 | [x],_,h=>splitC_none (fun d hd e=>by subst e;exact h x (by simp) hd)
 | x :: y :: l,_,h=>by
  rw [glueP,splitC_hit _ (fun d hd e=>by subst e;exact h x (by simp) hd),split_glue (y :: l) (by simp) (fun z hz=>h z (by simp [hz]))]
theorem glue_nil {l:List (List UInt8)} (h:∀ x ∈ l,PtOk x) (hg:glueP l=[]):l=[]:=by
 match l,h,hg with
 | [],_,_=>rfl
 | [x],h,hg=>exact absurd hg (h x (by simp)).1
 | x :: y :: l,h,hg=>simp [glueP] at hg
theorem glue_few:∀ {l:List (List UInt8)},(∀ x ∈ l,PtOk x)->l.length<=(glueP l).length
 | [],_=>Nat.zero_le _
 | [x],h=>by
  have:=List.length_pos_iff.2 (h x (by simp)).1
  show 1<=x.length
  omega
 | x :: y :: l,h=>by
  have ih:=glue_few (l:=y :: l) (fun z hz=>h z (by simp [hz]))
  rw [glueP,List.length_append]
  simp only [List.length_cons] at ih ⊢
  omega
theorem clean_parts {s:List UInt8} (h:(cleanP s).2=0):∃ out,(cleanP s).1=glueP out/\(∀ x ∈ out,PtOk x)/\out.length<=12:=by
 unfold cleanP at h ⊢
 split at h
 ·cases h
 ·rename_i h1
  rw [if_neg h1]
  split at h
  ·cases h
  ·rename_i h2
   rw [if_neg h2]
   cases hp:partsG [] (splitC 47 s) with
   | inr e =>
    rw [hp] at h
    dsimp only at h ⊢
    exact ⟨[],rfl,(fun x hx=>by cases hx),Nat.zero_le _⟩
   | inl out =>
    rw [hp] at h
    dsimp only at h ⊢
    split at h
    ·cases h
    ·rename_i h3
     rw [if_neg h3]
     exact ⟨out,rfl,parts_ok _ _ _ hp (fun x hx=>by cases hx) (split_free 47 s),by omega⟩
theorem partsL_glue {out:List (List UInt8)} (h:∀ x ∈ out,PtOk x):partsL (glueP out)=out:=by
 unfold partsL
 split
 ·rename_i e;exact (glue_nil h e).symm
 ·rename_i e
  exact split_glue out (fun e2=>e (by rw [e2];rfl)) (fun x hx=>(h x hx).2.2.2.2)
theorem clean_idem {s:List UInt8} (h:(cleanP s).2=0):cleanP (cleanP s).1=((cleanP s).1,0):=by
 have hlen:=(clean_all s).1
 obtain ⟨out,e,ho,h12⟩:=clean_parts h
 rw [e] at hlen ⊢
 unfold cleanP
 rw [if_neg (by omega)]
 have hh:¬ (glueP out).head? = some 47:=by
  intro he
  match out,ho,he with
  | [x],ho,he =>
   obtain ⟨h0,-,-,-,h1⟩:=ho x (by simp)
   cases x with
   | nil=>exact h0 rfl
   | cons a x=>simp [glueP] at he;exact h1 (by simp [he])
  | x :: y :: l,ho,he =>
   obtain ⟨h0,-,-,-,h1⟩:=ho x (by simp)
   cases x with
   | nil=>exact h0 rfl
   | cons a x=>simp [glueP] at he;exact h1 (by simp [he])
 rw [if_neg hh]
 by_cases hn:out=[]
 ·subst hn;rfl
 ·rw [split_glue out hn (fun x hx=>(ho x hx).2.2.2.2),parts_id out [] ho]
  show (if 12 < ([]++out).length then _ else _)=_
  rw [List.nil_append,if_neg (by omega)]
theorem parent_glue {l:List (List UInt8)} {x:List UInt8} (hx:(47:UInt8) ∉ x):parentP (glueP (l++[x]))=glueP l:=by
 have hd:∀ y:List UInt8,(47:UInt8) ∉ y->y.dropWhile (· != 47)=[]:=fun y hy=>by
  induction y with
  | nil=>rfl
  | cons a y ih =>
   have h1:(a != 47)=true:=by
    rw [bne_iff_ne]
    intro e
    exact hy (by rw [e];simp)
   rw [List.dropWhile_cons,if_pos h1]
   exact ih (fun e=>hy (by simp [e]))
 rw [glueP_snoc]
 split
 ·rename_i e
  subst e
  unfold parentP
  rw [hd _ (by simpa using hx)]
  rfl
 ·unfold parentP
  rw [List.reverse_append,List.reverse_cons,List.append_assoc,List.dropWhile_append,hd _ (by simpa using hx)]
  simp
def prefs (l:List (List UInt8)):List (List UInt8):=(List.range l.length).map fun i=>glueP (l.take (i+1))
theorem presL_snoc (l:List (List UInt8)) (x:List UInt8):presL (l++[x])=prefs l:=by
 unfold presL prefs
 rw [List.length_append,List.length_singleton,Nat.add_sub_cancel]
 refine List.map_congr_left fun i hi=>?_
 rw [List.mem_range] at hi
 rw [List.take_append_of_le_length (by omega)]
theorem prefs_snoc (l:List (List UInt8)) (x:List UInt8):prefs (l++[x])=prefs l++[glueP (l++[x])]:=by
 unfold prefs
 rw [List.length_append,List.length_singleton,List.range_succ,List.map_append]
 congr 1
 ·refine List.map_congr_left fun i hi=>?_
  rw [List.mem_range] at hi
  rw [List.take_append_of_le_length (by omega)]
 ·simp only [List.map_cons,List.map_nil]
  rw [List.take_of_length_le (by simp)]
theorem aheadL_snoc (t:Tr) (d:List UInt8):∀ ds:List (List UInt8),aheadL t (ds++[d])=(aheadL t ds).bind fun L=>match atT t d with
  | none=>some (L++[d])
  | some f=>if f.dir then some L else none
 | []=>by
  show aheadL t [d]=_
  rw [aheadL,aheadL]
  cases atT t d with
  | none=>rfl
  | some f=>rfl
 | e :: ds=>by
  rw [List.cons_append,aheadL,aheadL,aheadL_snoc t d ds]
  cases atT t e with
  | none =>
   dsimp only
   cases aheadL t ds with
   | none=>rfl
   | some L =>
    show Option.map _ (match atT t d with | none=>some (L++[d]) | some f=>if f.dir then some L else none)=(match atT t d with | none=>some ((e :: L)++[d]) | some f=>if f.dir then some (e :: L) else none)
    cases atT t d with
    | none=>rfl
    | some f =>
     dsimp only
     cases f.dir <;> rfl
  | some f =>
   dsimp only
   cases f.dir with
   | true=>rfl
   | false=>rfl
theorem rev_ind {P:List (List UInt8)->Prop} (h0:P []) (h1:∀ l x,P l->P (l++[x])) (l:List (List UInt8)):P l:=by
 have:∀ r:List (List UInt8),P r.reverse:=fun r=>by
  induction r with
  | nil=>exact h0
  | cons x r ih=>rw [List.reverse_cons];exact h1 _ _ ih
 have h:=this l.reverse
 rwa [List.reverse_reverse] at h
theorem aheadG_eq (t:Tr) (l:List (List UInt8)):(∀ x ∈ l,PtOk x)->∀ (n:Nat) (acc:List (List UInt8)),l.length<=n->aheadG t n (glueP l) acc=(aheadL t (prefs l)).map fun L=>acc++L.reverse:=by
 refine rev_ind (P:=fun l=>(∀ x ∈ l,PtOk x)->∀ (n:Nat) (acc:List (List UInt8)),l.length<=n->aheadG t n (glueP l) acc=(aheadL t (prefs l)).map fun L=>acc++L.reverse) ?_ ?_ l
 ·intro _ n acc _
  cases n with
  | zero=>show some acc=some (acc++[]);rw [List.append_nil]
  | succ n=>show (if ([]:List UInt8)=[] then some acc else _)=some (acc++[]);rw [if_pos rfl,List.append_nil]
 ·intro l x ih h n acc hn
  have hx:=h x (by simp)
  have hl:∀ y ∈ l,PtOk y:=fun y hy=>h y (by simp [hy])
  rw [List.length_append,List.length_singleton] at hn
  obtain ⟨m,rfl⟩:∃ m,n=m+1:=⟨n - 1,by omega⟩
  have hne:glueP (l++[x]) ≠ []:=fun e=>by have:=glue_nil h e;simp at this
  rw [aheadG,if_neg hne,parent_glue hx.2.2.2.2,prefs_snoc,aheadL_snoc]
  cases atT t (glueP (l++[x])) with
  | none =>
   dsimp only
   rw [ih hl m _ (by omega)]
   cases aheadL t (prefs l) with
   | none=>rfl
   | some L=>simp
  | some f =>
   dsimp only
   cases f.dir with
   | true =>
    rw [if_pos rfl,ih hl m _ (by omega)]
    cases aheadL t (prefs l) with
    | none=>rfl
    | some L=>rfl
   | false =>
    rw [if_neg (by decide)]
    cases aheadL t (prefs l) with
    | none=>rfl
    | some L=>rfl
theorem ahead_same (t:Tr) {out:List (List UInt8)} (h:∀ x ∈ out,PtOk x):aheadT t (glueP out)=(aheadL t (presL out)).map List.reverse:=by
 have key:∀ out:List (List UInt8),(∀ x ∈ out,PtOk x)->aheadT t (glueP out)=(aheadL t (presL out)).map List.reverse:=fun out=>by
  refine rev_ind (P:=fun out=>(∀ x ∈ out,PtOk x)->aheadT t (glueP out)=(aheadL t (presL out)).map List.reverse) ?_ ?_ out
  ·intro _;rfl
  ·intro l x _ h
   have hl:∀ y ∈ l,PtOk y:=fun y hy=>h y (by simp [hy])
   have h1:=glue_few h
   rw [List.length_append,List.length_singleton] at h1
   unfold aheadT
   rw [parent_glue (h x (by simp)).2.2.2.2,presL_snoc,aheadG_eq t l hl _ [] (by omega)]
   cases aheadL t (prefs l) with
   | none=>rfl
   | some L=>simp
 exact key out h
theorem asc_makeR:∀ (l:List (List UInt8)) {t:Tr},AscT t->AscT (makeT t l)
 | [],_,h=>h
 | _ :: l,_,h=>asc_makeR l (asc_put h _)
theorem at_makeR (k:List UInt8):∀ (l:List (List UInt8)) (t:Tr),atT (makeT t l) k=if k ∈ l then some ⟨k,true,[]⟩ else atT t k
 | [],t=>by simp [makeT]
 | d :: l,t=>by
  show atT (makeT (putT t ⟨d,true,[]⟩) l) k=_
  rw [at_makeR k l,at_put]
  by_cases h1:k ∈ l
  ·rw [if_pos h1,if_pos (by simp [h1])]
  ·rw [if_neg h1]
   by_cases h2:d=k
   ·subst h2;rw [if_pos rfl,if_pos (by simp)]
   ·rw [if_neg h2,if_neg (by
     intro h
     rcases List.mem_cons.1 h with h | h
     ·exact h2 h.symm
     ·exact h1 h)]
theorem make_same {t:Tr} (h:AscT t) {a b:List (List UInt8)} (hab:∀ k,k ∈ a ↔ k ∈ b):makeT t a=makeT t b :=
 tree_unique (asc_makeR a h) (asc_makeR b h) fun k=>by
  rw [at_makeR,at_makeR]
  by_cases hk:k ∈ a
  ·rw [if_pos hk,if_pos ((hab k).1 hk)]
  ·rw [if_neg hk,if_neg (fun e=>hk ((hab k).2 e))]
def SameR (a b:Tr ⊕ Nat):Prop:=(∃ t,a=.inl t/\b=.inl t)\/∃ c d,a=.inr c/\b=.inr d
theorem room_yes {t:Tr} {n m o:Nat} (h1:t.length+n<=500) (h2:sizeT t+m<=1048576):roomT t n m o=true:=by
 unfold roomT
 rw [decide_eq_true h1,decide_eq_true (by omega)]
 rfl
theorem mkdir_same {t:Tr} {s:List UInt8} (ha:AscT t) (hc:(cleanP s).2=0) (ht:t.length<=480) (hz:sizeT t<=400000):SameR (mkdirT t (cleanP s).1) (mkdirR t s)/\∀ t',mkdirR t s=.inl t'->AscT t':=by
 have hi:=clean_idem hc
 obtain ⟨out,e,ho,-⟩:=clean_parts hc
 have hfew:=fun L (h:aheadL t (presL (partsL (cleanP s).1))=some L)=>lack_few h
 unfold mkdirR mkdirT
 rw [hi]
 dsimp only
 rw [if_neg (show ¬ (cleanP s).2 ≠ 0 from fun h=>h hc),if_neg (show ¬ (0:Nat) ≠ 0 from fun h=>h rfl)]
 rw [e] at hfew ⊢
 rw [partsL_glue ho] at hfew ⊢
 unfold nodeT
 by_cases hp:glueP out=[]
 ·rw [if_pos hp,if_pos hp]
  exact ⟨.inl ⟨t,rfl,rfl⟩,fun t' h=>by cases h;exact ha⟩
 ·rw [if_neg hp,if_neg hp,ahead_same t ho]
  cases hat:atT t (glueP out) with
  | some f =>
   cases hd:f.dir with
   | true =>
    simp only [Option.map_some,hd,if_true]
    exact ⟨.inl ⟨t,rfl,rfl⟩,fun t' h=>by cases h;exact ha⟩
   | false =>
    simp only [Option.map_some,hd]
    exact ⟨.inr ⟨_,_,rfl,rfl⟩,fun t' h=>by cases h⟩
  | none =>
   cases hah:aheadL t (presL out) with
   | none=>exact ⟨.inr ⟨_,_,rfl,rfl⟩,fun t' h=>by cases h⟩
   | some L =>
    have hL:=hfew L hah
    simp only [Option.map_none,Option.map_some]
    rw [if_neg (by rw [room_yes (by rw [List.length_reverse];omega) (by omega)];decide)]
    refine ⟨.inl ⟨_,rfl,?_⟩,fun t' h=>by cases h;exact asc_makeR _ ha⟩
    rw [make_same ha (a:=L.reverse++[glueP out]) (b:=L++[glueP out]) (fun k=>by simp)]
theorem write_same {t:Tr} {s b:List UInt8} (ha:AscT t) (hc:(cleanP s).2=0) (ht:t.length<=480) (hz:sizeT t<=400000) (hb:b.length<=500):SameR (writeT t (cleanP s).1 b) (writeR t s b)/\∀ t',writeR t s b=.inl t'->AscT t':=by
 have hi:=clean_idem hc
 obtain ⟨out,e,ho,-⟩:=clean_parts hc
 have hfew:=fun L (h:aheadL t (presL (partsL (cleanP s).1))=some L)=>lack_few h
 unfold writeR writeT
 rw [hi]
 dsimp only
 rw [if_neg (show ¬ (cleanP s).2 ≠ 0 from fun h=>h hc),if_neg (show ¬ (0:Nat) ≠ 0 from fun h=>h rfl)]
 rw [e] at hfew ⊢
 rw [partsL_glue ho] at hfew ⊢
 unfold nodeT isDirA
 by_cases hp:glueP out=[]
 ·rw [if_pos hp,if_pos (.inl hp)]
  exact ⟨.inr ⟨_,_,rfl,rfl⟩,fun t' h=>by cases h⟩
 ·rw [if_neg hp,ahead_same t ho]
  cases hat:atT t (glueP out) with
  | some f =>
   cases hd:f.dir with
   | true =>
    simp only [Option.map_some,hd]
    rw [if_pos (.inr trivial)]
    exact ⟨.inr ⟨_,_,rfl,rfl⟩,fun t' h=>by cases h⟩
   | false =>
    simp only [Option.map_some,hd]
    rw [if_neg (by rintro (h | h);exact hp h;cases h)]
    cases hah:aheadL t (presL out) with
    | none=>exact ⟨.inr ⟨_,_,rfl,rfl⟩,fun t' h=>by cases h⟩
    | some L =>
     simp only [Option.map_some]
     rw [if_neg (by rw [room_yes (by omega) (by omega)];rintro (h | h);omega;cases h)]
     refine ⟨.inl ⟨_,rfl,?_⟩,fun t' h=>by cases h;exact asc_put (asc_makeR _ ha) _⟩
     rw [make_same ha (a:=L.reverse) (b:=L) (fun k=>by simp)]
  | none =>
   simp only [Option.map_none]
   rw [if_neg (by rintro (h | h);exact hp h;cases h)]
   cases hah:aheadL t (presL out) with
   | none=>exact ⟨.inr ⟨_,_,rfl,rfl⟩,fun t' h=>by cases h⟩
   | some L =>
    have hL:=hfew L hah
    simp only [Option.map_some]
    rw [if_neg (by rw [room_yes (by rw [List.length_reverse];omega) (by omega)];rintro (h | h);omega;cases h)]
    refine ⟨.inl ⟨_,rfl,?_⟩,fun t' h=>by cases h;exact asc_put (asc_makeR _ ha) _⟩
    rw [make_same ha (a:=L.reverse) (b:=L) (fun k=>by simp)]
theorem isDir_same (t:Tr) (p:List UInt8):isDirT t p=true ↔ (p=[]\/isDirA t p=true):=by
 unfold isDirT nodeT isDirA
 by_cases hp:p=[]
 ·simp [hp]
 ·rw [if_neg hp]
  cases atT t p with
  | none=>simp [hp]
  | some f=>simp [hp]
theorem of_same:∀ (l:List Fl) (t:Tr) (s1 s2:List (List UInt8)) (n:Nat),AscT t->t.length<=12*n->n+l.length<=20->(∀ g ∈ t,g.b.length<=500)->(∀ f ∈ l,f.b.length<=500)->(∀ k,k ∈ s1 ↔ k ∈ s2)->SameR (ofG t s1 l) (ofR t s2 l)
 | [],t,s1,s2,n,_,_,_,_,_,_=>.inl ⟨t,rfl,rfl⟩
 | f :: l,t,s1,s2,n,ha,ht,hn,hz,hb,hs=>by
  rw [List.length_cons] at hn
  have hzs:sizeT t<=400000:=Nat.le_trans (sizeT_few hz) (by omega)
  have hfb:=hb f (by simp)
  rw [ofG,ofR]
  cases hcl:cleanP f.path with
  | mk p e =>
  have hp:(cleanP f.path).1=p:=by rw [hcl]
  have he:(cleanP f.path).2=e:=by rw [hcl]
  dsimp only
  by_cases h0:e=0
  ·subst h0
   rw [if_neg (show ¬ (0:Nat) ≠ 0 from fun h=>h rfl),if_neg (show ¬ (0:Nat) ≠ 0 from fun h=>h rfl)]
   by_cases hin:p ∈ s1
   ·rw [if_pos (.inl hin),if_pos ((hs p).1 hin)]
    exact .inr ⟨_,_,rfl,rfl⟩
   ·rw [if_neg (fun h=>hin ((hs p).2 h))]
    by_cases hd:f.dir=true/\isDirT t p=true
    ·rw [if_pos (.inr hd),if_pos (show f.dir=true/\(p=[]\/isDirA t p=true) from ⟨hd.1,(isDir_same t p).1 hd.2⟩)]
     exact .inr ⟨_,_,rfl,rfl⟩
    ·rw [if_neg (by rintro (h | h);exact hin h;exact hd h),if_neg (show ¬ (f.dir=true/\(p=[]\/isDirA t p=true)) from fun h=>hd ⟨h.1,(isDir_same t p).2 h.2⟩)]
     have go:∀ t',AscT t'->t'.length<=t.length+12->(∀ g ∈ t',g ∈ t\/g.b=[]\/g.b=f.b)->SameR (ofG t' (p :: s1) l) (ofR t' (s2++[p]) l):=fun t' h1 h2 h3 =>
      of_same l t' (p :: s1) (s2++[p]) (n+1) h1 (by omega) (by omega) (fun g hg=>by
       rcases h3 g hg with h | h | h
       ·exact hz g h
       ·rw [h];exact Nat.zero_le _
       ·rw [h];exact hfb) (fun g hg=>hb g (by simp [hg])) (fun k=>by
       rw [List.mem_cons,List.mem_append,List.mem_singleton,hs k]
       exact or_comm)
     cases hdir:f.dir with
     | true =>
      obtain ⟨h1,h2⟩:=mkdir_same (s:=f.path) ha he (by omega) hzs
      rw [hp] at h1
      simp only [if_true]
      rcases h1 with ⟨t',e1,e2⟩ | ⟨c,d,e1,e2⟩
      ·rw [e1,e2]
       have h3:=mkdirR_sm e2
       exact go t' (h2 t' e2) h3.1 (fun g hg=>(h3.2 g hg).imp id .inl)
      ·rw [e1,e2]
       exact .inr ⟨_,_,rfl,rfl⟩
     | false =>
      obtain ⟨h1,h2⟩:=write_same (s:=f.path) (b:=f.b) ha he (by omega) hzs hfb
      rw [hp] at h1
      simp only [Bool.false_eq_true,if_false]
      rcases h1 with ⟨t',e1,e2⟩ | ⟨c,d,e1,e2⟩
      ·rw [e1,e2]
       have h3:=writeR_sm e2
       exact go t' (h2 t' e2) h3.1 h3.2
      ·rw [e1,e2]
       exact .inr ⟨_,_,rfl,rfl⟩
  ·rw [if_pos h0,if_pos h0]
   exact .inr ⟨_,_,rfl,rfl⟩
theorem of_both {l:List Fl} (hl:l.length<=20) (hb:∀ f ∈ l,f.b.length<=500):SameR (ofT l) (ofR [] [] l) :=
 of_same l [] [] [] 0 asc_nil (Nat.le_refl _) (by omega) (fun g hg=>by cases hg) hb (fun k=>Iff.rfl)
theorem ofR_code:∀ (l:List Fl) (t:Tr) (s:List (List UInt8)) (c:Nat),ofR t s l=.inr c->c ≠ 0
 | [],t,s,c,h=>by cases h
 | f :: l,t,s,c,h=>by
  rw [ofR] at h
  split at h
  ·cases h;assumption
  ·split at h
   ·cases h;decide
   ·split at h
    ·cases h;decide
    ·split at h
     ·rename_i e h5
      cases h
      split at h5
      ·exact mkdirR_code h5
      ·exact writeR_code h5
     ·exact ofR_code l _ _ c h
end Go.Proofs.YtmppeipgjcjdkaaGreatDoor
