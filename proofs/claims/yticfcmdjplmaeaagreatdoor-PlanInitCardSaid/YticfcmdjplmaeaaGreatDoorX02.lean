/-
  Layers 0 to 14: helps of the laws of indexes. No statement is proved here; no condition.
-/
import Derived.Test.YticfcmdjplmaeaaGreatDoorX00
import Derived.Test.YticfcmdjplmaeaaGreatDoorX01
import Derived.Maps.AppendAt
import Derived.Laws.OwnMore
import Derived.Lib.SlicesCompact
set_option maxRecDepth 100000
set_option maxHeartbeats 64000000
namespace Go.Proofs.YticfcmdjplmaeaaGreatDoor
open _root_.Go.Proofs.Tryz
open Go.RowKit
def insR {α:Type} (p:α->Bool) (x:α) (l:List α):List α:=(l.reverse.dropWhile p).reverse++x :: (l.reverse.takeWhile p).reverse
def sortR {α:Type} (lt:α->α->Bool) (l:List α):List α:=l.foldl (fun a x=>insR (lt x) x a) []
theorem takeWhile_hit {α:Type} {p:α->Bool} {b:List α}:∀ {a:List α},(∀ y ∈ a,p y=true)->(b=[]\/∃ z r,b=z :: r/\p z=false)->(a++b).takeWhile p=a/\(a++b).dropWhile p=b
 | [],_,hb=>by
  rcases hb with rfl | ⟨z,r,rfl,hz⟩
  ·simp
  ·simp [hz]
 | y :: a,ha,hb=>by
  obtain ⟨h1,h2⟩:=takeWhile_hit (a:=a) (fun z hz=>ha z (by simp [hz])) hb;have hy:=ha y (by simp);simp [hy,h1,h2]
theorem insR_scan {α:Type} {p:α->Bool} {x:α} {A B:List α} (hB:∀ y ∈ B,p y=true) (hA:A=[]\/∃ C z,A=C++[z]/\p z=false):insR p x (A++B)=A++x :: B:=by
 unfold insR;rw [List.reverse_append];obtain ⟨h1,h2⟩:=takeWhile_hit (p:=p) (a:=B.reverse) (b:=A.reverse) (fun y hy=>hB y (by simpa using hy)) (by
  rcases hA with rfl | ⟨C,z,rfl,hz⟩
  ·exact .inl rfl
  ·exact .inr ⟨z,C.reverse,by simp,hz⟩)
 rw [h1,h2];simp
theorem insR_length {α:Type} (p:α->Bool) (x:α) (l:List α):(insR p x l).length=l.length+1:=by
 unfold insR;have h:=congrArg List.length (List.takeWhile_append_dropWhile (p:=p) (l:=l.reverse));rw [List.length_append,List.length_reverse] at h;simp only [List.length_append,List.length_reverse,List.length_cons];omega
theorem sortR_length {α:Type} (lt:α->α->Bool) (l:List α):(sortR lt l).length=l.length:=by
 have:∀ (l a:List α),(l.foldl (fun a x=>insR (lt x) x a) a).length=a.length+l.length:=by
  intro l;induction l with
  | nil=>simp
  | cons x l ih=>intro a;rw [List.foldl_cons,ih,insR_length,List.length_cons];omega
 have h:=this l [];unfold sortR;simpa using h
theorem sortR_take {α:Type} (lt:α->α->Bool) (l:List α) {k:Nat} (hk:k < l.length):sortR lt (l.take (k+1))=insR (lt l[k]) l[k] (sortR lt (l.take k)):=by
 unfold sortR;rw [List.take_succ_eq_append_getElem hk,List.foldl_append];rfl
theorem insR_map {α β:Type} (f:α->β) (p:β->Bool) (x:α) (l:List α):(insR (fun y=>p (f y)) x l).map f=insR p (f x) (l.map f):=by
 unfold insR;rw [<- List.map_reverse,List.dropWhile_map,List.takeWhile_map];simp
 constructor <;> rfl
theorem sortR_map {α β:Type} (f:α->β) (lt:β->β->Bool) (l:List α):(sortR (fun x y=>lt (f x) (f y)) l).map f=sortR lt (l.map f):=by
 unfold sortR;have:∀ (l a:List α),(l.foldl (fun a x=>insR (fun y=>lt (f x) (f y)) x a) a).map f=(l.map f).foldl (fun a x=>insR (lt x) x a) (a.map f):=by
  intro l;induction l with
  | nil=>simp
  | cons x l ih=>intro a;rw [List.foldl_cons,ih,insR_map f (lt (f x))];rfl
 exact this l []
theorem insR_mem {α:Type} (p:α->Bool) (x:α) (l:List α) (y:α):y ∈ insR p x l ↔ y=x\/y ∈ l:=by
 unfold insR;have h:=List.takeWhile_append_dropWhile (p:=p) (l:=l.reverse);have h2:y ∈ l ↔ y ∈ l.reverse.takeWhile p\/y ∈ l.reverse.dropWhile p:=by
  rw [<- List.mem_append,h,List.mem_reverse]
 rw [h2];simp
 constructor
 ·rintro (h | h | h)
  ·exact .inr (.inr h)
  ·exact .inl h
  ·exact .inr (.inl h)
 ·rintro (h | h | h)
  ·exact .inr (.inl h)
  ·exact .inr (.inr h)
  ·exact .inl h
theorem sortR_mem {α:Type} (lt:α->α->Bool) (l:List α) (y:α):y ∈ sortR lt l ↔ y ∈ l:=by
 have:∀ (l a:List α),y ∈ l.foldl (fun a x=>insR (lt x) x a) a ↔ y ∈ a\/y ∈ l:=by
  intro l;induction l with
  | nil=>simp
  | cons x l ih =>
   intro a;rw [List.foldl_cons,ih,insR_mem,List.mem_cons];constructor
   ·rintro ((h | h) | h)
    ·exact .inr (.inl h)
    ·exact .inl h
    ·exact .inr (.inr h)
   ·rintro (h | h | h)
    ·exact .inl (.inr h)
    ·exact .inl (.inl h)
    ·exact .inr h
 have h:=this l [];unfold sortR;simpa using h
def hexD (c:UInt8):Option Nat:=if dig c then some (c.toNat - 48) else if 97<=c.toNat/\c.toNat<=102 then some (c.toNat - 87) else none
def unhexL:List UInt8->Option (List UInt8)
 | []=>some []
 | [_]=>none
 | a :: b :: l=>match hexD a,hexD b,unhexL l with
  | some x,some y,some r=>some (UInt8.ofNat (16*x+y) :: r)
  | _,_,_=>none
def sumL (l:List UInt8):Option (List UInt8):=if l.length=64 then unhexL l else none
def atL (l:List Rw) (name:List UInt8) (v:Ver):Option Nat:=l.findIdx? fun r=>decide (r.name=name) && decide (verC r.v v=0)
def packT:List UInt8:=[112,97,99,107]
def needT:List UInt8:=[110,101,101,100]
def ltNd (x y:Nd):Bool:=decide (x.name < y.name)
def holdsB (b:Bnd) (v:Ver):Bool :=
 if b.sign=[61] then decide (verC v b.v=0) else if b.sign=[60] then decide (verC v b.v < 0) else if b.sign=[60,61] then decide (verC v b.v<=0) else if b.sign=[62] then decide (0 < verC v b.v) else if b.sign=[62,61] then decide (0<=verC v b.v) else false
def nearB (b:Bnd) (v:Ver):Bool:=!b.v.pre.isEmpty && decide (b.v.ma=v.ma) && decide (b.v.mi=v.mi) && decide (b.v.pa=v.pa)
def hasO (v:Ver) (l:List Bnd):Bool:=l.all (fun b=>holdsB b v) && (v.pre.isEmpty || l.any (fun b=>nearB b v))
def hasS (s:Spn) (v:Ver):Bool:=if s.any then v.pre.isEmpty else s.ors.any (hasO v)
structure Mf where
 name:List UInt8
 v:Ver
 needs:List Nd
def mf0:Mf:=⟨[],⟨0,0,0,[]⟩,[]⟩
def nameW:List UInt8:=[110,97,109,101,32]
def versionW:List UInt8:=[118,101,114,115,105,111,110,32]
def mstep (n:Nat) (m:Mf) (s:List UInt8):Option Mf :=
 if n=0 then (if s.take 5=nameW/\nameB (s.drop 5)=true then some { m with name:=s.drop 5 } else none)
 else if n=1 then (if s.take 8=versionW then (verOf (s.drop 8)).map fun v=>{ m with v:=v } else none)
 else (needLine s).bind fun x=>if x.name=m.name\/x.name ∈ m.needs.map Nd.name\/m.needs.length=20 then none else some { m with needs:=m.needs++[x] }
def mlines:Nat->Mf->List (List UInt8)->Option (Nat × Mf)
 | n,m,[]=>some (n,m)
 | n,m,s :: l=>if silentB s then mlines n m l else match mstep n m s with
  | none=>none
  | some m'=>mlines (n+1) m' l
def mfOf (s:List UInt8):Option Mf :=
 if 65536 < s.length then none else match mlines 0 mf0 (linesL s) with
  | none=>none
  | some (n,m)=>if n < 2 then none else some { m with needs:=sortR ltNd m.needs }
def pinL (s:List UInt8):Option Pn:=match splitC 32 s with
 | [a,b,c]=>if nameB a=true then (verOf b).bind fun v=>(sumL c).map fun k=>⟨a,v,k⟩ else none
 | _=>none
def pinsG:List Pn->List (List UInt8)->Option (List Pn)
 | out,[]=>some out
 | out,s :: l=>match pinL s with
  | none=>none
  | some p=>if out.length < 200/\(out.getLast?.all fun q=>decide (q.name < p.name))=true then pinsG (out++[p]) l else none
def lockW:List UInt8:=[108,111,99,107,32,49]
def lkOf (s:List UInt8):Option (List Pn) :=
 if 65536 < s.length\/s.getLast? ≠ some 10 then none else match splitC 10 s.dropLast with
  | []=>none
  | h :: l=>if h=lockW then pinsG [] l else none
def metB (ps:List Pn) (n:Nd):Bool:=ps.any fun p=>decide (p.name=n.name) && hasS n.span p.v
def Rises {α:Type} (f:α->List UInt8) (l:List α):Prop:=l.Pairwise fun x y=>f x < f y
theorem Rises.get {α:Type} {f:α->List UInt8} {l:List α} (h:Rises f l) {i j:Nat} (hj:j < l.length) (hij:i < j):f (l[i]'(by omega)) < f l[j]:=List.pairwise_iff_getElem.1 h i j (by omega) hj hij
theorem text_gt {a b:List UInt8} (h:¬ a < b) (h2:a ≠ b):b < a:=by
 rcases Std.lt_trichotomy a b with h3 | h3 | h3
 ·exact absurd h3 h
 ·exact absurd h3 h2
 ·exact h3
theorem text_trans {a b c:List UInt8} (h:a < b) (h2:b < c):a < c:=List.lt_trans h h2
theorem put_ins {α:Type} {f:α->List UInt8} {l:List α} (h:Rises f l) {x:α} {k:Nat} (hk:k<=l.length) (hlo:∀ i (hi:i < l.length),i < k->f l[i] < f x) (hhi:∀ hk:k < l.length,¬ f l[k] < f x) (hno:f x ∉ l.map f) :
  l.take k++x :: l.drop k=insR (fun y=>decide (f x < f y)) x l/\Rises f (insR (fun y=>decide (f x < f y)) x l):=by
 have hB:∀ y ∈ l.drop k,f x < f y:=fun y hy=>by
  obtain ⟨i,hi,rfl⟩:=List.getElem_of_mem hy;rw [List.length_drop] at hi;rw [List.getElem_drop];have hkl:k < l.length:=by omega
  have h1:f x < f l[k]:=text_gt (hhi hkl) fun e=>hno (List.mem_map.2 ⟨_,List.getElem_mem hkl,e⟩)
  rcases Nat.eq_zero_or_pos i with rfl | h0
  ·exact h1
  ·exact text_trans h1 (h.get (by omega) (by omega))
 have hA:∀ y ∈ l.take k,f y < f x:=fun y hy=>by
  obtain ⟨i,hi,rfl⟩:=List.getElem_of_mem hy;rw [List.length_take] at hi;rw [List.getElem_take];exact hlo i (by omega) (by omega)
 have e:l.take k++x :: l.drop k=insR (fun y=>decide (f x < f y)) x l:=by
  have h1:=insR_scan (p:=fun y=>decide (f x < f y)) (x:=x) (A:=l.take k) (B:=l.drop k) (fun y hy=>decide_eq_true (hB y hy)) (by
   rcases List.eq_nil_or_concat (l.take k) with h2 | ⟨C,z,h2⟩
   ·exact .inl h2
   ·refine .inr ⟨C,z,by simpa using h2,decide_eq_false fun h3=>?_⟩
    have:=hA z (by rw [h2];simp);exact absurd (text_trans h3 this) (by simp))
  rw [List.take_append_drop] at h1;exact h1.symm
 refine ⟨e,?_⟩
 rw [<- e];unfold Rises at *;rw [List.pairwise_append,List.pairwise_cons];have h2:=h;rw [<- List.take_append_drop k l,List.pairwise_append] at h2;refine ⟨h2.1,⟨hB,h2.2.1⟩,fun a ha b hb=>?_⟩
 rcases List.mem_cons.1 hb with rfl | hb
 ·exact hA a ha
 ·exact h2.2.2 a ha b hb
theorem insR_rises {α:Type} {f:α->List UInt8} {l:List α} (h:Rises f l) {x:α} (hno:f x ∉ l.map f):Rises f (insR (fun y=>decide (f x < f y)) x l):=by
 have:∃ k,k<=l.length/\(∀ i (hi:i < l.length),i < k->f l[i] < f x)/\∀ hk:k < l.length,¬ f l[k] < f x:=by
  have aux:∀ n,n<=l.length->(∀ i (hi:i < l.length),i < n->f l[i] < f x)\/∃ k,k<=l.length/\(∀ i (hi:i < l.length),i < k->f l[i] < f x)/\∀ hk:k < l.length,¬ f l[k] < f x:=by
   intro n;induction n with
   | zero=>exact fun _=>.inl fun i hi h0=>absurd h0 (by omega)
   | succ n ih =>
    intro hn;rcases ih (by omega) with h1 | h1
    ·by_cases h2:f (l[n]'(by omega)) < f x
     ·exact .inl fun i hi h3=>by
       rcases Nat.lt_or_ge i n with h4 | h4
       ·exact h1 i hi h4
       ·obtain rfl:i=n:=by omega
        exact h2
     ·exact .inr ⟨n,by omega,h1,fun _=>h2⟩
    ·exact .inr h1
  rcases aux l.length (Nat.le_refl _) with h1 | h1
  ·exact ⟨l.length,Nat.le_refl _,h1,fun hk=>absurd hk (by omega)⟩
  ·exact h1
 obtain ⟨k,h1,h2,h3⟩:=this;exact (put_ins h h1 h2 h3 hno).2
theorem wp_app_atN {P:Program} {w:World} {o:Oper} {a:Act} {K:Act->World->Prop} {Q:Exit->Act->World->Prop} (s x:Operand) (t:TypeId)
  (ho:o.op=.call { callee:=.builtin .append,args:=#[s,x],argTypes:=#[t,t] })
  (base:Nat) (e:TypeId) (i:TypeInfo) (z:Value) (size bytes:Nat) (ht:P.underlying t=some (.slice e)) (hi:P.info? e=some i) (hz:i.zero=some z)
  (hsize:i.size=size) (hby:i.bytes=bytes) (hzs:z.cells.size=size) (hsz:0 < size)
  (v:Value) (n:Nat) (xs:List Value) (hs:a.eval s=v) (hown:w.ownsRow base e size v n xs)
  (ad:Addr) (m c:Nat) (news:List Value) (hx:a.eval x=.slice (some ad) m c) (hl:news.length=m*size) (hnews:∀ j u,news[j]? = some u->w.cell? (ad.add j)=some u) (h1:∀ u ∈ news,u.oneCell'=true)
  (h63:n+m<=maxLen) (hbytes:(n+m)*bytes<=140737488355328) (hbase:base<=w.heap.size)
  (h:∀ v' w',w'.ownsRow base e size v' (n+m) (xs++news)->w.grownBy w' v.ownBlock->(v'.ownBlock=v.ownBlock\/v'.ownBlock=some w.heap.size)->K (a.put o.dst v') w'):o.wp P a w K Q:=by
 obtain ⟨v',w',hr,h2,h3,h4,h5⟩:=run_append_own_at (P:=P) w base t o.type e i z size bytes ht hi hz hsize hby hzs hsz v n xs hown ad m c news hl hnews h1 h63 hbytes hbase;unfold Oper.wp execOp;simp only [ho,resolve,invoke,builtin,Sem.run_bind,Sem.run_pure,Result.andThen_ok,List.map_toArray,List.map_cons,List.map_nil,hs,hx,hr];exact h v' w' h2 h3 h5
theorem cells_newN {w:World} {cs:List Value} {e:TypeId} {j:Nat} {u:Value} (h:cs[j]? = some u):(w.alloc (.cells cs.toArray e)).cell? ((⟨w.heap.size,0,none⟩:Addr).add j)=some u:=by
 rw [Addr.add_lit,Nat.zero_add];exact cell_ofA (heap_alloc_new w _) (by simpa using h)
structure MfW (w:World) (B mb:Nat) (m:Mf) (pv nv:Value) (ys:List NdX):Prop where
 cells:w.heap[mb]? = some (.cells #[strV m.name,.int .i64 m.v.ma,.int .i64 m.v.mi,.int .i64 m.v.pa,pv,nv] 46 (0,0))
 pre:Sl w No 9 pv m.v.pre.length (strs m.v.pre)
 nds:ys.map NdX.n=m.needs
 ors:∀ y ∈ ys,OrsAt w y.ov y.n.span.ors
 own:w.ownsRow B 98 4 nv m.needs.length (ys.flatMap NdX.cells)
 few:m.needs.length<=20
theorem MfW.no {w w':World} {B mb:Nat} {m:Mf} {pv nv:Value} {ys:List NdX} (h:MfW w B mb m pv nv ys) (hm:Mod No w w'):MfW w' B mb m pv nv ys :=
 ⟨hm.keep h.cells (fun f=>f),h.pre.kn hm,h.nds,fun y hy=>(h.ors y hy).keep hm (Apart.no _ _),own_keepM h.own hm (fun _ _ f=>f),h.few⟩
theorem own_apartN {B:Nat} {w:World} {e:TypeId} {size:Nat} {v:Value} {n:Nat} {xs:List Value} (h:w.ownsRow B e size v n xs) {ts:List TypeId} (hne:e ∉ ts):Apart ts (fun k=>v.ownBlock=some k) w:=fun k cur fz e2 hk hc hm=>by
 obtain ⟨cur2,h5⟩:=own_heapM h hk;rw [hc] at h5;cases h5
 exact hne hm
theorem own_atB {B:Nat} {w:World} {e:TypeId} {size:Nat} {v:Value} {n:Nat} {xs:List Value} (h:w.ownsRow B e size v n xs) {k:Nat} (hk:v.ownBlock=some k):B<=k:=by
 obtain ⟨_,⟨hv,_⟩ | ⟨g',cap,cur,hv,hg,_⟩⟩:=h
 ·rw [hv] at hk;cases hk
 ·rw [hv] at hk;cases hk;exact hg
theorem MfW.stored {w w':World} {B mb:Nat} {m m':Mf} {pv pv' nv:Value} {ys:List NdX} (h:MfW w B mb m pv nv ys) (hmb:mb < B) (hm:Mod (fun k=>k=mb) w w') (hn:m'.needs=m.needs)
  (hc:w'.heap[mb]? = some (.cells #[strV m'.name,.int .i64 m'.v.ma,.int .i64 m'.v.mi,.int .i64 m'.v.pa,pv',nv] 46 (0,0))) (hp:Sl w' No 9 pv' m'.v.pre.length (strs m'.v.pre)):MfW w' B mb m' pv' nv ys:=by
 have hap:Apart [9,237,175] (fun k=>k=mb) w:=fun k cur fz e hk hc2 he=>by
  have hk2:k=mb:=hk;subst hk2;rw [h.cells] at hc2;cases hc2
  simp at he
 exact ⟨hc,hp,by rw [hn];exact h.nds,fun y hy=>(h.ors y hy).keep hm hap,by rw [hn];exact own_keepM h.own hm (fun k hk e=>by have:=own_atB h.own hk;omega),by rw [hn];exact h.few⟩
abbrev Asc (a:List (List UInt8)):Prop:=a.Pairwise (fun x y=>x < y)
theorem asc_unique:∀ (a b:List (List UInt8)),Asc a->Asc b->(∀ y,y ∈ a ↔ y ∈ b)->a=b
 | [],[],_,_,_=>rfl
 | [],y :: b,_,_,h=>absurd ((h y).2 (by simp)) (by simp)
 | x :: a,[],_,_,h=>absurd ((h x).1 (by simp)) (by simp)
 | x :: a,y :: b,ha,hb,h=>by
  obtain ⟨h1,h2⟩:=List.pairwise_cons.1 ha;obtain ⟨h3,h4⟩:=List.pairwise_cons.1 hb;have hxy:x=y:=by
   rcases List.mem_cons.1 ((h x).1 (by simp)) with e | e
   ·exact e
   ·rcases List.mem_cons.1 ((h y).2 (by simp)) with e2 | e2
    ·exact e2.symm
    ·exact absurd (h1 y e2) (List.lt_asymm (h3 x e))
  subst hxy;refine congrArg (x :: ·) (asc_unique a b h2 h4 fun z=>?_)
  constructor
  ·intro hz;rcases List.mem_cons.1 ((h z).1 (by simp [hz])) with e | e
   ·subst e;exact absurd (h1 z hz) (List.lt_irrefl z)
   ·exact e
  ·intro hz;rcases List.mem_cons.1 ((h z).2 (by simp [hz])) with e | e
   ·subst e;exact absurd (h3 z hz) (List.lt_irrefl z)
   ·exact e
end Go.Proofs.YticfcmdjplmaeaaGreatDoor
namespace Go.Proofs.YticfcmdjplmaeaaGreatDoor
open _root_.Go.Proofs.Tryz
open Go.RowKit Go.Lib Go.Sort
theorem text_le {a b:List UInt8}:a<=b ↔ a < b\/a=b:=by
 constructor
 ·intro h;rcases Std.lt_trichotomy a b with h3 | h3 | h3
  ·exact .inl h3
  ·exact .inr h3
  ·exact absurd h3 h
 ·rintro (h | h)
  ·exact List.lt_asymm h
  ·rw [h];exact List.lt_irrefl _
theorem text_le_trans {a b c:List UInt8} (h:a<=b) (h2:b<=c):a<=c:=by
 rw [text_le] at h h2 ⊢;rcases h with h | rfl
 ·rcases h2 with h2 | rfl
  ·exact .inl (List.lt_trans h h2)
  ·exact .inl h
 ·exact h2
theorem compact_asc (d:Array (List UInt8)) (hs:∀ i j,i < j->j < d.size->d[i]!<=d[j]!):∀ m,m<=d.size->Asc (compactUpTo d m)/\∀ y,y ∈ compactUpTo d m ↔ ∃ i,i < m/\d[i]! = y
 | 0,_=>⟨by simp [compactUpTo],by simp [compactUpTo]⟩
 | m+1,hm=>by
  obtain ⟨h1,h2⟩:=compact_asc d hs m (by omega);rw [compactUpTo_succ];by_cases hk:keeps d m=true
  ·rw [if_pos hk];refine ⟨List.pairwise_append.2 ⟨h1,by simp,fun x hx y hy=>?_⟩,fun y=>?_⟩
   ·obtain rfl:=List.mem_singleton.1 hy;obtain ⟨i,hi,rfl⟩:=(h2 x).1 hx;unfold keeps at hk;have hk2:=of_decide_eq_true hk;have hm0:m ≠ 0:=by omega
    have hne:d[m]! ≠ d[m - 1]!:=by
     rcases hk2 with h | h
     ·exact absurd h hm0
     ·exact h
    have h3:d[m - 1]! < d[m]!:=by
     rcases text_le.1 (hs (m - 1) m (by omega) (by omega)) with h | h
     ·exact h
     ·exact absurd h.symm hne
    rcases Nat.lt_or_ge i (m - 1) with h4 | h4
    ·rcases text_le.1 (hs i (m - 1) h4 (by omega)) with h5 | h5
     ·exact List.lt_trans h5 h3
     ·rw [h5];exact h3
    ·obtain rfl:i=m - 1:=by omega
     exact h3
   ·rw [List.mem_append,h2,List.mem_singleton];constructor
    ·rintro (⟨i,hi,rfl⟩ | rfl)
     ·exact ⟨i,by omega,rfl⟩
     ·exact ⟨m,by omega,rfl⟩
    ·rintro ⟨i,hi,rfl⟩;by_cases e:i=m
     ·subst e;exact .inr rfl
     ·exact .inl ⟨i,by omega,rfl⟩
  ·rw [if_neg hk,List.append_nil];refine ⟨h1,fun y=>?_⟩
   rw [h2];have hk2:¬ (m=0\/d[m]! ≠ d[m - 1]!):=fun h=>hk (decide_eq_true h)
   have hm0:m ≠ 0:=fun h=>hk2 (.inl h)
   have he:d[m]! = d[m - 1]!:=Classical.byContradiction fun h=>hk2 (.inr h)
   constructor
   ·rintro ⟨i,hi,rfl⟩;exact ⟨i,by omega,rfl⟩
   ·rintro ⟨i,hi,rfl⟩;by_cases e:i=m
    ·subst e;exact ⟨i - 1,by omega,he.symm⟩
    ·exact ⟨i,by omega,rfl⟩
theorem names_sorted (ss:List (List UInt8)):Asc (Lib.compact (ss.mergeSort fun x y=>decide (x<=y)))/\∀ y,y ∈ Lib.compact (ss.mergeSort fun x y=>decide (x<=y)) ↔ y ∈ ss:=by
 have hp:(ss.mergeSort fun x y=>decide (x<=y)).Pairwise (fun x y=>decide (x<=y)=true):=List.pairwise_mergeSort (le:=fun (x y:List UInt8)=>decide (x<=y)) (fun a b c h1 h2=>decide_eq_true (text_le_trans (of_decide_eq_true h1) (of_decide_eq_true h2))) (fun a b=>by
  rw [Bool.or_eq_true,decide_eq_true_iff,decide_eq_true_iff];rcases Std.lt_trichotomy a b with h | h | h
  ·exact .inl (text_le.2 (.inl h))
  ·exact .inl (text_le.2 (.inr h))
  ·exact .inr (text_le.2 (.inl h))) ss
 obtain ⟨zs,hz⟩:∃ zs,zs=ss.mergeSort fun x y=>decide (x<=y):=⟨_,rfl⟩
 have hmem:∀ y,y ∈ zs ↔ y ∈ ss:=fun y=>by rw [hz];exact List.mem_mergeSort
 rw [<- hz] at hp ⊢;have hg:∀ i,i < zs.length->zs.toArray[i]! = zs[i]!:=fun i hi=>by simp
 obtain ⟨h1,h2⟩:=compact_asc zs.toArray (fun i j hij hj=>by
  have hj':j < zs.length:=by simpa using hj
  rw [hg i (by omega),hg j hj',getElem!_pos zs i (by omega),getElem!_pos zs j hj'];exact of_decide_eq_true (List.pairwise_iff_getElem.1 hp i j (by omega) hj' hij)) zs.length (by simp)
 refine ⟨h1,fun y=>?_⟩
 show y ∈ compactUpTo zs.toArray zs.length ↔ _
 rw [h2,<- hmem];constructor
 ·rintro ⟨i,hi,rfl⟩;rw [hg i hi,getElem!_pos zs i hi];exact List.getElem_mem hi
 ·intro h;obtain ⟨i,hi,rfl⟩:=List.getElem_of_mem h;exact ⟨i,hi,by rw [hg i hi,getElem!_pos zs i hi]⟩
end Go.Proofs.YticfcmdjplmaeaaGreatDoor
namespace Go.Proofs.YticfcmdjplmaeaaGreatDoor
open _root_.Go.Proofs.Tryz
open Go.RowKit
theorem digits_any (l:List UInt8) (hl:l.length<=1000000) (w:World):Calls prog 206 #[strV l] w fun e w'=>e=.returned (.bool (digitsB l))/\w'=w:=by
 refine calls_hide fun R hR=>?_
 have HX:=zh (run_at l);have HZ:=zh (str_len3 l);have hT:=str_list l;unfold strV;generalize (⟨l.toArray⟩:ByteArray)=Z at *;have hZs:(Z.size:Int)=(l.length:Int):=by rw [HZ.out]
 go_enter func206,ntmps206
 go_wp2_with fail
 go_loopw [6] (fun q wr=>∃ k:Nat,k<=l.length/\q=.int .i64 k/\wr=w/\∀ i (hi:i < l.length),i < k->dig l[i]=true) (fun q _=>l.length - (intOf q).toNat)
 case atStart=>exact ⟨0,by omega,rfl,rfl,fun i _ hi=>absurd hi (by omega)⟩
 case round =>
  obtain ⟨k,hk,rfl,rfl,hall⟩:=hrel;have hk0:(0:Int)<=(k:Int):=Int.natCast_nonneg _;by_cases hlt:k < l.length
  ·have hk1:(k:Int) < (Z.size:Int):=by omega
   have hidx:=HX.out k hlt;have HN:=zh (fun h=>all_take_succ (p:=dig) hlt hall h);have HF:=zh (fun h=>not_all (p:=dig) hlt h);have HD:=zh (show dig l[k]=(decide (48<=l[k].toNat) && decide (l[k].toNat<=57)) from rfl);generalize l[k].toNat=x at *;clear hall;by_cases h1:(x:Int) < 48
   ·go_wp2_with fail
    refine fin hR ⟨?_,rfl⟩
    show Ending.returned (.bool false)=_
    rw [show digitsB l=false by unfold digitsB;rw [HF.out (by rw [HD.out,decide_eq_false (by omega:¬ 48<=x)];rfl)];rfl]
   ·by_cases h2:(57:Int) < x
    ·go_wp2_with fail
     refine fin hR ⟨?_,rfl⟩
     show Ending.returned (.bool false)=_
     rw [show digitsB l=false by unfold digitsB;rw [HF.out (by rw [HD.out,decide_eq_false (by omega:¬ x<=57),Bool.and_false])];rfl]
    ·go_wp2_with fail
     exact ⟨⟨k+1,by omega,rfl,trivial,HN.out (by rw [HD.out,decide_eq_true (by omega:48<=x),decide_eq_true (by omega:x<=57)];rfl)⟩,by show l.length - ((k:Int)+1).toNat < l.length - (k:Int).toNat;omega⟩
  ·have HA:=zh (all_of (p:=dig) (by omega) hall);clear hall;go_wp2_with fail
   refine fin hR ⟨?_,rfl⟩
   show Ending.returned (.bool (!l.isEmpty))=_
   unfold digitsB;rw [HA.out,Bool.true_and]
theorem bytesLess_decT:∀ (x y:List UInt8),Op.bytesLess x y=decide (x < y)
 | [],[]=>by simp [Op.bytesLess]
 | _ :: _,[]=>by simp [Op.bytesLess]
 | [],_ :: _=>by simp [Op.bytesLess]
 | a :: x,b :: y=>by
  rw [Op.bytesLess,bytesLess_decT x y];simp only [List.cons_lt_cons_iff];by_cases h1:a < b <;> by_cases h2:a=b <;> by_cases h3:x < y <;> simp [h1,h2,h3]
theorem cmpL_lt {x y:List UInt8} (h:x < y):cmpL x y = -1:=if_pos h
theorem cmpL_gt {x y:List UInt8} (h:¬ x < y) (h2:x ≠ y):cmpL x y=1:=by
 unfold cmpL;rw [if_neg h,if_pos (by
  rcases Std.lt_trichotomy x y with h3 | h3 | h3
  ·exact absurd h3 h
  ·exact absurd h3 h2
  ·exact h3)]
theorem cmpL_eq (x:List UInt8):cmpL x x=0:=by
 have h6:¬ x < x:=by simp
 unfold cmpL;rw [if_neg h6,if_neg h6]
theorem isnanS_any (x:ByteArray) (w:World):Calls prog 96 #[.string x] w fun e w'=>e=.returned (.bool false)/\w'=w:=by
 refine calls_hide fun R hR=>?_
 go_enter func96,ntmps96
 go_wp2_with fail
 exact fin hR ⟨by simp,rfl⟩
theorem isnanN_any (x:Int) (w:World):Calls prog 302 #[.int .i64 x] w fun e w'=>e=.returned (.bool false)/\w'=w:=by
 refine calls_hide fun R hR=>?_
 go_enter func302,ntmps302
 go_wp2_with fail
 exact fin hR ⟨by simp,rfl⟩
theorem compareS_any (x y:List UInt8) (w:World):Calls prog 63 #[strV x,strV y] w fun e w'=>e=.returned (.int .i64 (cmpL x y))/\w'=w:=by
 refine calls_hide fun R hR=>?_
 unfold strV at *;have HNX:=zh (isnanS_any ⟨x.toArray⟩);have HNY:=zh (isnanS_any ⟨y.toArray⟩);have h1:((⟨x.toArray⟩:ByteArray)).data.toList=x:=rfl;have h2:((⟨y.toArray⟩:ByteArray)).data.toList=y:=rfl;generalize (⟨x.toArray⟩:ByteArray)=X at *;generalize (⟨y.toArray⟩:ByteArray)=Y at *;go_enter func63,ntmps63
 go_wp2_with fail
 with_reducible refine (HNX.out _).mono ?_
 rintro e w1 ⟨rfl,hw1⟩;subst hw1;go_wp2_with fail
 with_reducible refine (HNY.out _).mono ?_
 rintro e w2 ⟨rfl,hw2⟩;subst hw2;go_wp2_with fail
 ·rename_i h3;rw [ByteArray.toList_eq,ByteArray.toList_eq,h1,h2,bytesLess_decT] at h3;exact fin hR ⟨by rw [cmpL_lt (by simpa using h3)];rfl,rfl⟩
 ·rename_i h4 K h5 h3;clear h5 K;rw [ByteArray.toList_eq,ByteArray.toList_eq,h1,h2,bytesLess_decT] at h4;rw [ByteArray.toList_eq,ByteArray.toList_eq,h1,h2] at h3;exact fin hR ⟨by rw [cmpL_gt (by simpa using h4) (by simpa using h3)];rfl,rfl⟩
 ·rename_i h4 h3;rw [ByteArray.toList_eq,ByteArray.toList_eq,h1,h2] at h3;have hxy:x=y:=by simpa using h3
  subst hxy;exact fin hR ⟨by rw [cmpL_eq];rfl,rfl⟩
theorem compareN_any (x y:Int) (w:World):Calls prog 272 #[.int .i64 x,.int .i64 y] w fun e w'=>e=.returned (.int .i64 (cmpN x y))/\w'=w:=by
 refine calls_hide fun R hR=>?_
 have HNX:=zh (isnanN_any x);have HNY:=zh (isnanN_any y);go_enter func272,ntmps272
 go_wp2_with fail
 with_reducible refine (HNX.out _).mono ?_
 rintro e w1 ⟨rfl,hw1⟩;subst hw1;go_wp2_with fail
 with_reducible refine (HNY.out _).mono ?_
 rintro e w2 ⟨rfl,hw2⟩;subst hw2;go_wp2_with fail
 ·rename_i h3;have h3':x < y:=by simpa using h3
  exact fin hR ⟨by rw [show cmpN x y = -1 from if_pos h3'];rfl,rfl⟩
 ·have h3':y < x:=by omega
  exact fin hR ⟨by rw [show cmpN x y=1 by unfold cmpN;rw [if_neg (by omega),if_pos h3']];rfl,rfl⟩
 ·exact fin hR ⟨by rw [show cmpN x y=0 by unfold cmpN;rw [if_neg (by omega),if_neg (by omega)]];rfl,rfl⟩
theorem orI_hit:∀ {xs:List Int} {k:Nat} (hk:k < xs.length),(∀ i (hi:i < xs.length),i < k->xs[i]=0)->xs[k] ≠ 0->orI xs=xs[k]
 | x :: xs,0,_,_,h2=>if_neg h2
 | x :: xs,k+1,hk,h,h2=>by
  have h0:x=0:=h 0 (by simp) (by omega);rw [orI,if_pos h0];exact orI_hit (k:=k) (by simpa using hk) (fun i hi hik=>h (i+1) (by simpa using hi) (by omega)) h2
theorem orI_none:∀ {xs:List Int},(∀ i (hi:i < xs.length),xs[i]=0)->orI xs=0
 | [],_=>rfl
 | x :: xs,h=>by
  have h0:x=0:=h 0 (by simp);rw [orI,if_pos h0];exact orI_none fun i hi=>h (i+1) (by simpa using hi)
def ints (xs:List Int):List Value:=xs.map (Value.int .i64)
theorem ints_length (xs:List Int):(ints xs).length=xs.length:=by simp [ints]
theorem or_any (xs:List Int) (hx:xs.length<=1000) (v:Value) (w:World) (hv:Sl w No 3 v xs.length (ints xs)) :
  Calls prog 271 #[v] w fun e w'=>e=.returned (.int .i64 (orI xs))/\w'=w:=by
 refine calls_hide fun R hR=>?_
 obtain ⟨va,vc,rfl⟩:=hv.len;have HV:=zh hv;clear hv;go_enter func271,ntmps271
 go_wp2_with fail
 go_loopw [8] (fun q wr=>∃ k:Nat,k<=xs.length/\q=.int .i64 k/\wr=w/\∀ i (hi:i < xs.length),i < k->xs[i]=0) (fun q _=>xs.length - (intOf q).toNat)
 case atStart=>exact ⟨0,by omega,rfl,rfl,fun i _ hi=>absurd hi (by omega)⟩
 case round =>
  obtain ⟨k,hk,rfl,rfl,hno⟩:=hrel;have HNO:=zh hno;have hk0:(0:Int)<=(k:Int):=Int.natCast_nonneg _;clear hno;by_cases hlt:k < xs.length
  ·have hk1:(k:Int) < (xs.length:Int):=by omega
   obtain ⟨b,o,c,hvs,_⟩:=HV.out.shape (by omega);cases hvs
   have hcell:=HV.out.cellN (i:=k) (by rw [ints_length];exact hlt);rw [show (ints xs)[k]'(by rw [ints_length];exact hlt)=.int .i64 xs[k] from by simp [ints]] at hcell;by_cases h0:xs[k]=0
   ·have HN:=zh (show ∀ i (hi:i < xs.length),i < k+1->xs[i]=0 from fun i hi hik=>by
     rcases Nat.lt_or_ge i k with h3 | h3
     ·exact HNO.out i hi h3
     ·obtain rfl:i=k:=by omega
      exact h0)
    rw [h0] at hcell;clear HNO;go_wp2_with fail
    exact ⟨⟨k+1,by omega,rfl,trivial,HN.out⟩,by show xs.length - ((k:Int)+1).toNat < xs.length - (k:Int).toNat;omega⟩
   ·have HH:=zh (orI_hit hlt HNO.out h0);clear HNO;obtain ⟨x,hx0⟩:∃ x,x=xs[k]:=⟨_,rfl⟩
    rw [<- hx0] at hcell h0 HH;clear hx0;have h0b:(x != 0)=true:=by simpa using h0
    go_wp2_with fail
    exact fin hR ⟨(by rw [HH.out];try rfl),rfl⟩
  ·go_wp2_with fail
   exact fin hR ⟨(by rw [orI_none fun i hi=>HNO.out i hi (by omega)];try rfl),rfl⟩
theorem ints_sl (w:World) (xs:List Int) (hx:xs.length<=1000):Sl (w.alloc (.cells (ints xs).toArray 3)) No 3 (.slice (some ⟨w.heap.size,0,none⟩) xs.length xs.length) xs.length (ints xs):=by
 have:=own_alloc (w:=w) (e:=3) (xs:=ints xs) (by rw [ints_length];unfold maxLen;omega);rw [ints_length] at this;exact Sl.of_own this fun _ _ f=>f
theorem marks_any (a b:List UInt8) (ha:a.length<=1000000) (hb:b.length<=1000000) (w:World) :
  Calls prog 274 #[strV a,strV b] w fun e w'=>e=.returned (.int .i64 (markC a b))/\Mod No w w':=by
 refine calls_hide fun R hR=>?_
 have HDA:=zh (digits_any a ha);have HDB:=zh (digits_any b hb);have HCS:=zh (compareS_any a b);have HCN:=zh (compareN_any (a.length:Int) (b.length:Int));have HOR:=zh (show ∀ w:World,Calls prog 271 #[.slice (some ⟨w.heap.size,0,none⟩) 2 2] (w.alloc (.cells #[.int .i64 (cmpN a.length b.length),.int .i64 (cmpL a b)] 3)) fun e w'=>e=.returned (.int .i64 (orI [cmpN a.length b.length,cmpL a b]))/\w'=w.alloc (.cells #[.int .i64 (cmpN a.length b.length),.int .i64 (cmpL a b)] 3) from fun w=>or_any [cmpN a.length b.length,cmpL a b] (by simp) _ _ (ints_sl w [cmpN a.length b.length,cmpL a b] (by simp)));have HM:markC a b=if digitsB a && digitsB b then orI [cmpN a.length b.length,cmpL a b] else if digitsB a then -1 else if digitsB b then 1 else cmpL a b:=rfl
 have HMH:=zh HM;clear HM;unfold strV at *;have hza:((⟨a.toArray⟩:ByteArray).size:Int)=(a.length:Int):=by rw [str_len3]
 have hzb:((⟨b.toArray⟩:ByteArray).size:Int)=(b.length:Int):=by rw [str_len3]
 generalize (⟨a.toArray⟩:ByteArray)=A at *;generalize (⟨b.toArray⟩:ByteArray)=B at *;generalize cmpN a.length b.length=cn at *;generalize cmpL a b=cl at *;generalize digitsB a=da at *;generalize digitsB b=db at *;go_enter func274,ntmps274
 go_wp2_with fail
 with_reducible refine (HDA.out _).mono ?_
 rintro e w1 ⟨rfl,rfl⟩;go_wp2_with fail
 with_reducible refine (HDB.out _).mono ?_
 rintro e w1 ⟨rfl,rfl⟩;rcases da with _ | _
 ·rcases db with _ | _
  ·go_wp2_with fail
   with_reducible refine (HCS.out _).mono ?_
   rintro e w1 ⟨rfl,rfl⟩;go_wp2_with fail
   exact fin hR ⟨by rw [HMH.out];rfl,Mod.refl _ _⟩
  ·go_wp2_with fail
   exact fin hR ⟨by rw [HMH.out];rfl,Mod.refl _ _⟩
 ·rcases db with _ | _
  ·go_wp2_with fail
   exact fin hR ⟨by rw [HMH.out];rfl,Mod.refl _ _⟩
  ·go_wp2_with fail
   with_reducible refine (HCN.out _).mono ?_
   rintro e w1 ⟨rfl,rfl⟩;go_wp2_with fail
   with_reducible refine (HCS.out _).mono ?_
   rintro e w1 ⟨rfl,rfl⟩;go_wp2_with fail
   with_reducible refine (HOR.out _).mono ?_
   rintro e w2 ⟨rfl,rfl⟩;go_wp2_with fail
   exact fin hR ⟨by rw [HMH.out];rfl,(Mod.refl _ _).alloc _⟩
theorem compmarks_any (xs ys:List (List UInt8)) (hx:xs.length<=1000000) (hy:ys.length<=1000000) (hxl:∀ x ∈ xs,x.length<=1000000) (hyl:∀ y ∈ ys,y.length<=1000000) (v u:Value) (w:World) (hv:SvX w No v xs.length (strs xs)) (hu:SvX w No u ys.length (strs ys)) :
  Calls prog 273 #[v,u,.func (.func 274) #[] #[]] w fun e w'=>e=.returned (.int .i64 (preC xs ys))/\Mod No w w':=by
 refine calls_hide fun R hR=>?_
 obtain ⟨va,vc,rfl⟩:=hv.len;obtain ⟨ua,uc,rfl⟩:=hu.len;have HV:=zh hv;have HU:=zh hu;have HMK:=zh (fun i (hi:i < xs.length) (hj:i < ys.length)=>marks_any xs[i] ys[i] (hxl _ (List.getElem_mem hi)) (hyl _ (List.getElem_mem hj)));clear hv hu hxl hyl;have eg:∀ args w,(callFunc 274 args).run prog w=.ok (.enter 274 args) w:=fun _ _=>rfl
 go_enter func273,ntmps273
 go_wp2_with fail
 go_loopw [13] (fun q wr=>∃ k:Nat,k<=xs.length/\k<=ys.length/\q=.int .i64 k/\Mod No w wr/\∀ i (h1:i < xs.length) (h2:i < ys.length),i < k->markC xs[i] ys[i]=0) (fun q _=>xs.length - (intOf q).toNat)
 case atStart=>exact ⟨0,by omega,by omega,rfl,Mod.refl _ _,fun i _ _ hi=>absurd hi (by omega)⟩
 case round =>
  obtain ⟨k,hk,hky,rfl,hmod,hno⟩:=hrel;have HM:=zh hmod;have HNO:=zh hno;have hk0:(0:Int)<=(k:Int):=Int.natCast_nonneg _;clear hmod hno;by_cases hlt:k < xs.length
  ·have hk1:(k:Int) < (xs.length:Int):=by omega
   obtain ⟨b,o,c,hvs,_⟩:=HV.out.shape (by omega);cases hvs
   have hcell:=HM.out.cell (HV.out.cellN (i:=k) (by rw [strs_length];exact hlt)) (fun f=>f);rw [show (strs xs)[k]'(by rw [strs_length];exact hlt)=.string ⟨xs[k].toArray⟩ from by simp [strs,strV]] at hcell;by_cases hly:k < ys.length
   ·have hk2:(k:Int) < (ys.length:Int):=by omega
    obtain ⟨b2,o2,c2,hus,_⟩:=HU.out.shape (by omega);cases hus
    have hcell2:=HM.out.cell (HU.out.cellN (i:=k) (by rw [strs_length];exact hly)) (fun f=>f);rw [show (strs ys)[k]'(by rw [strs_length];exact hly)=.string ⟨ys[k].toArray⟩ from by simp [strs,strV]] at hcell2;have HC:=zh (HMK.out k hlt hly);have HN:=zh (show markC xs[k] ys[k]=0->∀ i (h1:i < xs.length) (h2:i < ys.length),i < k+1->markC xs[i] ys[i]=0 from fun h i h1 h2 hik=>by
     rcases Nat.lt_or_ge i k with h3 | h3
     ·exact HNO.out i h1 h2 h3
     ·obtain rfl:i=k:=by omega
      exact h)
    have HH:=zh (show markC xs[k] ys[k] ≠ 0->preC xs ys=markC xs[k] ys[k] from fun h=>preC_hit hlt hly HNO.out h);clear HNO;go_wp2_with fail
    with_reducible refine (HC.out _).mono ?_
    rintro e w2 ⟨rfl,hm2⟩;have HM2:=zh (HM.out.trans hm2);clear hm2;generalize markC xs[k] ys[k]=mk at *;by_cases h0:mk=0
    ·subst h0;have hn:=HN.out rfl;have HN2:=zh hn;clear hn HN HH;go_wp2_with fail
     exact ⟨⟨k+1,by omega,by omega,rfl,HM2.out,HN2.out⟩,by show xs.length - ((k:Int)+1).toNat < xs.length - (k:Int).toNat;omega⟩
    ·have h0b:(mk != 0)=true:=by simpa using h0
     have HH2:=zh (HH.out h0);clear HN HH;go_wp2_with fail
     exact fin hR ⟨(by rw [HH2.out];try rfl),HM2.out⟩
   ·have hk2:(ys.length:Int)<=(k:Int):=by omega
    have HE:=zh (preC_end (k:=k) hk hky (.inr (by omega)) HNO.out);have hc:cmpN (xs.length:Int) (ys.length:Int)=1:=by unfold cmpN;rw [if_neg (by omega),if_pos (by omega)]
    rw [hc] at HE;clear HNO;go_wp2_with fail
    exact fin hR ⟨(by rw [HE.out];try rfl),HM.out⟩
  ·have HE:=zh (preC_end (k:=k) hk hky (.inl (by omega)) HNO.out);clear HNO;by_cases hly:xs.length < ys.length
   ·have hl2:(xs.length:Int) < (ys.length:Int):=by omega
    have hc:cmpN (xs.length:Int) (ys.length:Int) = -1:=if_pos hl2;rw [hc] at HE;go_wp2_with fail
    exact fin hR ⟨(by rw [HE.out];try rfl),HM.out⟩
   ·have hl2:¬ (xs.length:Int) < (ys.length:Int):=by omega
    have hc:cmpN (xs.length:Int) (ys.length:Int)=0:=by unfold cmpN;rw [if_neg hl2,if_neg (by omega)]
    rw [hc] at HE;go_wp2_with fail
    exact fin hR ⟨(by rw [HE.out];try rfl),HM.out⟩
structure Small (v:Ver):Prop where
 len:v.pre.length<=1000000
 each:∀ x ∈ v.pre,x.length<=1000000
theorem wrap_tiny {x:Int} (h:-2<=x/\x<=2):wrap64 x=x:=by
 unfold wrap64;omega
theorem cmpN_nat0 (n:Nat):cmpN (n:Int) 0=if n=0 then 0 else 1:=by
 unfold cmpN;rw [if_neg (by omega)];by_cases h:n=0
 ·rw [if_neg (by omega),if_pos h]
 ·rw [if_pos (by omega),if_neg h]
theorem cmpN_0nat (m:Nat):cmpN 0 (m:Int)=if m=0 then 0 else -1:=by
 unfold cmpN;by_cases h:m=0
 ·rw [if_neg (by omega),if_neg (by omega),if_pos h]
 ·rw [if_pos (by omega),if_neg h]
theorem cmp_sub {m n:Nat} (h:m=0\/n=0):wrap64 (cmpN (n:Int) 0 - cmpN (m:Int) 0)=cmpN (n:Int) (m:Int):=by
 rcases h with rfl | rfl
 ·rw [show ((0:Nat):Int)=0 from rfl,cmpN_nat0 n,show cmpN 0 0=0 from rfl];by_cases h:n=0
  ·rw [if_pos h,wrap_tiny (by omega)];rfl
  ·rw [if_neg h,wrap_tiny (by omega)];rfl
 ·rw [show ((0:Nat):Int)=0 from rfl,cmpN_nat0 m,cmpN_0nat m,show cmpN 0 0=0 from rfl];by_cases h:m=0
  ·rw [if_pos h,if_pos h,wrap_tiny (by omega)];rfl
  ·rw [if_neg h,if_neg h,wrap_tiny (by omega)];rfl
theorem vercmp_sv (a b:Ver) (ha:Small a) (hb:Small b) (pa pb:Value) (w:World) (hpa:SvX w No pa a.pre.length (strs a.pre)) (hpb:SvX w No pb b.pre.length (strs b.pre)) :
  Calls prog 231 #[verV a pa,verV b pb] w fun e w'=>e=.returned (.int .i64 (verC a b))/\Mod No w w':=by
 refine calls_hide fun R hR=>?_
 obtain ⟨a0,a1,a2,as'⟩:=a;obtain ⟨b0,b1,b2,bs'⟩:=b;obtain ⟨va,vc,rfl⟩:=hpa.len;obtain ⟨ua,uc,rfl⟩:=hpb.len;have HPA:=zh hpa;have HPB:=zh hpb;have HCN:=zh compareN_any;have HOR:=zh (show ∀ w:World,Calls prog 271 #[.slice (some ⟨w.heap.size,0,none⟩) 3 3] (w.alloc (.cells #[.int .i64 (cmpN a0 b0),.int .i64 (cmpN a1 b1),.int .i64 (cmpN a2 b2)] 3)) fun e w'=>e=.returned (.int .i64 (orI [cmpN a0 b0,cmpN a1 b1,cmpN a2 b2]))/\w'=w.alloc (.cells #[.int .i64 (cmpN a0 b0),.int .i64 (cmpN a1 b1),.int .i64 (cmpN a2 b2)] 3) from fun w=>or_any [cmpN a0 b0,cmpN a1 b1,cmpN a2 b2] (by simp) _ _ (ints_sl w [cmpN a0 b0,cmpN a1 b1,cmpN a2 b2] (by simp)));have HCM:=zh (fun (w:World) h1 h2=>compmarks_any as' bs' ha.len hb.len ha.each hb.each (.slice va as'.length vc) (.slice ua bs'.length uc) w h1 h2);have HVC:=zh (show verC ⟨a0,a1,a2,as'⟩ ⟨b0,b1,b2,bs'⟩=if orI [cmpN a0 b0,cmpN a1 b1,cmpN a2 b2]=0 then if as'=[]\/bs'=[] then cmpN bs'.length as'.length else preC as' bs' else orI [cmpN a0 b0,cmpN a1 b1,cmpN a2 b2] from rfl);clear hpa hpb ha hb;unfold verV at *;dsimp only at *;go_enter func231,ntmps231
 go_upto_region 1 with fail
 obtain ⟨gx,hgx⟩:∃ g,g=w.heap.size:=⟨_,rfl⟩
 obtain ⟨gy,hgy⟩:∃ g,g=gx+1:=⟨_,rfl⟩
 rw [<- hgx,<- hgy];obtain ⟨wA,hwA⟩:∃ z,z=((w.alloc (.cells #[.int .i64 a0,.int .i64 a1,.int .i64 a2,.slice va as'.length vc] 40)).alloc (.cells #[.int .i64 b0,.int .i64 b1,.int .i64 b2,.slice ua bs'.length uc] 40)).drew:=⟨_,rfl⟩
 have hx1:wA.heap[gx]? = some (.cells #[.int .i64 a0,.int .i64 a1,.int .i64 a2,.slice va as'.length vc] 40 (0,0)):=by rw [hwA,hgx];exact ((Mod.refl No _).alloc _).drew.keep (heap_alloc_new w _) (fun f=>f)
 have hy1:wA.heap[gy]? = some (.cells #[.int .i64 b0,.int .i64 b1,.int .i64 b2,.slice ua bs'.length uc] 40 (0,0)):=by
  rw [hwA,hgy,hgx];have h1:=heap_alloc_new (w.alloc (.cells #[.int .i64 a0,.int .i64 a1,.int .i64 a2,.slice va as'.length vc] 40)) (.cells #[.int .i64 b0,.int .i64 b1,.int .i64 b2,.slice ua bs'.length uc] 40);rw [show (w.alloc (.cells #[.int .i64 a0,.int .i64 a1,.int .i64 a2,.slice va as'.length vc] 40)).heap.size=w.heap.size+1 by simp] at h1;exact h1
 have HMA:=zh (show Mod No w wA by rw [hwA];exact (((Mod.refl No w).alloc _).alloc _).drew);have HWA:=zh hwA;clear hwA hgx hgy;have HSM:=zh (show ∀ w',Mod No wA w'->w'.cell? ⟨gx,0,none⟩=some (.int .i64 a0)/\w'.cell? ⟨gx,1,none⟩=some (.int .i64 a1)/\w'.cell? ⟨gx,2,none⟩=some (.int .i64 a2)/\w'.cell? ⟨gy,0,none⟩=some (.int .i64 b0)/\w'.cell? ⟨gy,1,none⟩=some (.int .i64 b1)/\w'.cell? ⟨gy,2,none⟩=some (.int .i64 b2) from fun w' hm =>
  ⟨cell_ofA (hm.keep hx1 (fun f=>f)) rfl,cell_ofA (hm.keep hx1 (fun f=>f)) rfl,cell_ofA (hm.keep hx1 (fun f=>f)) rfl,cell_ofA (hm.keep hy1 (fun f=>f)) rfl,cell_ofA (hm.keep hy1 (fun f=>f)) rfl,cell_ofA (hm.keep hy1 (fun f=>f)) rfl⟩)
 have hS0:=HSM.out wA (Mod.refl _ _);have HX1:=zh hx1;have HY1:=zh hy1;clear hx1 hy1;refine wp_region_T (fun w'=>w'.cell? ⟨gx,0,none⟩=some (.int .i64 a0)/\w'.cell? ⟨gx,1,none⟩=some (.int .i64 a1)/\w'.cell? ⟨gx,2,none⟩=some (.int .i64 a2)/\w'.cell? ⟨gy,0,none⟩=some (.int .i64 b0)/\w'.cell? ⟨gy,1,none⟩=some (.int .i64 b1)/\w'.cell? ⟨gy,2,none⟩=some (.int .i64 b2)) 99 (by kernel_rfl) ?_;rw [<- HWA.out];clear HWA;refine yS 0 6 hS0 ?_;refine yS 1 7 hS0 ?_;refine yS 2 8 hS0 ?_;refine yS 3 9 hS0 ?_;refine yS 5 11 hS0 ?_;refine yS 6 12 hS0 ?_;refine yS 7 13 hS0 ?_;refine yS 8 14 hS0 ?_;refine yS 10 16 hS0 ?_;refine yS 11 17 hS0 ?_;refine yS 12 18 hS0 ?_;refine yS 13 19 hS0 ?_;refine wpAnyT_one 4 rfl (by kernel_rfl) rfl ?_;intro K hK;go_simp
 go_at_call 272
 with_reducible refine (HCN.out a0 b0 _).mono ?_
 rintro e wB ⟨rfl,hB⟩;rw [hB];clear hB wB;show K _ _
 have hS1:=hS0;refine hK.out _ _ (fun _=>hS1) ?_;clear hK K;refine wpAnyT_one 9 rfl (by kernel_rfl) rfl ?_;intro K hK;go_simp
 go_at_call 272
 with_reducible refine (HCN.out a1 b1 _).mono ?_
 rintro e wB ⟨rfl,hB⟩;rw [hB];clear hB wB;show K _ _
 have hS2:=hS0;refine hK.out _ _ (fun _=>hS2) ?_;clear hK K;refine wpAnyT_one 14 rfl (by kernel_rfl) rfl ?_;intro K hK;go_simp
 go_at_call 272
 with_reducible refine (HCN.out a2 b2 _).mono ?_
 rintro e wB ⟨rfl,hB⟩;rw [hB];clear hB wB;show K _ _
 have hS3:=hS0;refine hK.out _ _ (fun _=>hS3) ?_;clear hK K;refine wpAnyT_one 15 rfl (by kernel_rfl) rfl ?_;intro K hK;go_simp
 show K _ _
 have hS4:=HSM.out (wA.alloc (.cells #[.int .i64 (cmpN a0 b0),.int .i64 (cmpN a1 b1),.int .i64 (cmpN a2 b2)] 3)) ((Mod.refl No wA).alloc _);refine hK.out _ _ (fun _=>hS4) ?_;clear hK K;refine wpAnyT_one 16 rfl (by kernel_rfl) rfl ?_;intro K hK;go_simp
 go_at_call 271
 with_reducible refine (HOR.out wA).mono ?_
 rintro e wB ⟨rfl,hB⟩;rw [hB];clear hB wB;show K _ _
 have hS5:=HSM.out (wA.alloc (.cells #[.int .i64 (cmpN a0 b0),.int .i64 (cmpN a1 b1),.int .i64 (cmpN a2 b2)] 3)) ((Mod.refl No wA).alloc _);refine hK.out _ _ (fun _=>hS5) ?_;clear hK K;refine yT 17 (some 5) ?_ hS5 ?_ ?_;rotate_left
 ·(intro w' hSw;obtain ⟨c0,c1,c2,c3,c4,c5⟩:=hSw;go_simp;try with_reducible rfl)
 simp only [Act.put];refine wpAnyT_done (by kernel_rfl) ?_ _
 obtain ⟨wC,hwC⟩:∃ z,z=wA.alloc (.cells #[.int .i64 (cmpN a0 b0),.int .i64 (cmpN a1 b1),.int .i64 (cmpN a2 b2)] 3):=⟨_,rfl⟩
 have HMC:=zh (show Mod No w wC by rw [hwC];exact HMA.out.alloc _);have hX:=heap_alloc_old (.cells #[.int .i64 (cmpN a0 b0),.int .i64 (cmpN a1 b1),.int .i64 (cmpN a2 b2)] 3) HX1.out;have hY:=heap_alloc_old (.cells #[.int .i64 (cmpN a0 b0),.int .i64 (cmpN a1 b1),.int .i64 (cmpN a2 b2)] 3) HY1.out;rw [<- hwC] at hX hY;have HPA2:=zh (HPA.out.keep (S:=No) (show Mod No w wC from HMC.out) (fun _ _ _ f=>f.elim));have HPB2:=zh (HPB.out.keep (S:=No) (show Mod No w wC from HMC.out) (fun _ _ _ f=>f.elim));have cx:=cell_ofA (i:=3) hX rfl;have cy:=cell_ofA (i:=3) hY rfl;have HXY:=zh (show ∀ w',Mod No wC w'->w'.cell? ⟨gx,3,none⟩=some (.slice va as'.length vc)/\w'.cell? ⟨gy,3,none⟩=some (.slice ua bs'.length uc) from fun w' hm=>⟨hm.cell cx (fun f=>f),hm.cell cy (fun f=>f)⟩);rw [<- hwC];clear hwC hX hY HSM hS0 HX1 HY1 HPA HPB HMA HOR;generalize orI [cmpN a0 b0,cmpN a1 b1,cmpN a2 b2]=o at *;by_cases ho:o=0
 ·subst ho;have hvc:=HVC.out;rw [if_pos rfl] at hvc;clear HVC;by_cases he:as'=[]\/bs'=[]
  ·rw [if_pos he] at hvc;have hle:as'.length=0\/bs'.length=0:=he.imp (fun h=>by rw [h];rfl) (fun h=>by rw [h];rfl);rw [<- cmp_sub hle] at hvc;have HV5:=zh hvc;clear hvc HCM he HPA2 HPB2;generalize as'.length=la at *;generalize bs'.length=lb at *;by_cases hla:la=0
   ·subst hla;go_upto_region 5 with fail
    go_quiet (first | (go_at_call 272;refine Calls.quiet_of_same (HCN.out _ _ _)))
    go_wp2_with fail
    exact fin hR ⟨(by rw [HV5.out];try rfl),HMC.out.drewN _⟩
   ·have e1:((la:Int) == 0)=false:=by simpa using hla
    obtain rfl:=hle.resolve_left hla;go_upto_region 5 with fail
    go_quiet (first | (go_at_call 272;refine Calls.quiet_of_same (HCN.out _ _ _)))
    go_wp2_with fail
    exact fin hR ⟨(by rw [HV5.out];try rfl),HMC.out.drewN _⟩
  ·rw [if_neg he] at hvc;have HV6:=zh hvc;have e1:((as'.length:Int) == 0)=false:=by
    rw [beq_eq_false_iff_ne];intro h;exact he (.inl (List.eq_nil_of_length_eq_zero (by omega)))
   have e2:((bs'.length:Int) == 0)=false:=by
    rw [beq_eq_false_iff_ne];intro h;exact he (.inr (List.eq_nil_of_length_eq_zero (by omega)))
   have HC6:=zh (HCM.out wC HPA2.out HPB2.out);clear hvc HCM he;go_wp2_with fail
   with_reducible refine HC6.out.mono ?_
   rintro e w2 ⟨rfl,hm2⟩;have HM2:=zh (HMC.out.trans hm2);clear hm2;go_wp2_with fail
   exact fin hR ⟨(by rw [HV6.out];try rfl),HM2.out⟩
 ·have hvc:=HVC.out;rw [if_neg ho] at hvc;have HV7:=zh hvc;have hob:(o != 0)=true:=by simpa using ho
  clear hvc HVC;go_wp2_with fail
  exact fin hR ⟨(by rw [HV7.out];try rfl),HMC.out⟩
theorem holds_any (b:Bnd) (bpv:Value) (v:Ver) (pv:Value) (hb:Small b.v) (hv:Small v) (w:World) (hbp:Sl w No 9 bpv b.v.pre.length (strs b.v.pre)) (hvp:SvX w No pv v.pre.length (strs v.pre)) :
  Calls prog 189 #[.agg (BndX.cells ⟨b,bpv⟩).toArray,verV v pv] w fun e w'=>e=.returned (.bool (holdsB b v))/\Mod No w w':=by
 refine calls_hide fun R hR=>?_
 have HCM:=zh (fun (W:World) (hm:Mod No w W)=>vercmp_sv v b.v hv hb pv bpv W (hvp.kn hm) (.of (hbp.kn hm)));obtain ⟨va,vc,rfl⟩:=hbp.len;obtain ⟨ua,uc,rfl⟩:=hvp.len;clear hbp hvp hb hv;have HB:=zh (show holdsB b v=if b.sign=[61] then decide (verC v b.v=0) else if b.sign=[60] then decide (verC v b.v < 0) else if b.sign=[60,61] then decide (verC v b.v<=0) else if b.sign=[62] then decide (0 < verC v b.v) else if b.sign=[62,61] then decide (0<=verC v b.v) else false from rfl);generalize verC v b.v=z at *;generalize holdsB b v=r at *;obtain ⟨sg,⟨b0,b1,b2,bp⟩⟩:=b;obtain ⟨v0,v1,v2,vp⟩:=v;unfold BndX.cells verCs verV strV at *;dsimp only at *;have hT:=str_list sg;generalize (⟨sg.toArray⟩:ByteArray)=S at *;have HT:=zh hT;clear hT;go_enter func189,ntmps189
 go_upto_region 1 with fail
 obtain ⟨gx,hgx⟩:∃ g,g=w.heap.size:=⟨_,rfl⟩
 rw [<- hgx];generalize hw1:World.alloc (World.alloc w _) _=w1;have hx1:w1.heap[gx]? = some (.cells #[.string S,.int .i64 b0,.int .i64 b1,.int .i64 b2,.slice va bp.length vc] 237 (0,0)):=by rw [<- hw1,hgx];exact heap_alloc_old _ (heap_alloc_new w _)
 have hy1:w1.heap[gx+1]? = some (.cells #[.int .i64 v0,.int .i64 v1,.int .i64 v2,.slice ua vp.length uc] 40 (0,0)):=by rw [<- hw1,hgx];exact heap_at_new _ _ (by simp)
 have hm1:Mod No w w1:=by rw [<- hw1];exact ((Mod.refl No w).alloc _).alloc _
 have c1:=cell_ofA hx1 (i:=1) rfl;have c2:=cell_ofA hx1 (i:=2) rfl;have c3:=cell_ofA hx1 (i:=3) rfl;have c4:=cell_ofA hx1 (i:=4) rfl;have d0:=cell_ofA hy1 (i:=0) rfl;have d1:=cell_ofA hy1 (i:=1) rfl;have d2:=cell_ofA hy1 (i:=2) rfl;have d3:=cell_ofA hy1 (i:=3) rfl;have HX1:=zh hx1;have HM:=zh hm1;have HCW:=zh (HCM.out w1 hm1);clear hw1 hgx hx1 hy1 hm1 HCM;go_wp2_with fail
 with_reducible refine HCW.out.mono ?_
 rintro e w2 ⟨rfl,hm2⟩;have HM2:=zh (HM.out.trans hm2);have e0:w2.cell? ⟨gx,0,none⟩=some (.string S):=cell_ofA (hm2.keep HX1.out (fun f=>f)) rfl;clear hm2 HCW HM c1 c2 c3 c4 d0 d1 d2 d3;have hT:S.toList=sg:=HT.out;by_cases h1:sg=[61]
 ·subst h1;have HB1:=zh (show r=decide (z=0) by rw [HB.out];rfl);clear HB HT;go_wp2_with fail
  refine fin hR ⟨bool_ret ?_,HM2.out⟩
  rw [HB1.out];by_cases hz:z=0
  ·rw [decide_eq_true hz,hz];rfl
  ·rw [decide_eq_false hz];simpa using hz
 by_cases h2:sg=[60]
 ·subst h2;have HB1:=zh (show r=decide (z < 0) by rw [HB.out];rfl);clear HB HT h1;go_wp2_with fail
  refine fin hR ⟨bool_ret ?_,HM2.out⟩
  rw [HB1.out]
 by_cases h3:sg=[60,61]
 ·subst h3;have HB1:=zh (show r=decide (z<=0) by rw [HB.out];rfl);clear HB HT h1 h2;go_wp2_with fail
  refine fin hR ⟨bool_ret ?_,HM2.out⟩
  rw [HB1.out]
 by_cases h4:sg=[62]
 ·subst h4;have HB1:=zh (show r=decide (0 < z) by rw [HB.out];rfl);clear HB HT h1 h2 h3;go_wp2_with fail
  refine fin hR ⟨bool_ret ?_,HM2.out⟩
  rw [HB1.out]
 by_cases h5:sg=[62,61]
 ·subst h5;have HB1:=zh (show r=decide (0<=z) by rw [HB.out];rfl);clear HB HT h1 h2 h3 h4;go_wp2_with fail
  refine fin hR ⟨bool_ret ?_,HM2.out⟩
  rw [HB1.out]
 have HB1:=zh (show r=false by rw [HB.out,if_neg h1,if_neg h2,if_neg h3,if_neg h4,if_neg h5]);have g1:(sg == [61])=false:=by simpa using h1
 have g2:(sg == [60])=false:=by simpa using h2
 have g3:(sg == [60,61])=false:=by simpa using h3
 have g4:(sg == [62])=false:=by simpa using h4
 have g5:(sg == [62,61])=false:=by simpa using h5
 clear HB HT h1 h2 h3 h4 h5;go_wp2_with fail
 refine fin hR ⟨bool_ret ?_,HM2.out⟩
 rw [HB1.out]
theorem near_any (b:Bnd) (ba:Option Addr) (bc:Nat) (v:Ver) (pv:Value) (w:World) :
  Calls prog 191 #[.agg (BndX.cells ⟨b,.slice ba b.v.pre.length bc⟩).toArray,verV v pv] w fun e w'=>e=.returned (.bool (nearB b v))/\Mod No w w':=by
 refine calls_hide fun R hR=>?_
 have HB:=zh (show nearB b v=(!b.v.pre.isEmpty && decide (b.v.ma=v.ma) && decide (b.v.mi=v.mi) && decide (b.v.pa=v.pa)) from rfl);generalize nearB b v=r at *;obtain ⟨sg,⟨b0,b1,b2,bp⟩⟩:=b;obtain ⟨v0,v1,v2,vp⟩:=v;unfold BndX.cells verCs verV strV at *;dsimp only at *;generalize (⟨sg.toArray⟩:ByteArray)=S at *;go_enter func191,ntmps191
 go_upto_region 1 with fail
 obtain ⟨gx,hgx⟩:∃ g,g=w.heap.size:=⟨_,rfl⟩
 rw [<- hgx];generalize hw1:World.alloc (World.alloc w _) _=w1;have hx1:w1.heap[gx]? = some (.cells #[.string S,.int .i64 b0,.int .i64 b1,.int .i64 b2,.slice ba bp.length bc] 237 (0,0)):=by rw [<- hw1,hgx];exact heap_alloc_old _ (heap_alloc_new w _)
 have hy1:w1.heap[gx+1]? = some (.cells #[.int .i64 v0,.int .i64 v1,.int .i64 v2,pv] 40 (0,0)):=by rw [<- hw1,hgx];exact heap_at_new _ _ (by simp)
 have HM:=zh (show Mod No w w1 by rw [<- hw1];exact ((Mod.refl No w).alloc _).alloc _);have c1:=cell_ofA hx1 (i:=1) rfl;have c2:=cell_ofA hx1 (i:=2) rfl;have c3:=cell_ofA hx1 (i:=3) rfl;have c4:=cell_ofA hx1 (i:=4) rfl;have d0:=cell_ofA hy1 (i:=0) rfl;have d1:=cell_ofA hy1 (i:=1) rfl;have d2:=cell_ofA hy1 (i:=2) rfl;clear hw1 hgx hx1 hy1;by_cases hp:bp=[]
 ·subst hp;have HR:=zh (show r=false by rw [HB.out];rfl);clear HB;go_wp2_with fail
  refine fin hR ⟨bool_ret ?_,HM.out⟩
  rw [HR.out]
 have hl:(0:Int) < (bp.length:Int):=by have:=List.length_pos_iff.2 hp;omega
 have hie:bp.isEmpty=false:=by simpa using hp
 rw [hie] at HB;clear hie hp;by_cases h0:b0=v0
 ·subst h0;by_cases h1:b1=v1
  ·subst h1;have HR:=zh (show r=decide (b2=v2) by rw [HB.out];simp);clear HB;go_wp2_with fail
   refine fin hR ⟨bool_ret ?_,HM.out⟩
   rw [HR.out];by_cases hz:b2=v2
   ·rw [decide_eq_true hz,hz];simp
   ·rw [decide_eq_false hz];simpa using hz
  ·have HR:=zh (show r=false by rw [HB.out];simp [h1]);have g1:((b1:Int) == v1)=false:=by simpa using h1
   clear HB h1;go_wp2_with fail
   refine fin hR ⟨bool_ret ?_,HM.out⟩
   rw [HR.out]
 ·have HR:=zh (show r=false by rw [HB.out];simp [h0]);have g0:((b0:Int) == v0)=false:=by simpa using h0
  clear HB h0;go_wp2_with fail
  refine fin hR ⟨bool_ret ?_,HM.out⟩
  rw [HR.out]
abbrev VerBox (w:World) (vb:Nat) (v:Ver) (pv:Value):Prop:=w.heap[vb]? = some (.cells #[.int .i64 v.ma,.int .i64 v.mi,.int .i64 v.pa,pv] 40 (0,0))
theorem holdsfn_any (b:Bnd) (bpv:Value) (v:Ver) (pv:Value) (vb:Nat) (hb:Small b.v) (hv:Small v) (w:World) (hbp:Sl w No 9 bpv b.v.pre.length (strs b.v.pre)) (hvp:SvX w No pv v.pre.length (strs v.pre)) (hvb:VerBox w vb v pv) :
  Calls prog 188 #[.agg (BndX.cells ⟨b,bpv⟩).toArray,.pointer (some ⟨vb,0,none⟩)] w fun e w'=>e=.returned (.bool (!holdsB b v))/\Mod No w w':=by
 refine calls_hide fun R hR=>?_
 have HCM:=zh (fun (W:World) (hm:Mod No w W)=>holds_any b bpv v pv hb hv W (hbp.kn hm) (hvp.kn hm));obtain ⟨va,vc,rfl⟩:=hbp.len;obtain ⟨ua,uc,rfl⟩:=hvp.len;clear hbp hvp hb hv;generalize holdsB b v=r at *;obtain ⟨sg,⟨b0,b1,b2,bp⟩⟩:=b;obtain ⟨v0,v1,v2,vp⟩:=v;unfold VerBox BndX.cells verCs verV strV at *;dsimp only at *;generalize (⟨sg.toArray⟩:ByteArray)=S at *;have HVB:=zh hvb;clear hvb;go_enter func188,ntmps188
 go_upto_region 1 with fail
 obtain ⟨gx,hgx⟩:∃ g,g=w.heap.size:=⟨_,rfl⟩
 rw [<- hgx];generalize hw1:World.alloc w _=w1;have hx1:w1.heap[gx]? = some (.cells #[.string S,.int .i64 b0,.int .i64 b1,.int .i64 b2,.slice va bp.length vc] 237 (0,0)):=by rw [<- hw1,hgx];exact heap_alloc_new w _
 have hm1:Mod No w w1:=by rw [<- hw1];exact (Mod.refl No w).alloc _
 have hy1:=hm1.keep HVB.out (fun f=>f);have c0:=cell_ofA hx1 (i:=0) rfl;have c1:=cell_ofA hx1 (i:=1) rfl;have c2:=cell_ofA hx1 (i:=2) rfl;have c3:=cell_ofA hx1 (i:=3) rfl;have c4:=cell_ofA hx1 (i:=4) rfl;have d0:=cell_ofA hy1 (i:=0) rfl;have d1:=cell_ofA hy1 (i:=1) rfl;have d2:=cell_ofA hy1 (i:=2) rfl;have d3:=cell_ofA hy1 (i:=3) rfl;have HM:=zh hm1;have HCW:=zh (HCM.out w1 hm1);clear hw1 hgx hx1 hy1 hm1 HCM HVB;go_wp2_with fail
 with_reducible refine HCW.out.mono ?_
 rintro e w2 ⟨rfl,hm2⟩;have HM2:=zh (HM.out.trans hm2);clear hm2 HCW HM c0 c1 c2 c3 c4 d0 d1 d2 d3;go_wp2_with fail
 exact fin hR ⟨rfl,HM2.out⟩
theorem nearfn_any (b:Bnd) (ba:Option Addr) (bc:Nat) (v:Ver) (pv:Value) (vb:Nat) (w:World) (hvb:VerBox w vb v pv) :
  Calls prog 190 #[.agg (BndX.cells ⟨b,.slice ba b.v.pre.length bc⟩).toArray,.pointer (some ⟨vb,0,none⟩)] w fun e w'=>e=.returned (.bool (nearB b v))/\Mod No w w':=by
 refine calls_hide fun R hR=>?_
 have HCM:=zh (fun (W:World)=>near_any b ba bc v pv W);generalize nearB b v=r at *;obtain ⟨sg,⟨b0,b1,b2,bp⟩⟩:=b;obtain ⟨v0,v1,v2,vp⟩:=v;unfold VerBox BndX.cells verCs verV strV at *;dsimp only at *;generalize (⟨sg.toArray⟩:ByteArray)=S at *;have HVB:=zh hvb;clear hvb;go_enter func190,ntmps190
 go_upto_region 1 with fail
 obtain ⟨gx,hgx⟩:∃ g,g=w.heap.size:=⟨_,rfl⟩
 rw [<- hgx];generalize hw1:World.alloc w _=w1;have hx1:w1.heap[gx]? = some (.cells #[.string S,.int .i64 b0,.int .i64 b1,.int .i64 b2,.slice ba bp.length bc] 237 (0,0)):=by rw [<- hw1,hgx];exact heap_alloc_new w _
 have hm1:Mod No w w1:=by rw [<- hw1];exact (Mod.refl No w).alloc _
 have hy1:=hm1.keep HVB.out (fun f=>f);have c0:=cell_ofA hx1 (i:=0) rfl;have c1:=cell_ofA hx1 (i:=1) rfl;have c2:=cell_ofA hx1 (i:=2) rfl;have c3:=cell_ofA hx1 (i:=3) rfl;have c4:=cell_ofA hx1 (i:=4) rfl;have d0:=cell_ofA hy1 (i:=0) rfl;have d1:=cell_ofA hy1 (i:=1) rfl;have d2:=cell_ofA hy1 (i:=2) rfl;have d3:=cell_ofA hy1 (i:=3) rfl;have HM:=zh hm1;have HCW:=zh (HCM.out w1);clear hw1 hgx hx1 hy1 hm1 HCM HVB;go_wp2_with fail
 with_reducible refine HCW.out.mono ?_
 rintro e w2 ⟨rfl,hm2⟩;have HM2:=zh (HM.out.trans hm2);clear hm2 HCW HM c0 c1 c2 c3 c4 d0 d1 d2 d3;go_wp2_with fail
 exact fin hR ⟨rfl,HM2.out⟩
structure BndsOk (l:List Bnd):Prop where
 few:l.length<=1000000
 each:∀ b ∈ l,Small b.v
structure SpnOk (s:Spn):Prop where
 few:s.ors.length<=1000000
 each:∀ l ∈ s.ors,BndsOk l
theorem all_not_any {α:Type} (p:α->Bool) (l:List α):(l.any fun x=>!p x) = !(l.all p):=by
 induction l with
 | nil=>rfl
 | cons x l ih=>simp [ih,Bool.not_and]
theorem splist_any (lv:Value) (l:List Bnd) (hl:BndsOk l) (v:Ver) (pv:Value) (vb:Nat) (hv:Small v) (w:World) (hlv:BndsAt w lv l) (hvp:SvX w No pv v.pre.length (strs v.pre)) (hvb:VerBox w vb v pv) :
  Calls prog 186 #[lv,.pointer (some ⟨vb,0,none⟩)] w fun e w'=>e=.returned (.bool (hasO v l))/\Mod No w w':=by
 refine calls_hide fun R hR=>?_
 obtain ⟨xs,rfl,hxp,hxs⟩:=hlv;rw [List.length_map] at hxs;have hfew:xs.length<=1000000:=by have:=hl.few;rwa [List.length_map] at this
 have HA:=zh (containsfunc_bnds 188 #[.pointer (some ⟨vb,0,none⟩)] (fun _ _=>rfl) (fun x=>!holdsB x.b v) xs hfew (fun x _=>BndX.cells_length x) lv w hxs (fun i hi W hm =>
  holdsfn_any xs[i].b xs[i].pv v pv vb (hl.each _ (List.mem_map.2 ⟨_,List.getElem_mem hi,rfl⟩)) hv W ((hxp _ (List.getElem_mem hi)).kn hm) (hvp.kn hm) (hm.keep hvb (fun f=>f))))
 have HN:=zh (fun (W1:World) (hm1:Mod No w W1)=>containsfunc_bnds 190 #[.pointer (some ⟨vb,0,none⟩)] (fun _ _=>rfl) (fun x=>nearB x.b v) xs hfew (fun x _=>BndX.cells_length x) lv W1 (hxs.kn hm1) (fun i hi W hm=>by
  obtain ⟨ba,bc,hbv⟩:=(hxp _ (List.getElem_mem hi)).len;have h:=nearfn_any xs[i].b ba bc v pv vb W ((hm1.trans hm).keep hvb (fun f=>f));rw [<- hbv] at h;exact h))
 have HE1:=zh (show (xs.any fun x=>!holdsB x.b v) = !((xs.map BndX.b).all fun b=>holdsB b v) by
  rw [all_not_any (fun x:BndX=>holdsB x.b v) xs,List.all_map];rfl)
 have HE2:=zh (show (xs.any fun x=>nearB x.b v)=((xs.map BndX.b).any fun b=>nearB b v) by rw [List.any_map];rfl);rw [HE1.out] at HA;simp only [HE2.out] at HN;have HO:=zh (show hasO v (xs.map BndX.b)=(((xs.map BndX.b).all fun b=>holdsB b v) && (v.pre.isEmpty || (xs.map BndX.b).any fun b=>nearB b v)) from rfl);obtain ⟨la,lc,rfl⟩:=hxs.len;obtain ⟨ua,uc,rfl⟩:=hvp.len;clear hxp hxs hvp HE1 HE2 hl hv hfew;generalize ((xs.map BndX.b).all fun b=>holdsB b v)=ra at *;generalize ((xs.map BndX.b).any fun b=>nearB b v)=rn at *;generalize hasO v (xs.map BndX.b)=r at *;generalize xs.length=n at *;obtain ⟨v0,v1,v2,vp⟩:=v;unfold VerBox at *;dsimp only at *;have HVB:=zh hvb;clear hvb;go_enter func186,ntmps186
 go_wp2_with fail
 with_reducible refine HA.out.mono ?_
 rintro e w2 ⟨rfl,hm2⟩;have HM2:=zh hm2;have d3:=cell_ofA (hm2.keep HVB.out (fun f=>f)) (i:=3) rfl;have HNW:=zh (HN.out w2 hm2);clear hm2 HA HN HVB;rcases ra with _ | _
 ·have HR:=zh (show r=false by rw [HO.out];rfl);clear HO HNW d3;go_wp2_with fail
  refine fin hR ⟨bool_ret ?_,HM2.out⟩
  rw [HR.out]
 by_cases hp:vp=[]
 ·subst hp;have HR:=zh (show r=true by rw [HO.out];rfl);clear HO HNW;go_wp2_with fail
  refine fin hR ⟨bool_ret ?_,HM2.out⟩
  rw [HR.out]
 have hie:vp.isEmpty=false:=by simpa using hp
 have HR:=zh (show r=rn by rw [HO.out,hie];simp);have hl:((vp.length:Int) == 0)=false:=by have:=List.length_pos_iff.2 hp;simp;omega
 clear HO hie hp;go_wp2_with fail
 with_reducible refine HNW.out.mono ?_
 rintro e w3 ⟨rfl,hm3⟩;have HM3:=zh (HM2.out.trans hm3);clear hm3 HNW d3;go_wp2_with fail
 refine fin hR ⟨bool_ret ?_,HM3.out⟩
 rw [HR.out]
theorem sphas_any (s:Spn) (ov:Value) (hs:SpnOk s) (v:Ver) (pv:Value) (hv:Small v) (w:World) (hov:OrsAt w ov s.ors) (hvp:SvX w No pv v.pre.length (strs v.pre)) :
  Calls prog 125 #[.agg #[.bool s.any,ov],verV v pv] w fun e w'=>e=.returned (.bool (hasS s v))/\Mod No w w':=by
 refine calls_hide fun R hR=>?_
 obtain ⟨any,ors⟩:=s;obtain ⟨few,each⟩:=hs;dsimp only at few each hov;obtain ⟨xs,rfl,hxp,hxs⟩:=hov;rw [List.length_map] at hxs few;have HA:=zh (fun (W1:World) (vb:Nat) (hm1:Mod No w W1) (hvb:VerBox W1 vb v pv)=>containsfunc_ors 186 #[.pointer (some ⟨vb,0,none⟩)] (fun _ _=>rfl) (fun x=>hasO v x.l) xs few ov W1 (hxs.kn hm1) (fun i hi W hm =>
  splist_any xs[i].v xs[i].l (each _ (List.mem_map.2 ⟨_,List.getElem_mem hi,rfl⟩)) v pv vb hv W ((hxp _ (List.getElem_mem hi)).keep (hm1.trans hm) (Apart.no _ _)) (hvp.kn (hm1.trans hm)) (hm.keep hvb (fun f=>f))))
 have HE:=zh (show (xs.any fun x=>hasO v x.l)=(xs.map OrX.l).any (hasO v) by rw [List.any_map];rfl);simp only [HE.out] at HA;have HO:=zh (show hasS ⟨any,xs.map OrX.l⟩ v=if any then v.pre.isEmpty else (xs.map OrX.l).any (hasO v) from rfl);obtain ⟨oa,oc,rfl⟩:=hxs.len;obtain ⟨ua,uc,rfl⟩:=hvp.len;clear hxp hxs hvp HE each hv few;generalize (xs.map OrX.l).any (hasO v)=ra at *;generalize hasS ⟨any,xs.map OrX.l⟩ v=r at *;generalize xs.length=n at *;obtain ⟨v0,v1,v2,vp⟩:=v;unfold VerBox at *;dsimp only at *;unfold verV;dsimp only;go_enter func125,ntmps125
 go_upto_region 1 with fail
 obtain ⟨gx,hgx⟩:∃ g,g=w.heap.size:=⟨_,rfl⟩
 rw [<- hgx];generalize hw1:World.alloc (World.alloc w _) _=w1;have hx1:w1.heap[gx]? = some (.cells #[.bool any,.slice oa n oc] 96 (0,0)):=by rw [<- hw1,hgx];exact heap_alloc_old _ (heap_alloc_new w _)
 have hy1:w1.heap[gx+1]? = some (.cells #[.int .i64 v0,.int .i64 v1,.int .i64 v2,.slice ua vp.length uc] 40 (0,0)):=by rw [<- hw1,hgx];exact heap_at_new _ _ (by simp)
 have hm1:Mod No w w1:=by rw [<- hw1];exact ((Mod.refl No w).alloc _).alloc _
 have c0:=cell_ofA hx1 (i:=0) rfl;have c1:=cell_ofA hx1 (i:=1) rfl;have d3:=cell_ofA hy1 (i:=3) rfl;have HM:=zh hm1;have HAW:=zh (HA.out w1 (gx+1) hm1 hy1);clear hw1 hgx hx1 hy1 hm1 HA;rcases any with _ | _
 ·have HR:=zh (show r=ra by rw [HO.out];rfl);clear HO;go_wp2_with fail
  with_reducible refine HAW.out.mono ?_
  rintro e w2 ⟨rfl,hm2⟩;have HM2:=zh (HM.out.trans hm2);clear hm2 HAW HM c0 c1 d3;go_wp2_with fail
  refine fin hR ⟨bool_ret ?_,HM2.out⟩
  rw [HR.out]
 ·have HR:=zh (show r=vp.isEmpty by rw [HO.out];rfl);clear HO HAW;go_wp2_with fail
  refine fin hR ⟨bool_ret ?_,HM.out⟩
  rw [HR.out];cases vp with
  | nil=>rfl
  | cons a l=>simp;omega
theorem nonempty_of_digits {l:List UInt8} (h:digitsB l=true):0 < l.length:=by
 unfold digitsB at h;cases l
 ·simp at h
 ·simp
theorem plain_any (l:List UInt8) (hl:l.length<=1000000) (h0:0 < l.length) (w:World):Calls prog 207 #[strV l] w fun e w'=>e=.returned (.bool (plainB l))/\w'=w:=by
 refine calls_hide fun R hR=>?_
 have hidx:∀ W,(Instr.index 9 (.string ⟨l.toArray⟩) (.int .i64 0)).run prog W=.ok (.int .u8 (l[0].toNat:Int)) W:=run_at l 0 h0;have HZ:=zh (str_len3 l);have hT:=str_list l;have HP:=zh (show plainB l=(decide (l.length=1) || decide (l[0].toNat ≠ 48)) by
  unfold plainB;congr 1
  rw [List.head?_eq_getElem?,List.getElem?_eq_getElem h0];simp [<- UInt8.toNat_inj])
 unfold strV;generalize (⟨l.toArray⟩:ByteArray)=Z at *;have hZs:(Z.size:Int)=(l.length:Int):=by rw [HZ.out]
 generalize l[0].toNat=x at *;go_enter func207,ntmps207
 by_cases h1:(l.length:Int)=1
 ·go_wp2_with fail
  refine fin hR ⟨bool_ret ?_,rfl⟩
  rw [HP.out,decide_eq_true (by omega)];rfl
 ·go_wp2_with fail
  refine fin hR ⟨bool_ret ?_,rfl⟩
  rw [HP.out,Bool.eq_iff_iff];simp
  try omega
theorem sign_any (c:UInt8) (w:World):Calls prog 210 #[.int .u8 (c.toNat:Int)] w fun e w'=>e=.returned (.bool (signB c))/\w'=w:=by
 refine calls_hide fun R hR=>?_
 have HS:=zh (show signB c=((decide (48<=c.toNat) && decide (c.toNat<=57)) || (decide (97<=c.toNat) && decide (c.toNat<=122)) || (decide (65<=c.toNat) && decide (c.toNat<=90)) || decide (c.toNat=45)) from rfl);generalize c.toNat=x at *;go_enter func210,ntmps210
 go_wp2_with fail
 all_goals
  refine fin hR ⟨bool_ret ?_,rfl⟩
  rw [HS.out,Bool.eq_iff_iff];simp
  omega
theorem mark_any (l:List UInt8) (hl:l.length<=1000000) (w:World):Calls prog 159 #[strV l] w fun e w'=>e=.returned (.bool (markB l))/\w'=w:=by
 refine calls_hide fun R hR=>?_
 have HX:=zh (run_at l);have HZ:=zh (str_len3 l);have hT:=str_list l;have HDG:=zh (digits_any l hl);have HPL:=zh (plain_any l hl);unfold strV at *;generalize (⟨l.toArray⟩:ByteArray)=Z at *;have hZs:(Z.size:Int)=(l.length:Int):=by rw [HZ.out]
 have HMB:=zh (show markB l=(!l.isEmpty && decide (l.length<=16) && (!digitsB l || plainB l) && l.all signB) from rfl);have HDN:=zh (nonempty_of_digits (l:=l));go_enter func159,ntmps159
 by_cases h0:l=[]
 ·subst h0;go_wp2_with fail
  refine fin hR ⟨bool_ret ?_,rfl⟩
  rfl
 have hne:l.isEmpty=false:=by simpa using h0
 by_cases h16:(16:Int) < (l.length:Int)
 ·go_wp2_with fail
  refine fin hR ⟨bool_ret ?_,rfl⟩
  rw [HMB.out,decide_eq_false (by omega:¬ l.length<=16),Bool.and_false];rfl
 go_wp2_with fail
 with_reducible refine (HDG.out _).mono ?_
 rintro e w ⟨rfl,rfl⟩;have HMC:=zh (show (!digitsB l || plainB l)=true->markB l=l.all signB from fun h=>by
  rw [HMB.out,h,hne,decide_eq_true (by omega:l.length<=16)];rfl)
 have HMD:=zh (show (!digitsB l || plainB l)=false->markB l=false from fun h=>by
  rw [HMB.out,h,Bool.and_false];rfl)
 rcases hd:digitsB l with _ | _
 ·have HMN:=zh (HMC.out (by rw [hd];rfl));clear HMC HMD HMB;go_wp2_with fail
  go_loopw [22] (fun q wr=>∃ k:Nat,k<=l.length/\q=.int .i64 k/\wr=w/\∀ i (hi:i < l.length),i < k->signB l[i]=true) (fun q _=>l.length - (intOf q).toNat)
  case atStart=>exact ⟨0,by omega,rfl,rfl,fun i _ hi=>absurd hi (by omega)⟩
  case round =>
   obtain ⟨k,hk,rfl,rfl,hall⟩:=hrel;have hk0:(0:Int)<=(k:Int):=Int.natCast_nonneg _;by_cases hlt:k < l.length
   ·have hk1:(k:Int) < (Z.size:Int):=by omega
    have hidx:=HX.out k hlt;have HN:=zh (fun h=>all_take_succ (p:=signB) hlt hall h);have HF:=zh (fun h=>not_all (p:=signB) hlt h);have HSG:=zh (sign_any l[k]);generalize l[k]=c at *;clear hall;go_wp2_with fail
    with_reducible refine (HSG.out _).mono ?_
    rintro e wr ⟨rfl,rfl⟩;rcases hs:signB c with _ | _
    ·go_wp2_with fail
     refine fin hR ⟨bool_ret ?_,rfl⟩
     rw [HMN.out,HF.out hs]
    ·go_wp2_with fail
     exact ⟨⟨k+1,by omega,rfl,trivial,HN.out hs⟩,by show l.length - ((k:Int)+1).toNat < l.length - (k:Int).toNat;omega⟩
   ·have HA:=zh (all_of (p:=signB) (by omega) hall);clear hall;go_wp2_with fail
    refine fin hR ⟨bool_ret ?_,rfl⟩
    rw [HMN.out,HA.out]
 ·go_wp2_with fail
  with_reducible refine (HPL.out (HDN.out hd) _).mono ?_
  rintro e w ⟨rfl,rfl⟩;rcases hp:plainB l with _ | _
  ·go_wp2_with fail
   refine fin hR ⟨bool_ret ?_,rfl⟩
   rw [HMD.out (by rw [hd,hp];rfl)]
  ·have HMN:=zh (HMC.out (by rw [hd,hp];rfl));clear HMC HMD HMB;go_wp2_with fail
   go_loopw [22] (fun q wr=>∃ k:Nat,k<=l.length/\q=.int .i64 k/\wr=w/\∀ i (hi:i < l.length),i < k->signB l[i]=true) (fun q _=>l.length - (intOf q).toNat)
   case atStart=>exact ⟨0,by omega,rfl,rfl,fun i _ hi=>absurd hi (by omega)⟩
   case round =>
    obtain ⟨k,hk,rfl,rfl,hall⟩:=hrel;have hk0:(0:Int)<=(k:Int):=Int.natCast_nonneg _;by_cases hlt:k < l.length
    ·have hk1:(k:Int) < (Z.size:Int):=by omega
     have hidx:=HX.out k hlt;have HN:=zh (fun h=>all_take_succ (p:=signB) hlt hall h);have HF:=zh (fun h=>not_all (p:=signB) hlt h);have HSG:=zh (sign_any l[k]);generalize l[k]=c at *;clear hall;go_wp2_with fail
     with_reducible refine (HSG.out _).mono ?_
     rintro e wr ⟨rfl,rfl⟩;rcases hs:signB c with _ | _
     ·go_wp2_with fail
      refine fin hR ⟨bool_ret ?_,rfl⟩
      rw [HMN.out,HF.out hs]
     ·go_wp2_with fail
      exact ⟨⟨k+1,by omega,rfl,trivial,HN.out hs⟩,by show l.length - ((k:Int)+1).toNat < l.length - (k:Int).toNat;omega⟩
    ·have HA:=zh (all_of (p:=signB) (by omega) hall);clear hall;go_wp2_with fail
     refine fin hR ⟨bool_ret ?_,rfl⟩
     rw [HMN.out,HA.out]
end Go.Proofs.YticfcmdjplmaeaaGreatDoor
