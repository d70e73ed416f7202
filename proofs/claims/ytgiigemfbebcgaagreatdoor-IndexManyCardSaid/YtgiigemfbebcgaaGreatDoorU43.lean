/-
  Layers 0 to 14: helps of the laws of indexes. No statement is proved here; no condition.
-/
import Derived.Test.YtgiigemfbebcgaaGreatDoorU03
import Derived.Test.YtgiigemfbebcgaaGreatDoorU07
import Derived.Test.YtgiigemfbebcgaaGreatDoorU11
namespace Go.Proofs.YtgiigemfbebcgaaGreatDoor
open _root_.Go.Proofs.Tryz
open Go.RowKit
structure Pn where
 name:List UInt8
 v:Ver
 sum:List UInt8
structure PnX where
 p:Pn
 pv:Value
def PnX.cells (x:PnX):List Value:=strV x.p.name :: (verCs x.p.v x.pv++bv x.p.sum)
theorem PnX.cells_length (x:PnX) (h:x.p.sum.length=32):x.cells.length=37:=by simp [PnX.cells,verCs,h]
structure PnOk (x:PnX):Prop where
 sum:x.p.sum.length=32
 pv:∃ a m c,x.pv=.slice a m c
theorem PnOk.one {x:PnX} (h:PnOk x):∀ u ∈ x.cells,u.oneCell'=true:=by
 intro u hu
 obtain ⟨a,m,c,e⟩:=h.pv
 unfold PnX.cells verCs at hu
 rw [e] at hu
 simp only [List.mem_cons,List.mem_append,List.not_mem_nil,or_false] at hu
 rcases hu with rfl | (rfl | rfl | rfl | rfl) | hu
 ·rfl
 ·rfl
 ·rfl
 ·rfl
 ·rfl
 ·exact bv_one _ u hu
def pinZero:Value:=.agg (#[.string ⟨#[]⟩,.int .i64 0,.int .i64 0,.int .i64 0,.slice none 0 0]++Array.replicate 32 (.int .u8 0))
theorem info_pn:(prog.info? 61).map (fun i=>(i.zero,i.size,i.bytes))=some (some pinZero,37,96):=by kernel_rfl
end Go.Proofs.YtgiigemfbebcgaaGreatDoor
namespace Go.Proofs.YtgiigemfbebcgaaGreatDoor
open _root_.Go.Proofs.Tryz
def noughts:List UInt8:=List.replicate 64 48
def packI (i:Nat):List UInt8:=[112,97,99,107,32,112,32,49,46,48,46]++decT i++[32]++noughts++[32,53,10]
def needI (i:Nat):List UInt8:=[110,101,101,100,32,110]++decT i++[32,42,10]
def packsT (n:Nat):List UInt8:=(List.range n).flatMap packI
def needsT (d:Nat):List UInt8:=[112,97,99,107,32,112,32,49,46,48,46,48,32]++noughts++[32,53,10]++(List.range d).flatMap needI
def needsOk (d:Nat):Bool:=match indexL (needsT d) with
 | .inr i=>decide (20 < d) && i == 22
 | .inl st=>decide (d<=20) && match st with
  | [r]=>r.needs.length == d
  | _=>false
set_option maxRecDepth 100000 in
theorem needs_all:∀ d:Fin 24,needsOk d.1=true:=by decide +kernel
theorem packI_len (i:Nat):(packI i).length=79+(decT i).length:=by simp [packI,noughts];omega
def packsOk (n:Nat):Bool:=match indexL (packsT n) with
 | .inr i=>decide (200 < n) && i == 201
 | .inl st=>decide (n<=200) && st.length == n
set_option maxRecDepth 1000000 in
theorem packs_all:∀ d:Fin 5,packsOk (198+d.1)=true:=by decide +kernel
end Go.Proofs.YtgiigemfbebcgaaGreatDoor
namespace Go.Proofs.YtgiigemfbebcgaaGreatDoor
open _root_.Go.Proofs.Tryz
open Go.RowKit
def jI (s:List UInt8):Int:=match indexL s with
 | .inr i=>(i:Int)
 | .inl _=>0
def jE (s:List UInt8):Int:=match indexL s with
 | .inr _=>65
 | .inl _=>0
def jR (s:List UInt8):List Rw:=match indexL s with
 | .inr _=>[]
 | .inl st=>st
def IxAns (s:List UInt8) (e:Ending) (w':World):Prop:=∃ a n c,e=.returned (.tuple #[.slice a n c,.int .i64 (jI s),.int .i64 (jE s)])/\(jR s).length=n ∧
 ∀ r,jR s=[r]->∃ b o,a=some ⟨b,o,none⟩/\∃ na nc,w'.cell? ⟨b,o+38,none⟩=some (.slice na r.needs.length nc)
theorem packs_next (k:Nat):packsT (k+1)=packsT k++packI k:=by
 simp [packsT,List.range_succ,List.flatMap_append]
theorem needs_next (k:Nat):needsT (k+1)=needsT k++needI k:=by
 simp [needsT,List.range_succ,List.flatMap_append]
theorem dec_few {i:Nat} (h:i < 1000):(decT i).length<=3:=(decT_all i).2.2.2 2 (by omega)
theorem packs_len:∀ {k:Nat},k<=1000->(packsT k).length<=k*82
 | 0,_=>Nat.le_refl 0
 | k+1,h=>by
  have h1:=packs_len (k:=k) (by omega)
  have h2:=dec_few (i:=k) (by omega)
  rw [packs_next,List.length_append,packI_len]
  omega
theorem needI_len (i:Nat):(needI i).length=9+(decT i).length:=by simp [needI];omega
theorem needsT_len:∀ {k:Nat},k<=1000->(needsT k).length<=80+k*12
 | 0,_=>by decide
 | k+1,h=>by
  have h1:=needsT_len (k:=k) (by omega)
  have h2:=dec_few (i:=k) (by omega)
  rw [needs_next,List.length_append,needI_len]
  omega
theorem packs_ix {n:Nat} (h1:198<=n) (h2:n<=202):(200 < n->jE (packsT n)=65/\jI (packsT n)=201)/\(n<=200->jE (packsT n)=0/\(jR (packsT n)).length=n):=by
 obtain ⟨d,rfl⟩:∃ d,n=198+d:=⟨n - 198,by omega⟩
 have h:=packs_all ⟨d,by omega⟩
 dsimp only at h
 unfold packsOk at h
 unfold jE jI jR
 generalize indexL (packsT (198+d))=z at *
 rcases z with st | i
 ·simp only [Bool.and_eq_true,decide_eq_true_eq,beq_iff_eq] at h
  exact ⟨fun h3=>absurd h.1 (by omega),fun _=>⟨rfl,h.2⟩⟩
 ·simp only [Bool.and_eq_true,decide_eq_true_eq,beq_iff_eq] at h
  exact ⟨fun _=>⟨rfl,by show (i:Int)=201;omega⟩,fun h3=>absurd h.1 (by omega)⟩
theorem needs_ix {d:Nat} (h2:d < 24):(20 < d->jE (needsT d)=65/\jI (needsT d)=22)/\(d<=20->jE (needsT d)=0/\∃ r,jR (needsT d)=[r]/\r.needs.length=d):=by
 have h:=needs_all ⟨d,h2⟩
 dsimp only at h
 unfold needsOk at h
 unfold jE jI jR
 generalize indexL (needsT d)=z at *
 rcases z with st | i
 ·simp only [Bool.and_eq_true,decide_eq_true_eq] at h
  refine ⟨fun h3=>absurd h.1 (by omega),fun _=>⟨rfl,?_⟩⟩
  match st,h.2 with
  | [r],h3=>exact ⟨r,rfl,by simpa using h3⟩
 ·simp only [Bool.and_eq_true,decide_eq_true_eq,beq_iff_eq] at h
  exact ⟨fun _=>⟨rfl,by show (i:Int)=22;omega⟩,fun h3=>absurd h.1 (by omega)⟩
end Go.Proofs.YtgiigemfbebcgaaGreatDoor
