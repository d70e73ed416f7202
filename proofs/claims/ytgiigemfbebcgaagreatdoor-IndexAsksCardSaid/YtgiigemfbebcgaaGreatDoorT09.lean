/-
  Layers 0 to 14: helps of the laws of indexes. No statement is proved here; no condition.
-/
import Derived.Test.YtgiigemfbebcgaaGreatDoorT02
import Derived.Test.YtgiigemfbebcgaaGreatDoorT03
import Derived.Deep.MidRow
namespace Go.Proofs.YtgiigemfbebcgaaGreatDoor
open _root_.Go.Proofs.Tryz
open Go.RowKit
theorem Sl.block {X:Nat->Prop} {w:World} {e:TypeId} {b o n c:Nat} {xs:List Value} (h:Sl w X e (.slice (some ⟨b,o,none⟩) n c) n xs):∃ cur fz,w.heap[b]? = some (.cells cur e fz):=by
 rcases h with ⟨h,_⟩ | ⟨blk,o',c0,cur,fz,hv,hn,hc,hX,hh,hl,hr⟩
 ·cases h
 ·cases hv;exact ⟨cur,fz,hh⟩
theorem Mod.cell1 (w:World) (b i:Nat) (v:Value):Mod (fun p=>p=b) w (w.setCell ⟨b,i,none⟩ v):=Mod.setCell (S:=fun p=>p=b) (p:=⟨b,i,none⟩) (Mod.refl _ w) (fun _=>rfl) v
theorem Mod.no {S:Nat->Prop} {w w':World} (h:Mod No w w'):Mod S w w':=h.weaken (fun _ _ f=>f.elim)
theorem cells4 {w:World} {b:Nat} {v0 v1 v2 v3:Value} {e:TypeId} (h:w.heap[b]? = some (.cells #[v0,v1,v2,v3] e (0,0))) :
  (w.cell? ⟨b,0,none⟩=some v0/\w.cell? ⟨b,1,none⟩=some v1/\w.cell? ⟨b,2,none⟩=some v2/\w.cell? ⟨b,3,none⟩=some v3)/\w.frozen? ⟨b,0,none⟩=false/\w.frozen? ⟨b,1,none⟩=false/\w.frozen? ⟨b,2,none⟩=false/\w.frozen? ⟨b,3,none⟩=false :=
 ⟨⟨cell_ofA h rfl,cell_ofA h rfl,cell_ofA h rfl,cell_ofA h rfl⟩,frozen_of _ h,frozen_of _ h,frozen_of _ h,frozen_of _ h⟩
theorem set4 {w:World} {b:Nat} {u0 u1 u2 u3:Value} {e:TypeId} (h:w.heap[b]? = some (.cells #[u0,u1,u2,u3] e (0,0))) (v0 v1 v2 v3:Value) :
  ((((w.setCell ⟨b,0,none⟩ v0).setCell ⟨b,1,none⟩ v1).setCell ⟨b,2,none⟩ v2).setCell ⟨b,3,none⟩ v3).heap[b]? = some (.cells #[v0,v1,v2,v3] e (0,0)):=by
 rw [heap_setCell (heap_setCell (heap_setCell (heap_setCell h v0) v1) v2) v3]
 rfl
theorem Mod.set4 {S:Nat->Prop} {a w:World} {b:Nat} (h:Mod S a w) (hb:b < a.heap.size->S b) (v0 v1 v2 v3:Value) :
  Mod S a ((((w.setCell ⟨b,0,none⟩ v0).setCell ⟨b,1,none⟩ v1).setCell ⟨b,2,none⟩ v2).setCell ⟨b,3,none⟩ v3) :=
 (((h.setCell hb v0).setCell hb v1).setCell hb v2).setCell hb v3
set_option maxRecDepth 100000 in
theorem load_ver {w:World} {b:Nat} {v0 v1 v2 v3:Value} (h:w.heap[b]? = some (.cells #[v0,v1,v2,v3] 40 (0,0))) :
  (loadVar 40 ⟨b,0,none⟩).run prog w=.ok (.agg #[v0,v1,v2,v3]) w :=
 run_loadVar_row (P:=prog) w b 40 40 #[v0,v1,v2,v3] (0,0) _ h underlying40 rfl (by kernel_rfl)
theorem flat_length {α:Type} {f:α->List Value} {wd:Nat} (hf:∀ x,(f x).length=wd):∀ xs:List α,(xs.flatMap f).length=xs.length*wd
 | []=>by simp
 | x :: xs=>by
  rw [List.flatMap_cons,List.length_append,hf,flat_length hf xs,List.length_cons,Nat.succ_mul,Nat.add_comm]
theorem flat_get {α:Type} {f:α->List Value} {wd:Nat} (hf:∀ x,(f x).length=wd):∀ (xs:List α) {i:Nat} (hi:i < xs.length) {j:Nat} {u:Value},(f xs[i])[j]? = some u->(xs.flatMap f)[i*wd+j]? = some u
 | x :: xs,0,_,j,u,hj=>by
  have hj2:(f x)[j]? = some u:=hj
  have hlt:j < (f x).length:=(List.getElem?_eq_some_iff.1 hj2).1
  rw [List.flatMap_cons,Nat.zero_mul,Nat.zero_add,List.getElem?_append_left hlt,hj2]
 | x :: xs,i+1,hi,j,u,hj=>by
  have hj2:(f (xs[i]'(by simpa using hi)))[j]? = some u:=hj
  rw [List.flatMap_cons,List.getElem?_append_right (by rw [hf,Nat.succ_mul];omega),hf,show (i+1)*wd+j - wd=i*wd+j by rw [Nat.succ_mul];omega]
  exact flat_get hf xs (by simpa using hi) hj2
theorem Sl.at {α:Type} {f:α->List Value} {wd:Nat} {X:Nat->Prop} {w:World} {e:TypeId} {b o n c:Nat} {xs:List α} (hf:∀ x,(f x).length=wd) (h:Sl w X e (.slice (some ⟨b,o,none⟩) n c) n (xs.flatMap f)) {i:Nat} (hi:i < xs.length):w.rangeAt b (o+i*wd) (f xs[i]):=fun j u hj=>by
 have h1:=flat_get hf xs hi hj
 have h2:=Sl.cell h (List.getElem?_eq_some_iff.1 h1).1
 rw [Nat.add_assoc]
 rw [<- h1]
 exact h2
theorem rangeAt_part {w:World} {b o:Nat} {p q r:List Value} (h:w.rangeAt b o (p++q++r)):w.rangeAt b (o+p.length) q:=fun j u hj=>by
 have:=h (p.length+j) u (by
  rw [List.append_assoc,List.getElem?_append_right (by omega),show p.length+j - p.length=j by omega,List.getElem?_append_left (List.getElem?_eq_some_iff.1 hj).1,hj])
 rw [Nat.add_assoc]
 exact this
theorem Mod.rangeAt {S:Nat->Prop} {w w':World} (hm:Mod S w w') {b o:Nat} {cs:List Value} (h:w.rangeAt b o cs) (hs:¬ S b):w'.rangeAt b o cs:=fun j u hj=>hm.cell (h j u hj) hs
def Apart (ts:List TypeId) (S:Nat->Prop) (w:World):Prop:=∀ k cur fz e,S k->w.heap[k]? = some (.cells cur e fz)->e ∉ ts
theorem Apart.no (ts:List TypeId) (w:World):Apart ts No w:=fun _ _ _ _ f=>f.elim
theorem Apart.less {ts us:List TypeId} {S:Nat->Prop} {w:World} (h:Apart ts S w) (hs:∀ e ∈ us,e ∈ ts):Apart us S w:=fun k cur fz e hk hc he=>h k cur fz e hk hc (hs e he)
theorem Sl.apart {S:Nat->Prop} {w w':World} {e:TypeId} {v:Value} {n:Nat} {xs:List Value} (h:Sl w No e v n xs) (hm:Mod S w w') (ha:Apart [e] S w):Sl w' No e v n xs :=
 h.keep hm fun k cur fz hk _ hc=>ha k cur fz e hk hc (by simp)
abbrev SsAt (w:World) (v:Value) (l:List (List UInt8)):Prop:=Sl w No 9 v l.length (strs l)
abbrev verCs (v:Ver) (pv:Value):List Value:=[.int .i64 v.ma,.int .i64 v.mi,.int .i64 v.pa,pv]
structure BndX where
 b:Bnd
 pv:Value
def BndX.cells (x:BndX):List Value:=strV x.b.sign :: verCs x.b.v x.pv
theorem BndX.cells_length (x:BndX):x.cells.length=5:=rfl
def BndsX (X:Nat->Prop) (w:World) (v:Value) (l:List Bnd):Prop:=∃ xs:List BndX,xs.map BndX.b=l/\(∀ x ∈ xs,Sl w X 9 x.pv x.b.v.pre.length (strs x.b.v.pre))/\Sl w X 153 v l.length (xs.flatMap BndX.cells)
abbrev BndsAt (w:World) (v:Value) (l:List Bnd):Prop:=BndsX No w v l
theorem BndsX.shrink {X Y:Nat->Prop} {w:World} {v:Value} {l:List Bnd} (h:BndsX X w v l) (hy:∀ k,k < w.heap.size->Y k->X k):BndsX Y w v l:=by
 obtain ⟨xs,h1,h2,h3⟩:=h
 exact ⟨xs,h1,fun x hx=>(h2 x hx).shrink hy,h3.shrink hy⟩
theorem BndsX.no {X:Nat->Prop} {w:World} {v:Value} {l:List Bnd} (h:BndsX X w v l):BndsAt w v l:=h.shrink (fun _ _ f=>f.elim)
theorem BndsX.keepX {X S:Nat->Prop} {w w':World} {v:Value} {l:List Bnd} (h:BndsX X w v l) (hm:Mod S w w') (hs:∀ k cur fz e,S k->¬ X k->w.heap[k]? ≠ some (.cells cur e fz)):BndsX X w' v l:=by
 obtain ⟨xs,h1,h2,h3⟩:=h
 exact ⟨xs,h1,fun x hx=>(h2 x hx).keep hm (fun k cur fz a b=>hs k cur fz _ a b),h3.keep hm (fun k cur fz a b=>hs k cur fz _ a b)⟩
theorem BndsAt.keep {S:Nat->Prop} {w w':World} {v:Value} {l:List Bnd} (h:BndsAt w v l) (hm:Mod S w w') (ha:Apart [9,153] S w):BndsAt w' v l:=by
 obtain ⟨xs,h1,h2,h3⟩:=h
 exact ⟨xs,h1,fun x hx=>(h2 x hx).apart hm (ha.less (by simp)),h3.apart hm (ha.less (by simp))⟩
theorem sl_new (w:World) (e:TypeId) (xs:List Value) {n c:Nat} (hn:n<=c) (hc:c<=maxLen):Sl (w.alloc (.cells xs.toArray e)) No e (.slice (some ⟨w.heap.size,0,none⟩) n c) n xs :=
 .inr ⟨w.heap.size,0,c,_,(0,0),rfl,hn,hc,fun f=>f,heap_alloc_new w _,by simp,fun i hi=>by simp⟩
theorem ss_alloc {w:World} {v:Value} {l:List (List UInt8)} (h:SsAt w v l) (o:Obj):SsAt (w.alloc o) v l:=Sl.keep (S:=No) h ((Mod.refl No w).alloc _) (fun _ _ _ f=>f.elim)
theorem bndsX_new {X:Nat->Prop} (w:World) (xs:List BndX) (h:∀ x ∈ xs,Sl w X 9 x.pv x.b.v.pre.length (strs x.b.v.pre)) (hn:xs.length<=maxLen) (hx:¬ X w.heap.size) :
  BndsX X (w.alloc (.cells (xs.flatMap BndX.cells).toArray 153)) (.slice (some ⟨w.heap.size,0,none⟩) xs.length xs.length) (xs.map BndX.b) :=
 ⟨xs,rfl,fun x hx=>Sl.keep (S:=No) (h x hx) ((Mod.refl No w).alloc _) (fun _ _ _ f=>f.elim),by
  rw [List.length_map]
  exact .inr ⟨w.heap.size,0,_,_,(0,0),rfl,Nat.le_refl _,hn,hx,heap_alloc_new w _,by simp,fun i hi=>by simp⟩⟩
theorem bnds_new (w:World) (xs:List BndX) (h:∀ x ∈ xs,SsAt w x.pv x.b.v.pre) (hn:xs.length<=maxLen) :
  BndsAt (w.alloc (.cells (xs.flatMap BndX.cells).toArray 153)) (.slice (some ⟨w.heap.size,0,none⟩) xs.length xs.length) (xs.map BndX.b) :=
 ⟨xs,rfl,fun x hx=>ss_alloc (h x hx) _,by rw [List.length_map];exact sl_new w _ _ (Nat.le_refl _) hn⟩
structure OrX where
 l:List Bnd
 v:Value
def OrsAt (w:World) (v:Value) (l:List (List Bnd)):Prop:=∃ xs:List OrX,xs.map OrX.l=l/\(∀ x ∈ xs,BndsAt w x.v x.l)/\Sl w No 126 v l.length (xs.map OrX.v)
theorem OrsAt.keep {S:Nat->Prop} {w w':World} {v:Value} {l:List (List Bnd)} (h:OrsAt w v l) (hm:Mod S w w') (ha:Apart [9,153,126] S w):OrsAt w' v l:=by
 obtain ⟨xs,h1,h2,h3⟩:=h
 exact ⟨xs,h1,fun x hx=>(h2 x hx).keep hm (ha.less (by simp)),h3.apart hm (ha.less (by simp))⟩
structure NdX where
 n:Nd
 ov:Value
def NdX.cells (x:NdX):List Value:=[strV x.n.name,.bool x.n.span.any,x.ov,strV x.n.text]
theorem NdX.cells_length (x:NdX):x.cells.length=4:=rfl
def NdsAt (w:World) (v:Value) (l:List Nd):Prop:=∃ xs:List NdX,xs.map NdX.n=l/\(∀ x ∈ xs,OrsAt w x.ov x.n.span.ors)/\Sl w No 81 v l.length (xs.flatMap NdX.cells)
theorem NdsAt.keep {S:Nat->Prop} {w w':World} {v:Value} {l:List Nd} (h:NdsAt w v l) (hm:Mod S w w') (ha:Apart [9,153,126,81] S w):NdsAt w' v l:=by
 obtain ⟨xs,h1,h2,h3⟩:=h
 exact ⟨xs,h1,fun x hx=>(h2 x hx).keep hm (ha.less (by simp)),h3.apart hm (ha.less (by simp))⟩
structure RwX where
 r:Rw
 pv:Value
 nv:Value
def RwX.cells (x:RwX):List Value:=strV x.r.name :: (verCs x.r.v x.pv++(bv x.r.sum++[.int .i64 x.r.size,x.nv]))
theorem RwX.cells_length (x:RwX) (h:x.r.sum.length=32):x.cells.length=39:=by simp [RwX.cells,h]
theorem flat_getM {α:Type} {f:α->List Value} {wd:Nat}:∀ (xs:List α) (_:∀ x ∈ xs,(f x).length=wd) {i:Nat} (hi:i < xs.length) {j:Nat} {u:Value},(f xs[i])[j]? = some u->(xs.flatMap f)[i*wd+j]? = some u
 | x :: xs,hf,0,_,j,u,hj=>by
  have hj2:(f x)[j]? = some u:=hj
  have hlt:j < (f x).length:=(List.getElem?_eq_some_iff.1 hj2).1
  rw [List.flatMap_cons,Nat.zero_mul,Nat.zero_add,List.getElem?_append_left hlt,hj2]
 | x :: xs,hf,i+1,hi,j,u,hj=>by
  have hj2:(f (xs[i]'(by simpa using hi)))[j]? = some u:=hj
  have h1:=hf x (by simp)
  rw [List.flatMap_cons,List.getElem?_append_right (by rw [h1,Nat.succ_mul];omega),h1,show (i+1)*wd+j - wd=i*wd+j by rw [Nat.succ_mul];omega]
  exact flat_getM xs (fun y hy=>hf y (by simp [hy])) (by simpa using hi) hj2
theorem Sl.atM {α:Type} {f:α->List Value} {wd:Nat} {X:Nat->Prop} {w:World} {e:TypeId} {b o n c:Nat} {xs:List α} (hf:∀ x ∈ xs,(f x).length=wd) (h:Sl w X e (.slice (some ⟨b,o,none⟩) n c) n (xs.flatMap f)) {i:Nat} (hi:i < xs.length):w.rangeAt b (o+i*wd) (f xs[i]):=fun j u hj=>by
 have h1:=flat_getM xs hf hi hj
 have h2:=Sl.cell h (List.getElem?_eq_some_iff.1 h1).1
 rw [Nat.add_assoc]
 rw [<- h1]
 exact h2
theorem flat_takeM {α:Type} {f:α->List Value} {wd:Nat} {L:List α} (hf:∀ x ∈ L,(f x).length=wd) (k:Nat):(L.take k).flatMap f=(L.flatMap f).take (k*wd):=by
 induction L generalizing k with
 | nil=>simp
 | cons x L ih =>
  cases k with
  | zero=>simp
  | succ k =>
   have h1:=hf x (by simp)
   rw [List.take_succ_cons,List.flatMap_cons,List.flatMap_cons,ih (fun y hy=>hf y (by simp [hy])),Nat.succ_mul,List.take_append,h1,Nat.add_sub_cancel,List.take_of_length_le (l:=f x) (by rw [h1];omega)]
theorem flat_dropM {α:Type} {f:α->List Value} {wd:Nat} {L:List α} (hf:∀ x ∈ L,(f x).length=wd) (k:Nat):(L.drop k).flatMap f=(L.flatMap f).drop (k*wd):=by
 induction L generalizing k with
 | nil=>simp
 | cons x L ih =>
  cases k with
  | zero=>simp
  | succ k =>
   have h1:=hf x (by simp)
   rw [List.drop_succ_cons,List.flatMap_cons,ih (fun y hy=>hf y (by simp [hy])),Nat.succ_mul,List.drop_append,h1,Nat.add_sub_cancel,List.drop_of_length_le (l:=f x) (by rw [h1];omega),List.nil_append]
structure VerOk (v:Ver):Prop where
 ma:0<=v.ma/\v.ma<=999999999
 mi:0<=v.mi/\v.mi<=999999999
 pa:0<=v.pa/\v.pa<=999999999
theorem wrap_small {x:Int} (h:0<=x/\x<=1000000000):wrap64 x=x:=by
 unfold wrap64
 omega
theorem refmore_any (x:Int) (hx:0<=x/\x<=999999999) (w:World):Calls prog 134 #[.int .i64 x] w fun e w'=>e=.returned (.int .i64 (if x < 999999999 then x+1 else x))/\w'=w:=by
 refine calls_hide fun R hR=>?_
 have hw:=wrap_small (x:=x+1) (by omega)
 go_enter func134,ntmps134
 by_cases h:x < 999999999
 ·have h2:¬ (999999999:Int)<=x:=by omega
  go_wp2_with fail
  exact fin hR ⟨(by rw [if_pos (by omega)];try rfl),rfl⟩
 ·have h2:(999999999:Int)<=x:=by omega
  go_wp2_with fail
  exact fin hR ⟨(by rw [if_neg (by omega)];try rfl),rfl⟩
set_option maxRecDepth 100000 in
set_option maxHeartbeats 4000000 in
theorem refnext_any (v:Ver) (pv:Value) (p:Nat) (hp:p < 3) (hv:VerOk v) (w:World) :
  Calls prog 102 #[verV v pv,.int .i64 (p:Int)] w fun e w'=>e=.returned (verV (nextV v p) (.slice none 0 0))/\Mod No w w':=by
 refine calls_hide fun R hR=>?_
 obtain ⟨a,b,c,pre⟩:=v
 obtain ⟨⟨ha0,ha1⟩,⟨hb0,hb1⟩,⟨hc0,hc1⟩⟩:=hv
 dsimp only at ha0 ha1 hb0 hb1 hc0 hc1
 have hwa:=wrap_small (x:=a+1) (by omega)
 have hwb:=wrap_small (x:=b+1) (by omega)
 have HMORE:=zh (refmore_any c ⟨hc0,hc1⟩)
 have HNX:=zh (show nextV ⟨a,b,c,pre⟩ p=if p=0 then (if a < 999999999 then ⟨a+1,0,0,[]⟩ else ⟨a,b,c,[]⟩) else if p=1 then (if b < 999999999 then ⟨a,b+1,0,[]⟩ else ⟨a,b,c,[]⟩) else (if c < 999999999 then ⟨a,b,c+1,[]⟩ else ⟨a,b,c,[]⟩) from rfl)
 unfold verV at *
 dsimp only at *
 go_enter func102,ntmps102
 go_upto_region 1 with fail
 obtain ⟨gx,hgx⟩:∃ g,g=w.heap.size:=⟨_,rfl⟩
 obtain ⟨gy,hgy⟩:∃ g,g=gx+1:=⟨_,rfl⟩
 rw [<- hgx,<- hgy]
 obtain ⟨wA,hwA⟩:∃ z,z=(w.alloc (.cells #[.int .i64 a,.int .i64 b,.int .i64 c,pv] 40)).alloc (.cells #[.int .i64 0,.int .i64 0,.int .i64 0,.slice none 0 0] 40):=⟨_,rfl⟩
 have hx1:wA.heap[gx]? = some (.cells #[.int .i64 a,.int .i64 b,.int .i64 c,pv] 40 (0,0)):=by rw [hwA,hgx];exact heap_alloc_old _ (heap_alloc_new w _)
 have hy1:wA.heap[gy]? = some (.cells #[.int .i64 0,.int .i64 0,.int .i64 0,.slice none 0 0] 40 (0,0)):=by
  rw [hwA,hgy,hgx]
  have h1:=heap_alloc_new (w.alloc (.cells #[.int .i64 a,.int .i64 b,.int .i64 c,pv] 40)) (.cells #[.int .i64 0,.int .i64 0,.int .i64 0,.slice none 0 0] 40)
  rw [show (w.alloc (.cells #[.int .i64 a,.int .i64 b,.int .i64 c,pv] 40)).heap.size=w.heap.size+1 by simp] at h1
  exact h1
 have HMA:=zh (show Mod No w wA by rw [hwA];exact ((Mod.refl No w).alloc _).alloc _)
 have HGX:=zh (show w.heap.size<=gx by omega)
 have HGY:=zh (show gx < gy by omega)
 rw [<- hwA]
 have HX1:=zh hx1
 have HY1:=zh hy1
 obtain ⟨⟨a0,a1,a2,a3⟩,f0,f1,f2,f3⟩:=cells4 hx1
 clear hwA hgx hgy hx1 hy1
 go_upto_region 2 with fail
 clear a0 a1 a2 a3 f0 f1 f2 f3
 have HX2:=zh (show (wA.setCell ⟨gx,3,none⟩ (.slice none 0 0)).heap[gx]? = some (.cells #[.int .i64 a,.int .i64 b,.int .i64 c,.slice none 0 0] 40 (0,0)) by rw [heap_setCell HX1.out];rfl)
 have HY2:=zh (show (wA.setCell ⟨gx,3,none⟩ (.slice none 0 0)).heap[gy]? = some (.cells #[.int .i64 0,.int .i64 0,.int .i64 0,.slice none 0 0] 40 (0,0)) by rw [heap_setCell_ne _ (by have:=HGY.out;dsimp only;omega)];exact HY1.out)
 have HM2:=zh (show Mod No w (wA.setCell ⟨gx,3,none⟩ (.slice none 0 0)) from HMA.out.setCell (fun h=>by have:=HGX.out;dsimp only at h;omega) _)
 generalize wA.setCell ⟨gx,3,none⟩ (.slice none 0 0)=wB at *
 clear HX1 HY1 HMA
 obtain ⟨⟨c0,c1,c2,c3⟩,f0,f1,f2,f3⟩:=cells4 HX2.out
 obtain ⟨⟨d0,d1,d2,d3⟩,g0,g1,g2,g3⟩:=cells4 HY2.out
 match p,hp with
 | 0,_ =>
  have hnx:=HNX.out
  rw [if_pos rfl] at hnx
  by_cases h:a < 999999999
  ·rw [if_pos h] at hnx
   have HN:=zh hnx
   clear hnx HNX
   go_wp2_with fail
   have hl:=load_ver (set4 HY2.out (.int .i64 (a+1)) (.int .i64 0) (.int .i64 0) (.slice none 0 0))
   have HMz:=zh (HM2.out.set4 (b:=gy) (fun h=>by have:=HGX.out;have:=HGY.out;omega) (.int .i64 (a+1)) (.int .i64 0) (.int .i64 0) (.slice none 0 0))
   exact bodyPost_ret (v:=.agg #[.int .i64 (a+1),.int .i64 0,.int .i64 0,.slice none 0 0]) (by simp [results,results102,asAddr,hl]) rfl (fin hR ⟨by rw [HN.out],HMz.out⟩)
  ·rw [if_neg h] at hnx
   have HN:=zh hnx
   clear hnx HNX
   go_wp2_with fail
   have hl:=load_ver (set4 HY2.out (.int .i64 a) (.int .i64 b) (.int .i64 c) (.slice none 0 0))
   have HMz:=zh (HM2.out.set4 (b:=gy) (fun h=>by have:=HGX.out;have:=HGY.out;omega) (.int .i64 a) (.int .i64 b) (.int .i64 c) (.slice none 0 0))
   exact bodyPost_ret (v:=.agg #[.int .i64 a,.int .i64 b,.int .i64 c,.slice none 0 0]) (by simp [results,results102,asAddr,hl]) rfl (fin hR ⟨by rw [HN.out],HMz.out⟩)
 | 1,_ =>
  have hnx:=HNX.out
  rw [if_neg (by decide),if_pos rfl] at hnx
  by_cases h:b < 999999999
  ·rw [if_pos h] at hnx
   have HN:=zh hnx
   clear hnx HNX
   go_wp2_with fail
   have hl:=load_ver (set4 HY2.out (.int .i64 a) (.int .i64 (b+1)) (.int .i64 0) (.slice none 0 0))
   have HMz:=zh (HM2.out.set4 (b:=gy) (fun h=>by have:=HGX.out;have:=HGY.out;omega) (.int .i64 a) (.int .i64 (b+1)) (.int .i64 0) (.slice none 0 0))
   exact bodyPost_ret (v:=.agg #[.int .i64 a,.int .i64 (b+1),.int .i64 0,.slice none 0 0]) (by simp [results,results102,asAddr,hl]) rfl (fin hR ⟨by rw [HN.out],HMz.out⟩)
  ·rw [if_neg h] at hnx
   have HN:=zh hnx
   clear hnx HNX
   go_wp2_with fail
   have hl:=load_ver (set4 HY2.out (.int .i64 a) (.int .i64 b) (.int .i64 c) (.slice none 0 0))
   have HMz:=zh (HM2.out.set4 (b:=gy) (fun h=>by have:=HGX.out;have:=HGY.out;omega) (.int .i64 a) (.int .i64 b) (.int .i64 c) (.slice none 0 0))
   exact bodyPost_ret (v:=.agg #[.int .i64 a,.int .i64 b,.int .i64 c,.slice none 0 0]) (by simp [results,results102,asAddr,hl]) rfl (fin hR ⟨by rw [HN.out],HMz.out⟩)
 | 2,_ =>
  have HN:=zh (show nextV ⟨a,b,c,pre⟩ 2=⟨a,b,if c < 999999999 then c+1 else c,[]⟩ by
   have:=HNX.out
   rw [if_neg (by decide),if_neg (by decide)] at this
   rw [this]
   split <;> rfl)
  clear HNX
  go_wp2_with fail
  with_reducible refine (HMORE.out _).mono ?_
  rintro e wE ⟨rfl,hE⟩
  rw [hE]
  clear hE wE
  generalize (if c < 999999999 then c+1 else c)=r at *
  go_upto_region 11 with fail
  have HX3:=zh (show (wB.setCell ⟨gx,2,none⟩ (.int .i64 r)).heap[gx]? = some (.cells #[.int .i64 a,.int .i64 b,.int .i64 r,.slice none 0 0] 40 (0,0)) by rw [heap_setCell HX2.out];rfl)
  have HY3:=zh (show (wB.setCell ⟨gx,2,none⟩ (.int .i64 r)).heap[gy]? = some (.cells #[.int .i64 0,.int .i64 0,.int .i64 0,.slice none 0 0] 40 (0,0)) by rw [heap_setCell_ne _ (by have:=HGY.out;dsimp only;omega)];exact HY2.out)
  have HM3:=zh (show Mod No w (wB.setCell ⟨gx,2,none⟩ (.int .i64 r)) from HM2.out.setCell (fun h=>by have:=HGX.out;dsimp only at h;omega) _)
  generalize wB.setCell ⟨gx,2,none⟩ (.int .i64 r)=wC at *
  clear c0 c1 c2 c3 d0 d1 d2 d3 f0 f1 f2 f3 g0 g1 g2 g3 HX2 HY2 HM2
  obtain ⟨⟨c0,c1,c2,c3⟩,-⟩:=cells4 HX3.out
  obtain ⟨⟨d0,d1,d2,d3⟩,g0,g1,g2,g3⟩:=cells4 HY3.out
  go_wp2_with fail
  have hl:=load_ver (set4 HY3.out (.int .i64 a) (.int .i64 b) (.int .i64 r) (.slice none 0 0))
  have HMz:=zh (HM3.out.set4 (b:=gy) (fun h=>by have:=HGX.out;have:=HGY.out;omega) (.int .i64 a) (.int .i64 b) (.int .i64 r) (.slice none 0 0))
  exact bodyPost_ret (v:=.agg #[.int .i64 a,.int .i64 b,.int .i64 r,.slice none 0 0]) (by simp [results,results102,asAddr,hl]) rfl (fin hR ⟨by rw [HN.out],HMz.out⟩)
structure N3 (w0 w:World) (gx gy gz:Nat) (x0 x1 x2:Value):Prop where
 hx:w.heap[gx]? = some (.cells #[x0,x1,x2,.slice none 0 0] 40 (0,0))
 hy:w.heap[gy]? = some (.cells #[.int .i64 0,.int .i64 0,.int .i64 0,.slice none 0 0] 40 (0,0))
 hz:w.heap[gz]? = some (.cells #[.pointer (some ⟨gx,0,none⟩),.pointer (some ⟨gx,1,none⟩),.pointer (some ⟨gx,2,none⟩)] 200 (0,0))
 hm:Mod No w0 w
 lt:w0.heap.size<=gx/\gx < gy/\gy < gz
theorem N3.set {w0 w:World} {gx gy gz:Nat} {x0 x1 x2:Value} (h:N3 w0 w gx gy gz x0 x1 x2) (i:Nat) (v:Value) {y0 y1 y2:Value} (hs:(#[x0,x1,x2,.slice none 0 0]:Array Value).setIfInBounds i v=#[y0,y1,y2,.slice none 0 0]):N3 w0 (w.setCell ⟨gx,i,none⟩ v) gx gy gz y0 y1 y2:=by
 obtain ⟨h1,h2,h3⟩:=h.lt
 refine ⟨?_,?_,?_,h.hm.setCell (fun h=>by dsimp only at h;omega) _,h.lt⟩
 ·rw [heap_setCell h.hx,hs]
 ·rw [heap_setCell_ne _ (by dsimp only;omega)];exact h.hy
 ·rw [heap_setCell_ne _ (by dsimp only;omega)];exact h.hz
theorem N3.cells {w0 w:World} {gx gy gz:Nat} {x0 x1 x2:Value} (h:N3 w0 w gx gy gz x0 x1 x2) :
  (w.cell? ⟨gx,0,none⟩=some x0/\w.cell? ⟨gx,1,none⟩=some x1/\w.cell? ⟨gx,2,none⟩=some x2/\w.cell? ⟨gx,3,none⟩=some (.slice none 0 0)) ∧
  (w.frozen? ⟨gx,0,none⟩=false/\w.frozen? ⟨gx,1,none⟩=false/\w.frozen? ⟨gx,2,none⟩=false) ∧
  (w.cell? ⟨gz,0,none⟩=some (.pointer (some ⟨gx,0,none⟩))/\w.cell? ⟨gz,1,none⟩=some (.pointer (some ⟨gx,1,none⟩))/\w.cell? ⟨gz,2,none⟩=some (.pointer (some ⟨gx,2,none⟩))) :=
 ⟨⟨cell_ofA h.hx rfl,cell_ofA h.hx rfl,cell_ofA h.hx rfl,cell_ofA h.hx rfl⟩,⟨frozen_of _ h.hx,frozen_of _ h.hx,frozen_of _ h.hx⟩,cell_ofA h.hz rfl,cell_ofA h.hz rfl,cell_ofA h.hz rfl⟩
set_option maxRecDepth 100000 in
set_option maxHeartbeats 8000000 in
theorem next_any (v:Ver) (pv:Value) (p:Nat) (hp:p < 3) (hv:VerOk v) (w:World) :
  Calls prog 185 #[verV v pv,.int .i64 (p:Int)] w fun e w'=>e=.returned (verV (nextV v p) (.slice none 0 0))/\Mod No w w':=by
 refine calls_hide fun R hR=>?_
 obtain ⟨a,b,c,pre⟩:=v
 obtain ⟨⟨ha0,ha1⟩,⟨hb0,hb1⟩,⟨hc0,hc1⟩⟩:=hv
 dsimp only at ha0 ha1 hb0 hb1 hc0 hc1
 have hwa:=wrap_small (x:=a+1) (by omega)
 have hwb:=wrap_small (x:=b+1) (by omega)
 have hwc:=wrap_small (x:=c+1) (by omega)
 have HNX:=zh (show nextV ⟨a,b,c,pre⟩ p=if p=0 then (if a < 999999999 then ⟨a+1,0,0,[]⟩ else ⟨a,b,c,[]⟩) else if p=1 then (if b < 999999999 then ⟨a,b+1,0,[]⟩ else ⟨a,b,c,[]⟩) else (if c < 999999999 then ⟨a,b,c+1,[]⟩ else ⟨a,b,c,[]⟩) from rfl)
 unfold verV at *
 dsimp only at *
 go_enter func185,ntmps185
 go_upto_region 1 with fail
 obtain ⟨gx,hgx⟩:∃ g,g=w.heap.size:=⟨_,rfl⟩
 obtain ⟨gy,hgy⟩:∃ g,g=gx+1:=⟨_,rfl⟩
 rw [<- hgx,<- hgy]
 obtain ⟨wA,hwA⟩:∃ z,z=(w.alloc (.cells #[.int .i64 a,.int .i64 b,.int .i64 c,pv] 40)).alloc (.cells #[.int .i64 0,.int .i64 0,.int .i64 0,.slice none 0 0] 40):=⟨_,rfl⟩
 have hx1:wA.heap[gx]? = some (.cells #[.int .i64 a,.int .i64 b,.int .i64 c,pv] 40 (0,0)):=by rw [hwA,hgx];exact heap_alloc_old _ (heap_alloc_new w _)
 have hy1:wA.heap[gy]? = some (.cells #[.int .i64 0,.int .i64 0,.int .i64 0,.slice none 0 0] 40 (0,0)):=by
  rw [hwA,hgy,hgx]
  have h1:=heap_alloc_new (w.alloc (.cells #[.int .i64 a,.int .i64 b,.int .i64 c,pv] 40)) (.cells #[.int .i64 0,.int .i64 0,.int .i64 0,.slice none 0 0] 40)
  rw [show (w.alloc (.cells #[.int .i64 a,.int .i64 b,.int .i64 c,pv] 40)).heap.size=w.heap.size+1 by simp] at h1
  exact h1
 have HMA:=zh (show Mod No w wA by rw [hwA];exact ((Mod.refl No w).alloc _).alloc _)
 have HGX:=zh (show w.heap.size<=gx by omega)
 have HGY:=zh (show gx < gy by omega)
 rw [<- hwA]
 have HX1:=zh hx1
 have HY1:=zh hy1
 obtain ⟨⟨a0,a1,a2,a3⟩,f0,f1,f2,f3⟩:=cells4 hx1
 clear hwA hgx hgy hx1 hy1
 go_upto_region 2 with fail
 clear a0 a1 a2 a3 f0 f1 f2 f3
 have HX2:=zh (show (wA.setCell ⟨gx,3,none⟩ (.slice none 0 0)).heap[gx]? = some (.cells #[.int .i64 a,.int .i64 b,.int .i64 c,.slice none 0 0] 40 (0,0)) by rw [heap_setCell HX1.out];rfl)
 have HY2:=zh (show (wA.setCell ⟨gx,3,none⟩ (.slice none 0 0)).heap[gy]? = some (.cells #[.int .i64 0,.int .i64 0,.int .i64 0,.slice none 0 0] 40 (0,0)) by rw [heap_setCell_ne _ (by have:=HGY.out;dsimp only;omega)];exact HY1.out)
 have HM2:=zh (show Mod No w (wA.setCell ⟨gx,3,none⟩ (.slice none 0 0)) from HMA.out.setCell (fun h=>by have:=HGX.out;dsimp only at h;omega) _)
 generalize wA.setCell ⟨gx,3,none⟩ (.slice none 0 0)=wB at *
 clear HX1 HY1 HMA
 go_upto_region 3 with fail
 obtain ⟨gz,hgz⟩:∃ g,g=wB.heap.size:=⟨_,rfl⟩
 rw [<- hgz]
 have HN3:=zh (show N3 w (wB.alloc (.cells #[.pointer (some ⟨gx,0,none⟩),.pointer (some ⟨gx,1,none⟩),.pointer (some ⟨gx,2,none⟩)] 200)) gx gy gz (.int .i64 a) (.int .i64 b) (.int .i64 c) from
  ⟨heap_alloc_old _ HX2.out,heap_alloc_old _ HY2.out,by rw [hgz];exact heap_alloc_new wB _,HM2.out.alloc _,HGX.out,HGY.out,by rw [hgz];exact lt_of_heap HY2.out⟩)
 generalize wB.alloc _=wC at *
 clear HX2 HY2 HM2 hgz
 match p,hp with
 | 0,_ =>
  have hnx:=HNX.out
  rw [if_pos rfl] at hnx
  clear HNX
  obtain ⟨⟨c0,c1,c2,c3⟩,⟨f0,f1,f2⟩,z0,z1,z2⟩:=HN3.out.cells
  by_cases h:a < 999999999
  ·rw [if_pos h] at hnx
   have h':¬ (999999999:Int)<=a:=by omega
   have HN:=zh hnx
   clear hnx
   go_upto_region 8 with fail
   have HD3:=zh (HN3.out.set 0 (.int .i64 (a+1)) (y0:=.int .i64 (a+1)) (y1:=.int .i64 b) (y2:=.int .i64 c) rfl)
   generalize wC.setCell ⟨gx,0,none⟩ (.int .i64 (a+1))=wD at *
   clear HN3 c0 c1 c2 c3 f0 f1 f2 z0 z1 z2 h h'
   go_wp2_with fail
   go_loopw [40] (fun q wr=>(q=.int .i64 0/\N3 w wr gx gy gz (.int .i64 (a+1)) (.int .i64 b) (.int .i64 c))\/(q=.int .i64 1/\N3 w wr gx gy gz (.int .i64 (a+1)) (.int .i64 0) (.int .i64 c))\/(q=.int .i64 2/\N3 w wr gx gy gz (.int .i64 (a+1)) (.int .i64 0) (.int .i64 0))) (fun q _=>2 - (intOf q).toNat)
   case atStart=>exact .inl ⟨rfl,HD3.out⟩
   case round =>
    rcases hrel with ⟨rfl,hj⟩ | ⟨rfl,hj⟩ | ⟨rfl,hj⟩
    ·obtain ⟨⟨c0,c1,c2,c3⟩,⟨f0,f1,f2⟩,z0,z1,z2⟩:=hj.cells
     have HJ:=zh (hj.set 1 (.int .i64 0) (y0:=.int .i64 (a+1)) (y1:=.int .i64 0) (y2:=.int .i64 c) rfl)
     clear hj
     go_wp2_with fail
     exact ⟨.inr (.inl ⟨rfl,HJ.out⟩),by show 2 - ((0:Int)+1).toNat < 2 - (0:Int).toNat;decide⟩
    ·obtain ⟨⟨c0,c1,c2,c3⟩,⟨f0,f1,f2⟩,z0,z1,z2⟩:=hj.cells
     have HJ:=zh (hj.set 2 (.int .i64 0) (y0:=.int .i64 (a+1)) (y1:=.int .i64 0) (y2:=.int .i64 0) rfl)
     clear hj
     go_wp2_with fail
     exact ⟨.inr (.inr (⟨rfl,HJ.out⟩)),by show 2 - ((1:Int)+1).toNat < 2 - (1:Int).toNat;decide⟩
    ·have HE3:=zh hj
     clear hj
     obtain ⟨⟨c0,c1,c2,c3⟩,-,-⟩:=HE3.out.cells
     obtain ⟨⟨d0,d1,d2,d3⟩,g0,g1,g2,g3⟩:=cells4 HE3.out.hy
     go_wp2_with fail
     have hl:=load_ver (set4 HE3.out.hy (.int .i64 (a+1)) (.int .i64 0) (.int .i64 0) (.slice none 0 0))
     have HMz:=zh (HE3.out.hm.set4 (b:=gy) (fun h=>by have:=HE3.out.lt;omega) (.int .i64 (a+1)) (.int .i64 0) (.int .i64 0) (.slice none 0 0))
     exact bodyPost_ret (v:=.agg #[.int .i64 (a+1),.int .i64 0,.int .i64 0,.slice none 0 0]) (by simp [results,results185,asAddr,hl]) rfl (fin hR ⟨by rw [HN.out],HMz.out⟩)
  ·rw [if_neg h] at hnx
   have h':(999999999:Int)<=a:=by omega
   have HN:=zh hnx
   have HE3:=HN3
   clear hnx HN3 c0 c1 c2 c3 f0 f1 f2
   obtain ⟨⟨c0,c1,c2,c3⟩,-,-⟩:=HE3.out.cells
   obtain ⟨⟨d0,d1,d2,d3⟩,g0,g1,g2,g3⟩:=cells4 HE3.out.hy
   go_wp2_with fail
   have hl:=load_ver (set4 HE3.out.hy (.int .i64 a) (.int .i64 b) (.int .i64 c) (.slice none 0 0))
   have HMz:=zh (HE3.out.hm.set4 (b:=gy) (fun h=>by have:=HE3.out.lt;omega) (.int .i64 a) (.int .i64 b) (.int .i64 c) (.slice none 0 0))
   exact bodyPost_ret (v:=.agg #[.int .i64 a,.int .i64 b,.int .i64 c,.slice none 0 0]) (by simp [results,results185,asAddr,hl]) rfl (fin hR ⟨by rw [HN.out],HMz.out⟩)
 | 1,_ =>
  have hnx:=HNX.out
  rw [if_neg (by decide),if_pos rfl] at hnx
  clear HNX
  obtain ⟨⟨c0,c1,c2,c3⟩,⟨f0,f1,f2⟩,z0,z1,z2⟩:=HN3.out.cells
  by_cases h:b < 999999999
  ·rw [if_pos h] at hnx
   have h':¬ (999999999:Int)<=b:=by omega
   have HN:=zh hnx
   clear hnx
   go_upto_region 8 with fail
   have HD3:=zh (HN3.out.set 1 (.int .i64 (b+1)) (y0:=.int .i64 a) (y1:=.int .i64 (b+1)) (y2:=.int .i64 c) rfl)
   generalize wC.setCell ⟨gx,1,none⟩ (.int .i64 (b+1))=wD at *
   clear HN3 c0 c1 c2 c3 f0 f1 f2 z0 z1 z2 h h'
   go_wp2_with fail
   go_loopw [40] (fun q wr=>(q=.int .i64 0/\N3 w wr gx gy gz (.int .i64 a) (.int .i64 (b+1)) (.int .i64 c))\/(q=.int .i64 1/\N3 w wr gx gy gz (.int .i64 a) (.int .i64 (b+1)) (.int .i64 0))) (fun q _=>1 - (intOf q).toNat)
   case atStart=>exact .inl ⟨rfl,HD3.out⟩
   case round =>
    rcases hrel with ⟨rfl,hj⟩ | ⟨rfl,hj⟩
    ·obtain ⟨⟨c0,c1,c2,c3⟩,⟨f0,f1,f2⟩,z0,z1,z2⟩:=hj.cells
     have HJ:=zh (hj.set 2 (.int .i64 0) (y0:=.int .i64 a) (y1:=.int .i64 (b+1)) (y2:=.int .i64 0) rfl)
     clear hj
     go_wp2_with fail
     exact ⟨.inr (⟨rfl,HJ.out⟩),by show 1 - ((0:Int)+1).toNat < 1 - (0:Int).toNat;decide⟩
    ·have HE3:=zh hj
     clear hj
     obtain ⟨⟨c0,c1,c2,c3⟩,-,-⟩:=HE3.out.cells
     obtain ⟨⟨d0,d1,d2,d3⟩,g0,g1,g2,g3⟩:=cells4 HE3.out.hy
     go_wp2_with fail
     have hl:=load_ver (set4 HE3.out.hy (.int .i64 a) (.int .i64 (b+1)) (.int .i64 0) (.slice none 0 0))
     have HMz:=zh (HE3.out.hm.set4 (b:=gy) (fun h=>by have:=HE3.out.lt;omega) (.int .i64 a) (.int .i64 (b+1)) (.int .i64 0) (.slice none 0 0))
     exact bodyPost_ret (v:=.agg #[.int .i64 a,.int .i64 (b+1),.int .i64 0,.slice none 0 0]) (by simp [results,results185,asAddr,hl]) rfl (fin hR ⟨by rw [HN.out],HMz.out⟩)
  ·rw [if_neg h] at hnx
   have h':(999999999:Int)<=b:=by omega
   have HN:=zh hnx
   have HE3:=HN3
   clear hnx HN3 c0 c1 c2 c3 f0 f1 f2
   obtain ⟨⟨c0,c1,c2,c3⟩,-,-⟩:=HE3.out.cells
   obtain ⟨⟨d0,d1,d2,d3⟩,g0,g1,g2,g3⟩:=cells4 HE3.out.hy
   go_wp2_with fail
   have hl:=load_ver (set4 HE3.out.hy (.int .i64 a) (.int .i64 b) (.int .i64 c) (.slice none 0 0))
   have HMz:=zh (HE3.out.hm.set4 (b:=gy) (fun h=>by have:=HE3.out.lt;omega) (.int .i64 a) (.int .i64 b) (.int .i64 c) (.slice none 0 0))
   exact bodyPost_ret (v:=.agg #[.int .i64 a,.int .i64 b,.int .i64 c,.slice none 0 0]) (by simp [results,results185,asAddr,hl]) rfl (fin hR ⟨by rw [HN.out],HMz.out⟩)
 | 2,_ =>
  have hnx:=HNX.out
  rw [if_neg (by decide),if_neg (by decide)] at hnx
  clear HNX
  obtain ⟨⟨c0,c1,c2,c3⟩,⟨f0,f1,f2⟩,z0,z1,z2⟩:=HN3.out.cells
  by_cases h:c < 999999999
  ·rw [if_pos h] at hnx
   have h':¬ (999999999:Int)<=c:=by omega
   have HN:=zh hnx
   clear hnx
   go_upto_region 8 with fail
   have HD3:=zh (HN3.out.set 2 (.int .i64 (c+1)) (y0:=.int .i64 a) (y1:=.int .i64 b) (y2:=.int .i64 (c+1)) rfl)
   generalize wC.setCell ⟨gx,2,none⟩ (.int .i64 (c+1))=wD at *
   clear HN3 c0 c1 c2 c3 f0 f1 f2 z0 z1 z2 h h'
   go_wp2_with fail
   go_loopw [40] (fun q wr=>(q=.int .i64 0/\N3 w wr gx gy gz (.int .i64 a) (.int .i64 b) (.int .i64 (c+1)))) (fun q _=>0 - (intOf q).toNat)
   case atStart=>exact ⟨rfl,HD3.out⟩
   case round =>
    obtain ⟨rfl,hj⟩:=hrel
    have HE3:=zh hj
    clear hj
    obtain ⟨⟨c0,c1,c2,c3⟩,-,-⟩:=HE3.out.cells
    obtain ⟨⟨d0,d1,d2,d3⟩,g0,g1,g2,g3⟩:=cells4 HE3.out.hy
    go_wp2_with fail
    have hl:=load_ver (set4 HE3.out.hy (.int .i64 a) (.int .i64 b) (.int .i64 (c+1)) (.slice none 0 0))
    have HMz:=zh (HE3.out.hm.set4 (b:=gy) (fun h=>by have:=HE3.out.lt;omega) (.int .i64 a) (.int .i64 b) (.int .i64 (c+1)) (.slice none 0 0))
    exact bodyPost_ret (v:=.agg #[.int .i64 a,.int .i64 b,.int .i64 (c+1),.slice none 0 0]) (by simp [results,results185,asAddr,hl]) rfl (fin hR ⟨by rw [HN.out],HMz.out⟩)
  ·rw [if_neg h] at hnx
   have h':(999999999:Int)<=c:=by omega
   have HN:=zh hnx
   have HE3:=HN3
   clear hnx HN3 c0 c1 c2 c3 f0 f1 f2
   obtain ⟨⟨c0,c1,c2,c3⟩,-,-⟩:=HE3.out.cells
   obtain ⟨⟨d0,d1,d2,d3⟩,g0,g1,g2,g3⟩:=cells4 HE3.out.hy
   go_wp2_with fail
   have hl:=load_ver (set4 HE3.out.hy (.int .i64 a) (.int .i64 b) (.int .i64 c) (.slice none 0 0))
   have HMz:=zh (HE3.out.hm.set4 (b:=gy) (fun h=>by have:=HE3.out.lt;omega) (.int .i64 a) (.int .i64 b) (.int .i64 c) (.slice none 0 0))
   exact bodyPost_ret (v:=.agg #[.int .i64 a,.int .i64 b,.int .i64 c,.slice none 0 0]) (by simp [results,results185,asAddr,hl]) rfl (fin hR ⟨by rw [HN.out],HMz.out⟩)
end Go.Proofs.YtgiigemfbebcgaaGreatDoor
