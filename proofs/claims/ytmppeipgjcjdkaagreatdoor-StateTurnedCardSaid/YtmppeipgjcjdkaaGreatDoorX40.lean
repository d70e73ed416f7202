/-
  Layers 0 to 14: helps of the laws of indexes. No statement is proved here; no condition.
-/
import Derived.Test.YtmppeipgjcjdkaaGreatDoorX16
import Derived.Test.YtmppeipgjcjdkaaGreatDoorX13
import Derived.Test.YtmppeipgjcjdkaaGreatDoorX31
import Derived.Test.YtmppeipgjcjdkaaGreatDoorX25
namespace Go.Proofs.YtmppeipgjcjdkaaGreatDoor
open _root_.Go.Proofs.Tryz
open Go.RowKit Go.Maps Go.Sort
theorem ltOf_cfL (x y:List UInt8):ltOf cfL x y=ltStr x y:=by
 unfold ltOf cfL ltStr
 by_cases h1:x < y
 ·simp [h1]
 ·by_cases h2:y < x <;> simp [h1,h2]
theorem swo_cfL:SWO (ltOf cfL) where
 irrefl x:=by rw [ltOf_cfL];exact swo_ltStr.irrefl _
 trans x y z h1 h2:=by rw [ltOf_cfL] at *;exact swo_ltStr.trans _ _ _ h1 h2
 ntrans x y z h1 h2:=by rw [ltOf_cfL] at *;exact swo_ltStr.ntrans _ _ _ h1 h2
theorem tot_cfL (x y:List UInt8) (h1:ltOf cfL x y=false) (h2:ltOf cfL y x=false):x=y:=by
 rw [ltOf_cfL] at h1 h2
 have h3:¬ x < y:=by simpa [ltStr] using h1
 have h4:¬ y < x:=by simpa [ltStr] using h2
 rcases Std.lt_trichotomy x y with h | h | h
 ·exact absurd h h3
 ·exact h
 ·exact absurd h h4
set_option maxRecDepth 100000 in
set_option maxHeartbeats 4000000 in
theorem closureFl (p q:List UInt8) (d1 d2:Bool) (a1 a2:Option Addr) (n1 c1 n2 c2:Nat) (w:World) :
  Calls prog 83 #[.agg #[strV p,.bool d1,.slice a1 n1 c1],.agg #[strV q,.bool d2,.slice a2 n2 c2]] w fun e w'=>e=.returned (.int .i64 (cfL p q))/\∃ k os',w'=grow (w.drewN k) os':=by
 refine calls_hide fun R hR=>?_
 have HC:=zh (compare_any p q)
 unfold strV at *
 generalize cfL p q=r at *
 generalize (⟨p.toArray⟩:ByteArray)=P at *
 generalize (⟨q.toArray⟩:ByteArray)=Q at *
 go_enter func83,ntmps83
 go_upto_region 1 with fail
 obtain ⟨gx,hgx⟩:∃ g,g=w.heap.size:=⟨_,rfl⟩
 rw [<- hgx]
 generalize hw1:World.alloc (World.alloc w _) _=w1
 have h0:w1.heap[gx]? = some (.cells #[.string P,.bool d1,.slice a1 n1 c1] 51 (0,0)):=by rw [<- hw1,hgx];exact heap_alloc_old _ (heap_alloc_new w _)
 have h1:w1.heap[gx+1]? = some (.cells #[.string Q,.bool d2,.slice a2 n2 c2] 51 (0,0)):=by rw [<- hw1,hgx];exact heap_at_new _ _ (by simp)
 have HEND:=zh (show ∃ k os',w1=grow (w.drewN k) os' from ⟨0,#[.cells #[.string P,.bool d1,.slice a1 n1 c1] 51,.cells #[.string Q,.bool d2,.slice a2 n2 c2] 51],by rw [<- hw1,alloc_eq_grow,alloc_eq_grow,grow_grow];rfl⟩)
 have p0:=cell_ofA h0 (i:=0) rfl
 have p1:=cell_ofA h1 (i:=0) rfl
 clear hw1 h0 h1 hgx
 go_wp2_with fail
 with_reducible refine (HC.out _).mono ?_
 rintro e w2 ⟨rfl,rfl⟩
 go_wp2_with fail
 exact fin hR ⟨rfl,HEND.out⟩
theorem isAggFl (w:World):(isAgg 51).run prog w=.ok true w:=by kernel_rfl
theorem sizeOfFl (w:World):(Go.sizeOf 51).run prog w=.ok 3 w:=by kernel_rfl
def flOf (xs:List FlX) (p:List UInt8):FlX:=(xs.find? fun x=>decide (x.f.path=p)).getD ⟨⟨p,false,[]⟩,.slice none 0 0⟩
theorem flOf_path (xs:List FlX) (p:List UInt8):(flOf xs p).f.path=p:=by
 unfold flOf
 cases h:xs.find? fun x=>decide (x.f.path=p) with
 | none=>rfl
 | some x=>have:=List.find?_some h;simpa using this
theorem flOf_mem {xs:List FlX} (hn:(xs.map fun x=>x.f.path).Nodup) {x:FlX} (hx:x ∈ xs):flOf xs x.f.path=x:=by
 induction xs with
 | nil=>cases hx
 | cons y ys ih =>
  rw [List.map_cons] at hn
  obtain ⟨h1,h2⟩:=List.nodup_cons.1 hn
  unfold flOf at ih ⊢
  rw [List.find?_cons]
  by_cases e:y.f.path=x.f.path
  ·rw [decide_eq_true e]
   rcases List.mem_cons.1 hx with rfl | hx
   ·rfl
   ·exact absurd (List.mem_map.2 ⟨x,hx,e.symm⟩) h1
  ·rw [decide_eq_false e]
   rcases List.mem_cons.1 hx with rfl | hx
   ·exact absurd rfl e
   ·exact ih h2 hx
theorem FlX.cells_one {x:FlX} (h:∃ a n c,x.v=.slice a n c):∀ u ∈ x.cells,u.oneCell'=true:=fun u hu=>by
 obtain ⟨a,n,c,hv⟩:=h
 unfold FlX.cells at hu
 simp only [List.mem_cons,List.not_mem_nil,or_false] at hu
 rcases hu with rfl | rfl | rfl
 ·rfl
 ·rfl
 ·rw [hv];rfl
set_option maxHeartbeats 4000000 in
theorem sortfl_any {w:World} {base:Nat} {v:Value} {xs:List FlX} (hl:xs.length<=1000000) (hown:w.ownsRow base 51 3 v xs.length (xs.flatMap FlX.cells)) (hn:(xs.map fun x=>x.f.path).Nodup) (hv:∀ x ∈ xs,∃ a n c,x.v=.slice a n c) :
  Calls prog 82 #[v,.func (.func 83) #[] #[]] w fun e w'=>e=.returned (.tuple #[])/\(∃ ys:List FlX,ys.Perm xs/\(ys.Pairwise fun a b=>a.f.path < b.f.path)/\SvX w' No v ys.length (ys.flatMap FlX.cells))/\Mod (fun q=>v.ownBlock=some q) w w':=by
 have hsl:Sl w No 51 v xs.length (xs.flatMap FlX.cells):=Sl.of_own hown (fun _ _ f=>f)
 obtain ⟨hlen,⟨rfl,h0⟩ | ⟨g,cap,cur,rfl,hb,hg,hc,hm,hsz,ht⟩⟩:=hown
 ·obtain rfl:xs=[]:=List.eq_nil_of_length_eq_zero h0
  refine (AnyF.slices_SortFunc_none Tryz.sortF none 0 _ w).mono ?_
  rintro e w' ⟨rfl,rfl⟩
  exact ⟨rfl,⟨[],List.Perm.refl _,List.Pairwise.nil,SvX.of hsl⟩,Mod.refl _ _⟩
 ·have eg:∀ args w,(callFunc 83 args).run prog w=.ok (.enter 83 args) w:=enters_of func83 (by kernel_rfl) rfl
  obtain ⟨ps,hps⟩:∃ ps,ps=xs.map fun x=>x.f.path:=⟨_,rfl⟩
  have hslv:∀ p,∃ a n c,(flOf xs p).v=.slice a n c:=fun p=>by
   unfold flOf
   cases h:xs.find? fun x=>decide (x.f.path=p) with
   | none=>exact ⟨_,_,_,rfl⟩
   | some x=>exact hv x (List.mem_of_find?_eq_some h)
  have hmap:∀ l:List FlX,(∀ x ∈ l,x ∈ xs)->(l.map fun x=>x.f.path).map (flOf xs)=l:=fun l hls=>by
   rw [List.map_map]
   refine (List.map_congr_left fun x hx=>?_).trans (List.map_id l)
   show flOf xs x.f.path=id x
   exact flOf_mem hn (hls x hx)
  have hfl:∀ l:List (List UInt8),l.flatMap (fun p=>(flOf xs p).cells)=(l.map (flOf xs)).flatMap FlX.cells:=fun l=>by rw [List.flatMap_map]
  have hpf:ps.flatMap (fun p=>(flOf xs p).cells)=xs.flatMap FlX.cells:=by rw [hfl,hps,hmap xs (fun _ h=>h)]
  obtain ⟨rest,hrest⟩:∃ rest,cur=(ps.flatMap (fun p=>(flOf xs p).cells)++rest).toArray:=by
   refine ⟨cur.toList.drop (xs.flatMap FlX.cells).length,?_⟩
   rw [hpf]
   apply Array.toList_inj.1
   have h1:=List.take_append_drop (xs.flatMap FlX.cells).length cur.toList
   rw [show cur.toList.take (xs.flatMap FlX.cells).length=xs.flatMap FlX.cells by rw [hlen];exact ht] at h1
   exact h1.symm
  subst hrest
  have hpl:ps.length=xs.length:=by rw [hps,List.length_map]
  have hH:=holds_list (fun p=>(flOf xs p).cells) 3 (fun p=>FlX.cells_length _) (by decide) hg
  have key:∀ (x y:List UInt8) (W:World),Calls prog 83 #[.agg (flOf xs x).cells.toArray,.agg (flOf xs y).cells.toArray] W fun e w'=>e=.returned (.int .i64 (cfL x y))/\∃ k os',w'=grow (W.drewN k) os':=fun x y W=>by
   obtain ⟨a1,n1,c1,e1⟩:=hslv x
   obtain ⟨a2,n2,c2,e2⟩:=hslv y
   have h:=closureFl x y (flOf xs x).f.dir (flOf xs y).f.dir a1 a2 n1 c1 n2 c2 W
   rw [<- e1,<- e2] at h
   have h1:=flOf_path xs x
   have h2:=flOf_path xs y
   unfold FlX.cells
   rw [h1,h2]
   exact h
  have hso:=AnyQ.slices_SortFunc_total Tryz.sortF 3 isAggFl sizeOfFl (fun p=>(flOf xs p).cells) (fun x=>FlX.cells_length _) (fun x u hu=>FlX.cells_one (hslv x) u hu) cfL swo_cfL 83 #[] g 0 cap ps.toArray w eg
   (fun _ _ _ _ x y=>key x y _) hH (lt_of_heap hg) (by simp;omega) tot_cfL
  rw [show ps.toArray.size=xs.length by simp [hpl]] at hso
  refine hso.mono ?_
  rintro e w' ⟨rfl,n,os,rfl⟩
  rw [List.toList_toArray]
  obtain ⟨ds,hds⟩:∃ ds,ds=ps.mergeSort fun x y=>!(ltOf cfL) y x:=⟨_,rfl⟩
  rw [<- hds]
  have hperm:ds.Perm ps:=by rw [hds];exact List.mergeSort_perm _ _
  have hdl:ds.length=ps.length:=hperm.length_eq
  obtain ⟨hw1,hw2⟩:=world_sort (fun p=>(flOf xs p).cells) 3 (fun p=>FlX.cells_length _) (by decide) hdl hg n os
  have hle:ds.Pairwise fun a b=>ltStr b a=false:=by
   have h:=List.pairwise_mergeSort (le:=fun x y=>!(ltOf cfL) y x) (fun a b c h1 h2=>by
    rw [ltOf_cfL] at *
    simp only [Bool.not_eq_true'] at *
    cases h3:ltStr c a with
    | false=>rfl
    | true=>have:=swo_ltStr.ntrans c b a h2 h1;rw [h3] at this;cases this) (fun a b=>by
    rw [ltOf_cfL,ltOf_cfL]
    cases h3:ltStr b a with
    | false=>rfl
    | true =>
     cases h4:ltStr a b with
     | false=>rfl
     | true=>have:=swo_ltStr.trans a b a h4 h3;rw [swo_ltStr.irrefl] at this;cases this) ps
   rw [<- hds] at h
   refine h.imp fun {a b} hab=>?_
   rw [ltOf_cfL] at hab
   simpa using hab
  have hnd:ds.Nodup:=hperm.nodup_iff.2 (by rw [hps];exact hn)
  refine ⟨rfl,⟨ds.map (flOf xs),?_,?_,?_⟩,hw2.weaken fun k _ e=>by subst e;rfl⟩
  ·have h1:=hperm.map (flOf xs)
   rw [show ps.map (flOf xs)=xs by rw [hps];exact hmap xs (fun _ h=>h)] at h1
   exact h1
  ·rw [List.pairwise_map]
   refine (hle.and hnd).imp fun {a b} hab=>?_
   rw [flOf_path,flOf_path]
   rcases Std.lt_trichotomy a b with h | h | h
   ·exact h
   ·exact absurd h hab.2
   ·have h2:=hab.1
    simp only [ltStr,decide_eq_false_iff_not] at h2
    exact absurd h h2
  ·rw [List.length_map,hdl,hpl,<- hfl]
   refine SvX.of (e:=51) (.inr ⟨g,0,cap,_,(0,0),rfl,hc,hm,fun f=>f,hw1,by simp,fun i hi=>?_⟩)
   rw [Nat.zero_add,List.getElem?_toArray,List.getElem?_append_left hi]
end Go.Proofs.YtmppeipgjcjdkaaGreatDoor
