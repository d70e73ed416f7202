/-
  Layers 0 to 14: helps of the laws of indexes. No statement is proved here; no condition.
-/
import Derived.Test.YtgiigemfbebcgaaGreatDoorT30
import Derived.Test.YtgiigemfbebcgaaGreatDoorT29
import Derived.Test.YtgiigemfbebcgaaGreatDoorT00
import Derived.Test.YtgiigemfbebcgaaGreatDoorT07
import Derived.Great.CaseRows
import Derived.Maps.AppendAt
import Derived.Laws.OwnMore
namespace Go.Proofs.YtgiigemfbebcgaaGreatDoor
open _root_.Go.Proofs.Tryz
open Go.RowKit
def lineP (st:List Rw) (s:List UInt8):Option (List Rw) :=
 if headC 32 s=packT then (rowLine s).bind fun r=>if (atL st r.name r.v).isSome\/200<=st.length then none else some (st++[r])
 else if headC 32 s=needT then match st.getLast? with
  | none=>none
  | some r=>(needLine s).bind fun n=>if n.name=r.name\/n.name ∈ r.needs.map Nd.name\/r.needs.length=20 then none else some (st.dropLast++[{ r with needs:=r.needs++[n] }])
 else none
structure RwW (B:Nat) (w:World) (x:RwX):Prop where
 ok:RwOk w x
 few:x.r.needs.length<=20
 own:∃ ys:List NdX,ys.map NdX.n=x.r.needs/\(∀ y ∈ ys,OrsAt w y.ov y.n.span.ors)/\w.ownsRow B 81 4 x.nv x.r.needs.length (ys.flatMap NdX.cells)
theorem RwW.at {B:Nat} {w:World} {x:RwX} (h:RwW B w x):RwAt w x:=by
 obtain ⟨ys,h1,h2,h3⟩:=h.own
 have:=h.few
 exact ⟨h.ok,⟨ys,h1,h2,Sl.of_own h3 (fun _ _ f=>f)⟩,by omega⟩
theorem RwW.keep {B:Nat} {S:Nat->Prop} {w w':World} {x:RwX} (h:RwW B w x) (hm:Mod S w w') (ha:Apart [9,153,126] S w) (hs:∀ k,x.nv.ownBlock=some k->¬ S k):RwW B w' x:=by
 obtain ⟨ys,h1,h2,h3⟩:=h.own
 exact ⟨h.ok.keep hm (ha.less (by simp)),h.few,ys,h1,fun y hy=>(h2 y hy).keep hm ha,own_keepM h3 hm hs⟩
theorem RwW.no {B:Nat} {w w':World} {x:RwX} (h:RwW B w x) (hm:Mod No w w'):RwW B w' x:=h.keep hm (Apart.no _ _) (fun _ _ f=>f)
structure RowsW (B:Nat) (w:World) (v:Value) (xs:List RwX):Prop where
 own:w.ownsRow B 46 39 v xs.length (xs.flatMap RwX.cells)
 each:∀ x ∈ xs,RwW B w x
 dist:xs.Pairwise fun x y=>∀ k,x.nv.ownBlock=some k->y.nv.ownBlock ≠ some k
theorem RowsW.no {B:Nat} {w w':World} {v:Value} {xs:List RwX} (h:RowsW B w v xs) (hm:Mod No w w'):RowsW B w' v xs :=
 ⟨own_keepM h.own hm (fun _ _ f=>f),fun x hx=>(h.each x hx).no hm,h.dist⟩
theorem RowsW.sl {B:Nat} {w:World} {v:Value} {xs:List RwX} (h:RowsW B w v xs):Sl w No 46 v xs.length (xs.flatMap RwX.cells):=Sl.of_own h.own (fun _ _ f=>f)
theorem RowsW.nil (B:Nat) (w:World):RowsW B w (.slice none 0 0) []:=⟨⟨by simp,.inl ⟨rfl,rfl⟩⟩,fun x hx=>by (cases hx),List.Pairwise.nil⟩
theorem RowsW.apart {B:Nat} {w:World} {v:Value} {xs:List RwX} (h:RowsW B w v xs) {x:RwX} (hx:x ∈ xs) {k:Nat} (hk:x.nv.ownBlock=some k):v.ownBlock ≠ some k:=fun e=>by
 obtain ⟨ys,-,-,h3⟩:=(h.each x hx).own
 obtain ⟨cur,h4⟩:=own_heapM h3 hk
 obtain ⟨cur2,h5⟩:=own_heapM h.own e
 rw [h4] at h5
 cases h5
theorem own_apart {B:Nat} {w:World} {e:TypeId} {size:Nat} {v:Value} {n:Nat} {xs:List Value} (h:w.ownsRow B e size v n xs) {ts:List TypeId} (hne:e ∉ ts):Apart ts (fun k=>v.ownBlock=some k) w:=fun k cur fz e2 hk hc hm=>by
 obtain ⟨cur2,h5⟩:=own_heapM h hk
 rw [hc] at h5
 cases h5
 exact hne hm
theorem RowsW.push {B:Nat} {w w':World} {v v':Value} {xs:List RwX} {x:RwX} (h:RowsW B w v xs) (hg:w.grownBy w' v.ownBlock) (ho:w'.ownsRow B 46 39 v' (xs.length+1) (xs.flatMap RwX.cells++RwX.cells x)) (hx:RwOk w x) (hv:x.nv=.slice none 0 0) (hn:x.r.needs=[]):RowsW B w' v' (xs++[x]):=by
 have hm:Mod (fun k=>v.ownBlock=some k) w w':=Mod.of_grown hg (fun k hk _=>hk)
 refine ⟨by simpa using ho,fun y hy=>?_,?_⟩
 ·rcases List.mem_append.1 hy with hy | hy
  ·exact (h.each y hy).keep hm (own_apart h.own (by decide)) (fun k hk=>h.apart hy hk)
  ·obtain rfl:y=x:=by simpa using hy
   exact ⟨hx.keep hm (own_apart h.own (by decide)),by rw [hn];simp,[],by rw [hn];rfl,(fun z hz=>by cases hz),by rw [hn,hv];exact ⟨by simp,.inl ⟨rfl,rfl⟩⟩⟩
 ·refine List.pairwise_append.2 ⟨h.dist,by simp,fun a ha b hb=>?_⟩
  obtain rfl:b=x:=by simpa using hb
  intro k _ e
  rw [hv] at e
  cases e
theorem find_u {w':World} {l:List Rw} {name:List UInt8} {v:Ver} {e:Ending} (h:FindRes w' l name v e):∃ ds:Array Value,e=.returned (.tuple #[.agg ds,.bool (atL l name v).isSome])/\ds.size=39/\ds.all (·.oneCell')=true:=by
 unfold FindRes at h
 cases ha:atL l name v with
 | none =>
  rw [ha] at h
  obtain ⟨⟨r,pv,nv⟩,h1,h2,h3,h4⟩:=h
  dsimp only at h1 h2 h3
  subst h1 h2 h3
  exact ⟨_,h4,RwX.cells_length _ rfl,by simp [RwX.cells,zeroRw,bv,Value.oneCell',strV]⟩
 | some k =>
  rw [ha] at h
  obtain ⟨x,h1,h2,h3⟩:=h
  exact ⟨_,h3,RwX.cells_length x h2.ok.sum,rows_one h2.ok⟩
theorem info_row:(prog.info? 46).map (fun i=>(i.zero,i.size,i.bytes))=some (some (.agg (rowCs ⟨#[]⟩ 0 0 0 (.slice none 0 0) (List.replicate 32 0) 0).toArray),39,128):=by kernel_rfl
def LineRes (B:Nat) (w':World) (st:List Rw) (s:List UInt8) (e:Ending):Prop:=∃ (v':Value) (ok:Bool),e=.returned (.tuple #[v',.bool ok]) ∧
 (if ok then ∃ xs',lineP st s=some (xs'.map RwX.r)/\RowsW B w' v' xs'/\xs'.length<=200 else lineP st s=none)
theorem wp_app_at {P:Program} {w:World} {o:Oper} {a:Act} {K:Act->World->Prop} {Q:Exit->Act->World->Prop} (s x:Operand) (t:TypeId)
  (ho:o.op=.call { callee:=.builtin .append,args:=#[s,x],argTypes:=#[t,t] })
  (base:Nat) (e:TypeId) (i:TypeInfo) (z:Value) (size bytes:Nat) (ht:P.underlying t=some (.slice e)) (hi:P.info? e=some i) (hz:i.zero=some z)
  (hsize:i.size=size) (hby:i.bytes=bytes) (hzs:z.cells.size=size) (hsz:0 < size)
  (v:Value) (n:Nat) (xs:List Value) (hs:a.eval s=v) (hown:w.ownsRow base e size v n xs)
  (ad:Addr) (m c:Nat) (news:List Value) (hx:a.eval x=.slice (some ad) m c) (hl:news.length=m*size) (hnews:∀ j u,news[j]? = some u->w.cell? (ad.add j)=some u) (h1:∀ u ∈ news,u.oneCell'=true)
  (h63:n+m<=maxLen) (hbytes:(n+m)*bytes<=140737488355328) (hbase:base<=w.heap.size)
  (h:∀ v' w',w'.ownsRow base e size v' (n+m) (xs++news)->w.grownBy w' v.ownBlock->(v'.ownBlock=v.ownBlock\/v'.ownBlock=some w.heap.size)->K (a.put o.dst v') w'):o.wp P a w K Q:=by
 obtain ⟨v',w',hr,h2,h3,h4,h5⟩:=run_append_own_at (P:=P) w base t o.type e i z size bytes ht hi hz hsize hby hzs hsz v n xs hown ad m c news hl hnews h1 h63 hbytes hbase
 unfold Oper.wp execOp
 simp only [ho,resolve,invoke,builtin,Sem.run_bind,Sem.run_pure,Result.andThen_ok,List.map_toArray,List.map_cons,List.map_nil,hs,hx,hr]
 exact h v' w' h2 h3 h5
theorem rows_last {zs:List RwX} (hz:∀ z ∈ zs,(RwX.cells z).length=39) {x:RwX} (hx:x.r.sum.length=32) (n:Nd) (nv:Value) :
  ((zs++[x]).flatMap RwX.cells).set (zs.length*39+38) nv=(zs++[(⟨{ x.r with needs:=x.r.needs++[n] },x.pv,nv⟩:RwX)]).flatMap RwX.cells:=by
 have hl:(zs.flatMap RwX.cells).length=zs.length*39:=by
  induction zs with
  | nil=>rfl
  | cons z zs ih=>rw [List.flatMap_cons,List.length_append,hz z (by simp),ih (fun y hy=>hz y (by simp [hy])),List.length_cons];omega
 rw [List.flatMap_append,List.flatMap_append,List.set_append_right _ _ (by rw [hl];omega),hl,show zs.length*39+38 - zs.length*39=38 by omega]
 congr 1
 simp only [List.flatMap_cons,List.flatMap_nil,List.append_nil]
 obtain ⟨⟨nm,⟨a,b,c,pr⟩,S,k,nds⟩,pv,nv0⟩:=x
 obtain ⟨s0,s1,s2,s3,s4,s5,s6,s7,s8,s9,s10,s11,s12,s13,s14,s15,s16,s17,s18,s19,s20,s21,s22,s23,s24,s25,s26,s27,s28,s29,s30,s31,rfl⟩:=list32 hx
 rfl
theorem RowsW.want {B:Nat} {w w7:World} {g o c:Nat} {zs:List RwX} {x:RwX} {n:Nd} {nv' ov:Value} {ys:List NdX} (h:RowsW B w (.slice (some ⟨g,o,none⟩) (zs.length+1) c) (zs++[x])) (hys:ys.map NdX.n=x.r.needs) (hyo:∀ y ∈ ys,OrsAt w y.ov y.n.span.ors) (hno:OrsAt w ov n.span.ors)
  (hfew:x.r.needs.length+1<=20) (hgr:w.grownBy w7 x.nv.ownBlock) (hat:nv'.ownBlock=x.nv.ownBlock\/nv'.ownBlock=some w.heap.size) (hown0:w.ownsRow B 81 4 x.nv x.r.needs.length (ys.flatMap NdX.cells))
  (hown:w7.ownsRow B 81 4 nv' (x.r.needs.length+1) (ys.flatMap NdX.cells++NdX.cells ⟨n,ov⟩)) :
  o=0/\RowsW B (w7.setCell ⟨g,zs.length*39+38,none⟩ nv') (.slice (some ⟨g,o,none⟩) (zs.length+1) c) (zs++[(⟨{ x.r with needs:=x.r.needs++[n] },x.pv,nv'⟩:RwX)])/\Mod (fun k=>B<=k) w (w7.setCell ⟨g,zs.length*39+38,none⟩ nv'):=by
 have hx:=h.each x (by simp)
 have hm7:Mod (fun k=>x.nv.ownBlock=some k) w w7:=Mod.of_grown hgr (fun k hk _=>hk)
 have hap:∀ k,x.nv.ownBlock=some k->(Value.slice (some ⟨g,o,none⟩) (zs.length+1) c).ownBlock ≠ some k:=fun k=>h.apart (x:=x) (by simp)
 have ho7:w7.ownsRow B 46 39 (.slice (some ⟨g,o,none⟩) (zs.length+1) c) (zs.length+1) ((zs++[x]).flatMap RwX.cells):=by
  have h1:=own_keepM h.own hm7 (fun k hk e=>hap k e hk)
  simpa using h1
 have ho:o=0:=by
  obtain ⟨_,⟨hv,_⟩ | ⟨g',cap,cur,hv,_⟩⟩:=ho7
  ·cases hv
  ·cases hv;rfl
 subst ho
 have hg:B<=g:=by
  obtain ⟨_,⟨hv,_⟩ | ⟨g',cap,cur,hv,hg,_⟩⟩:=ho7
  ·cases hv
  ·cases hv;exact hg
 have hz39:∀ z ∈ zs,(RwX.cells z).length=39:=fun z hz=>RwX.cells_length z (h.each z (by simp [hz])).ok.sum
 have hlen:((zs++[x]).flatMap RwX.cells).length=(zs.length+1)*39:=by simpa using h.own.1
 obtain ⟨ho8,hg8⟩:=World.ownsRow.stored ho7 (zs.length*39+38) nv'
 rw [rows_last hz39 hx.ok.sum n nv'] at ho8
 have hm8:Mod (fun k=>k=g) w7 (w7.setCell ⟨g,zs.length*39+38,none⟩ nv'):=Mod.cell1 _ _ _ _
 have hap8:Apart [9,153,126] (fun k=>k=g) w7:=fun k cur fz e hk hc=>by
  have:=own_apart ho7 (ts:=[9,153,126]) (by decide) k cur fz e (by rw [hk];rfl) hc
  exact this
 have hap7:=own_apart hown0 (ts:=[9,153,126]) (by decide)
 have hgn:∀ y ∈ zs++[x],∀ k,y.nv.ownBlock=some k->k ≠ g:=fun y hy k hk e=>h.apart hy hk (by rw [e];rfl)
 have hg7:g < w7.heap.size:=by
  obtain ⟨cur,hc⟩:=own_heapM ho7 (k:=g) rfl
  exact lt_of_heap hc
 have hgw:g < w.heap.size:=by
  obtain ⟨cur,hc⟩:=own_heapM h.own (k:=g) rfl
  exact lt_of_heap hc
 have hnvg:∀ k,nv'.ownBlock=some k->k ≠ g:=fun k hk e=>by
  rcases hat with h1 | h1
  ·exact hgn x (by simp) k (by rw [<- h1];exact hk) e
  ·rw [h1] at hk
   cases hk
   omega
 refine ⟨rfl,⟨by simpa using ho8,fun y hy=>?_,?_⟩,?_⟩
 ·rcases List.mem_append.1 hy with hy | hy
  ·have hd:∀ k,y.nv.ownBlock=some k->x.nv.ownBlock ≠ some k:=(List.pairwise_append.1 h.dist).2.2 y hy x (by simp)
   exact ((h.each y (by simp [hy])).keep hm7 hap7 (fun k hk=>hd k hk)).keep hm8 hap8 (fun k hk=>hgn y (by simp [hy]) k hk)
  ·obtain rfl:y=(⟨{ x.r with needs:=x.r.needs++[n] },x.pv,nv'⟩:RwX):=by simpa using hy
   have h7:=(hx.ok.keep hm7 (hap7.less (by simp))).keep hm8 (hap8.less (by simp))
   refine ⟨⟨h7.sum,h7.small,h7.pre,?_⟩,by simpa using hfew,ys++[⟨n,ov⟩],by simp [hys],fun z hz=>?_,?_⟩
   ·obtain ⟨_,⟨hv,_⟩ | ⟨g',cap,cur,hv,_⟩⟩:=hown
    ·exact ⟨_,_,_,hv⟩
    ·exact ⟨_,_,_,hv⟩
   ·have hz2:OrsAt w z.ov z.n.span.ors:=by
     rcases List.mem_append.1 hz with hz | hz
     ·exact hyo z hz
     ·obtain rfl:z=⟨n,ov⟩:=by simpa using hz
      exact hno
    exact (hz2.keep hm7 hap7).keep hm8 hap8
   ·have h9:=own_keepM hown hm8 (fun k hk=>hnvg k hk)
    simpa using h9
 ·refine List.pairwise_append.2 ⟨(List.pairwise_append.1 h.dist).1,by simp,fun a ha b hb=>?_⟩
  obtain rfl:b=(⟨{ x.r with needs:=x.r.needs++[n] },x.pv,nv'⟩:RwX):=by simpa using hb
  intro k hk e
  have e2:nv'.ownBlock=some k:=e
  rcases hat with h1 | h1
  ·exact (List.pairwise_append.1 h.dist).2.2 a ha x (by simp) k hk (by rw [<- h1];exact e2)
  ·rw [h1] at e2
   cases e2
   obtain ⟨ys2,-,-,h3⟩:=(h.each a (by simp [ha])).own
   obtain ⟨cur,hc⟩:=own_heapM h3 hk
   have:=lt_of_heap hc
   omega
 ·refine (hm7.weaken (fun k _ hk=>?_)).trans (hm8.weaken (fun k _ hk=>by rw [show k=g from hk];exact hg))
  obtain ⟨_,⟨hv,_⟩ | ⟨g',cap,cur,hv,hg',_⟩⟩:=hown0
  ·rw [hv] at hk;cases hk
  ·rw [hv] at hk;cases hk;exact hg'
end Go.Proofs.YtgiigemfbebcgaaGreatDoor
