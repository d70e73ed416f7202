/-
  Layers 0 to 14: helps of the laws of indexes. No statement is proved here; no condition.
-/
import Derived.Test.YtgiigemfbebcgaaGreatDoorR08
import Derived.Test.YtgiigemfbebcgaaGreatDoorR10
import Derived.Test.YtgiigemfbebcgaaGreatDoorR11
import Derived.Test.YtgiigemfbebcgaaGreatDoorR04
namespace Go.Proofs.YtgiigemfbebcgaaGreatDoor
open _root_.Go.Proofs.Tryz
open Go.RowKit Go.Sort
theorem kept_good (l:List SRow) (h4:∀ r ∈ l,r.needs.length<=4):(∀ r ∈ (keptK [] l).map rowK,GoodR r)/\Fresh [] ((keptK [] l).map rowK)/\((keptK [] l).map rowK).length<=l.length:=by
 have h:=made_good smK szK l [] (fun r hr=>by
  have h1:=rowK_facts r (by have:=h4 r hr;omega)
  exact ⟨h1.1,h1.2.1,h1.2.2.1,h1.2.2.2⟩) (fun _ h=>by cases h) trivial
 have e:=kept_made l []
 rw [List.map_nil] at e
 rw [e] at h
 simpa using h
theorem kept_told (l:List SRow) (hl:l.length<=20) (h4:∀ r ∈ l,r.needs.length<=4):indexL (indexT ((keptK [] l).map rowK))=.inl ((keptK [] l).map rowK):=by
 obtain ⟨h1,h2,h3⟩:=kept_good l h4
 have h5:=kept_text l hl h4
 exact index_told h1 h2 (by omega) (by omega)
def kr0:SRow:=⟨0,0,[7],0,0⟩
def kr1:SRow:=⟨0,2,[],0,0⟩
def nameA:List UInt8:=[97]
theorem kr_name:(rowK kr0).name=nameA/\(rowK kr1).name=nameA:=by decide +kernel
theorem kr_ver:(rowK kr0).v=⟨1,0,0,[]⟩/\(rowK kr1).v=⟨2,0,0,[]⟩:=⟨rfl,rfl⟩
theorem kr_needs:(rowK kr0).needs.length=1/\(rowK kr1).needs.length=0:=by decide +kernel
theorem kr_size:(rowK kr0).size < 100/\(rowK kr1).size < 100/\0<=(rowK kr0).size/\0<=(rowK kr1).size:=by decide +kernel
theorem ver01:verC ⟨1,0,0,[]⟩ ⟨2,0,0,[]⟩ = -1:=by decide +kernel
theorem ver11:verC ⟨2,0,0,[]⟩ ⟨2,0,0,[]⟩=0:=by decide +kernel
theorem kr_none:atL [rowK kr0] nameA ⟨2,0,0,[]⟩=none:=by
 unfold atL
 rw [List.findIdx?_cons,if_neg (by rw [kr_ver.1,ver01];simp)]
 rfl
theorem kr_kept:keptK [] [kr0,kr1]=[kr0,kr1]:=by
 have h1:(atL (([]:List SRow).map rowK) (nameK kr0.n) (verK kr0.v)).isSome=false:=rfl
 have e1:keptK [] [kr0,kr1]=keptK [kr0] [kr1]:=by
  rw [keptK,if_neg (by rw [h1];simp)]
  rfl
 have h2:(atL ([kr0].map rowK) (nameK kr1.n) (verK kr1.v)).isSome=false:=by
  rw [show nameK kr1.n=nameA from by decide +kernel,show verK kr1.v=⟨2,0,0,[]⟩ from rfl,List.map_cons,List.map_nil,kr_none]
  rfl
 rw [e1,keptK,if_neg (by rw [h2];simp)]
 rfl
theorem kr_at:atL [rowK kr0,rowK kr1] nameA ⟨2,0,0,[]⟩=some 1:=by
 unfold atL
 rw [List.findIdx?_cons,if_neg (by rw [kr_ver.1,ver01];simp),List.findIdx?_cons,if_pos (by rw [kr_ver.2,ver11,kr_name.2];simp)]
 rfl
theorem kr_needline:indexL [110,101,101,100,32,97,32,42,10]=.inr 1:=by rfl
theorem kr_vers {xs:List RwX} (h:xs.map RwX.r=[rowK kr0,rowK kr1]):(sortR ltVx (versOf nameA xs)).map VrX.v=[⟨2,0,0,[]⟩,⟨1,0,0,[]⟩]:=by
 obtain ⟨x,y,rfl⟩:∃ x y,xs=[x,y]:=by
  match xs,h with
  | [],h=>simp at h
  | [x],h=>simp at h
  | [x,y],_=>exact ⟨x,y,rfl⟩
  | x :: y :: z :: r,h=>simp at h
 simp only [List.map_cons,List.map_nil,List.cons.injEq,and_true] at h
 have e:versOf nameA [x,y]=[⟨x.r.v,x.pv⟩,⟨y.r.v,y.pv⟩]:=by
  unfold versOf
  rw [List.filter_cons,if_pos (by rw [h.1,kr_name.1];simp),List.filter_cons,if_pos (by rw [h.2,kr_name.2];simp)]
  rfl
 rw [e,h.1,h.2,kr_ver.1,kr_ver.2]
 have hl:ltVx ⟨⟨2,0,0,[]⟩,y.pv⟩ ⟨⟨1,0,0,[]⟩,x.pv⟩=true:=by
  unfold ltVx
  rw [ver01]
  rfl
 unfold sortR insR
 simp [hl]
theorem kr_names {out:List (List UInt8)} (ha:Asc out) (h:∀ y,y ∈ out ↔ y ∈ [rowK kr0,rowK kr1].map Rw.name):out=[nameA]:=by
 refine asc_unique _ _ ha (show Asc [nameA] from List.pairwise_singleton _ _) fun y=>?_
 rw [h y]
 simp [kr_name.1,kr_name.2]
def rkV (v:Ver):Nat:=[(⟨2,0,0,[]⟩:Ver),⟨1,2,3,[]⟩,⟨1,1,0,[]⟩,⟨1,0,0,[]⟩,⟨1,0,0,[[120],[49]]⟩,⟨0,3,0,[]⟩].findIdx fun u=>decide (u.ma=v.ma) && decide (u.mi=v.mi) && decide (u.pa=v.pa) && decide (u.pre=v.pre)
def rkT (v:Ver):List UInt8:=[UInt8.ofNat (rkV v)]
def ltV (a b:Ver):Bool:=decide (verC b a < 0)
theorem rk_all:∀ a b:Fin 6,(verC (verK b.1) (verK a.1) < 0 ↔ rkT (verK a.1) < rkT (verK b.1))/\(verC (verK a.1) (verK b.1)=0 ↔ a.1=b.1)/\(rkT (verK a.1)=rkT (verK b.1) ↔ a.1=b.1)/\(0 < verC (verK a.1) (verK b.1) ↔ verC (verK b.1) (verK a.1) < 0):=by decide +kernel
def IsK (v:Ver):Prop:=∃ k,k < 6/\v=verK k
theorem isK (k:Nat):IsK (verK k):=⟨k % 6,Nat.mod_lt _ (by omega),by unfold verK;rw [Nat.mod_mod]⟩
theorem rk_lt {a b:Ver} (ha:IsK a) (hb:IsK b):(verC b a < 0 ↔ rkT a < rkT b)/\(rkT a=rkT b ↔ a=b)/\(0 < verC a b ↔ verC b a < 0)/\(verC a b=0 ↔ a=b):=by
 obtain ⟨i,hi,rfl⟩:=ha
 obtain ⟨j,hj,rfl⟩:=hb
 obtain ⟨h1,h2,h3,h4⟩:=rk_all ⟨i,hi⟩ ⟨j,hj⟩
 dsimp only at h1 h2 h3 h4
 have hinj:i=j ↔ verK i=verK j:=⟨fun e=>by rw [e],fun e=>by
  have:=verC_self (verK j)
  rw [<- e] at this
  rw [e] at h2
  exact h2.1 (verC_self _)⟩
 exact ⟨h1,h3.trans hinj,h4,h2.trans hinj⟩
theorem ltV_rk {a b:Ver} (ha:IsK a) (hb:IsK b):ltV a b=decide (rkT a < rkT b):=by
 unfold ltV
 rw [decide_eq_decide]
 exact (rk_lt ha hb).1
theorem insR_congr {α:Type} {p q:α->Bool} {x:α} {l:List α} (h:∀ y ∈ l,p y=q y):insR p x l=insR q x l:=by
 have h2:∀ (l:List α),(∀ y ∈ l,p y=q y)->l.takeWhile p=l.takeWhile q/\l.dropWhile p=l.dropWhile q:=by
  intro l
  induction l with
  | nil=>exact fun _=>⟨rfl,rfl⟩
  | cons z l ih =>
   intro hl
   obtain ⟨a,b⟩:=ih (fun y hy=>hl y (by simp [hy]))
   rw [List.takeWhile_cons,List.takeWhile_cons,List.dropWhile_cons,List.dropWhile_cons,hl z (by simp),a,b]
   exact ⟨rfl,rfl⟩
 obtain ⟨a,b⟩:=h2 l.reverse (fun y hy=>h y (by simpa using hy))
 unfold insR
 rw [a,b]
theorem sortR_rises':∀ (l a:List Ver),(∀ v ∈ l,IsK v)->(∀ v ∈ a,IsK v)->Rises rkT a->(a++l).Nodup->Rises rkT (l.foldl (fun a x=>insR (ltV x) x a) a):=by
 intro l
 induction l with
 | nil=>exact fun a _ _ h _=>h
 | cons x l ih =>
  intro a hl ha hr hn
  have hx:=hl x (by simp)
  have hnx:rkT x ∉ a.map rkT:=fun hm=>by
   obtain ⟨y,hy,e⟩:=List.mem_map.1 hm
   have:=((rk_lt (ha y hy) hx).2.1).1 e
   subst this
   rw [List.nodup_append] at hn
   exact hn.2.2 y hy y (by simp) rfl
  have e:insR (ltV x) x a=insR (fun y=>decide (rkT x < rkT y)) x a:=insR_congr fun y hy=>ltV_rk hx (ha y hy)
  refine ih (insR (ltV x) x a) (fun v hv=>hl v (by simp [hv])) (fun v hv=>?_) (by rw [e];exact insR_rises hr hnx) ?_
  ·rcases (insR_mem _ _ _ _).1 hv with rfl | hv
   ·exact hx
   ·exact ha v hv
  ·have hp:(insR (ltV x) x a++l).Perm (a++x :: l):=by
    unfold insR
    have h0:=List.takeWhile_append_dropWhile (p:=ltV x) (l:=a.reverse)
    have h1:a=(a.reverse.dropWhile (ltV x)).reverse++(a.reverse.takeWhile (ltV x)).reverse:=by
     rw [<- List.reverse_append,h0,List.reverse_reverse]
    conv=>rhs;rw [h1]
    rw [List.append_assoc,List.append_assoc]
    refine List.Perm.append_left _ ?_
    rw [List.cons_append]
    exact List.perm_middle.symm
   exact hp.nodup_iff.2 hn
theorem rises_unique {a b:List Ver} (hka:∀ v ∈ a,IsK v) (hkb:∀ v ∈ b,IsK v) (ha:Rises rkT a) (hb:Rises rkT b) (h:∀ v,v ∈ a ↔ v ∈ b):a=b:=by
 have h1:a.map rkT=b.map rkT:=asc_unique _ _ (List.pairwise_map.2 ha) (List.pairwise_map.2 hb) (fun y=>by
  simp only [List.mem_map]
  exact ⟨fun ⟨v,hv,e⟩=>⟨v,(h v).1 hv,e⟩,fun ⟨v,hv,e⟩=>⟨v,(h v).2 hv,e⟩⟩)
 have hl:a.length=b.length:=by have:=congrArg List.length h1;simpa using this
 refine List.ext_getElem hl fun i h2 h3=>?_
 have h4:(a.map rkT)[i]'(by simpa using h2)=(b.map rkT)[i]'(by simpa using h3):=by simp only [h1]
 rw [List.getElem_map,List.getElem_map] at h4
 exact ((rk_lt (hka _ (List.getElem_mem h2)) (hkb _ (List.getElem_mem h3))).2.1).1 h4
def vsOf (name:List UInt8) (rs:List Rw):List Ver:=(rs.filter fun r=>decide (r.name=name)).map Rw.v
theorem vers_plain (name:List UInt8) (xs:List RwX):(sortR ltVx (versOf name xs)).map VrX.v=sortR ltV (vsOf name (xs.map RwX.r)):=by
 have h:=sortR_map VrX.v ltV (versOf name xs)
 have e:(fun x y:VrX=>ltV x.v y.v)=ltVx:=rfl
 rw [e] at h
 rw [h]
 congr 1
 unfold versOf vsOf
 rw [List.map_map,List.filter_map,List.map_map]
 rfl
def Each (rs:List Rw):Prop:=rs.Pairwise fun a b=>¬ (a.name=b.name/\a.v=b.v)
theorem fresh_each:∀ (l st:List Rw),Fresh st l->Each st->Each (st++l)
 | [],st,_,h=>by simpa using h
 | r :: l,st,hf,h=>by
  have h1:Each (st++[r]):=by
   unfold Each
   rw [List.pairwise_append]
   refine ⟨h,by simp,fun a ha b hb=>?_⟩
   obtain rfl:b=r:=by simpa using hb
   rintro ⟨e1,e2⟩
   have h2:=hf.1
   unfold atL at h2
   rw [List.findIdx?_eq_none_iff] at h2
   have:=h2 a ha
   rw [e1,e2,verC_self] at this
   simp at this
  have:=fresh_each l (st++[r]) hf.2 h1
  simpa using this
theorem vs_nodup {name:List UInt8} {rs:List Rw} (h:Each rs):(vsOf name rs).Nodup:=by
 unfold vsOf List.Nodup
 rw [List.pairwise_map,List.pairwise_filter]
 exact h.imp fun {a b} hab ha hb e=>hab ⟨by rw [of_decide_eq_true ha,of_decide_eq_true hb],e⟩
theorem vs_rises {name:List UInt8} {rs:List Rw} (h:Each rs) (hk:∀ r ∈ rs,IsK r.v):Rises rkT (sortR ltV (vsOf name rs)) :=
 sortR_rises' _ [] (fun v hv=>by
  obtain ⟨r,hr,rfl⟩:=List.mem_map.1 hv
  exact hk r (List.mem_filter.1 hr).1) (fun _ h=>by cases h) List.Pairwise.nil (by simpa using vs_nodup h)
theorem vs_perm {name:List UInt8} {rs ts:List Rw} (h:Each rs) (ht:Each ts) (hk:∀ r ∈ rs,IsK r.v) (hm:∀ r,r ∈ ts ↔ r ∈ rs):sortR ltV (vsOf name ts)=sortR ltV (vsOf name rs):=by
 have hk2:∀ r ∈ ts,IsK r.v:=fun r hr=>hk r ((hm r).1 hr)
 have hmem:∀ v,v ∈ vsOf name ts ↔ v ∈ vsOf name rs:=fun v=>by
  unfold vsOf
  simp only [List.mem_map,List.mem_filter,hm]
 have hK:∀ (us:List Rw),(∀ r ∈ us,IsK r.v)->∀ v ∈ sortR ltV (vsOf name us),IsK v:=fun us hu v hv=>by
  obtain ⟨r,hr,rfl⟩:=List.mem_map.1 ((sortR_mem _ _ _).1 hv)
  exact hu r (List.mem_filter.1 hr).1
 exact rises_unique (hK ts hk2) (hK rs hk) (vs_rises ht hk2) (vs_rises h hk) (fun v=>by rw [sortR_mem,sortR_mem,hmem])
theorem kept_each (l:List SRow) (h4:∀ r ∈ l,r.needs.length<=4):Each ((keptK [] l).map rowK)/\∀ r ∈ (keptK [] l).map rowK,IsK r.v:=by
 obtain ⟨-,h2,-⟩:=kept_good l h4
 refine ⟨by simpa using fresh_each _ [] h2 List.Pairwise.nil,fun r hr=>?_⟩
 obtain ⟨s,-,rfl⟩:=List.mem_map.1 hr
 exact isK _
def rotL {α:Type} (xs:List α) (t k:Nat) (h:0 < xs.length):List α:=(List.range k).map fun i=>xs[(i+t) % xs.length]'(Nat.mod_lt _ h)
theorem rot_mem {α:Type} (xs:List α) (t:Nat) (h:0 < xs.length) (x:α):x ∈ rotL xs t xs.length h ↔ x ∈ xs:=by
 unfold rotL
 simp only [List.mem_map,List.mem_range]
 constructor
 ·rintro ⟨i,-,rfl⟩
  exact List.getElem_mem _
 ·intro hx
  obtain ⟨j,hj,rfl⟩:=List.getElem_of_mem hx
  refine ⟨(j+(xs.length - t % xs.length)) % xs.length,Nat.mod_lt _ h,?_⟩
  have ht:=Nat.mod_lt t h
  congr 1
  rw [Nat.add_mod,Nat.mod_mod,<- Nat.add_mod]
  have e:j+(xs.length - t % xs.length)+t=j+xs.length*(1+t / xs.length):=by
   have:=Nat.div_add_mod t xs.length
   rw [Nat.mul_add]
   omega
  rw [e,Nat.add_mul_mod_self_left,Nat.mod_eq_of_lt hj]
theorem rot_each {xs:List Rw} (h:0 < xs.length) (he:Each xs) (t:Nat):Each (rotL xs t xs.length h):=by
 unfold Each at he ⊢
 rw [List.pairwise_iff_getElem] at he ⊢
 intro i j hi hj hij
 have hi2:i < xs.length:=by simpa [rotL] using hi
 have hj2:j < xs.length:=by simpa [rotL] using hj
 have e1:(rotL xs t xs.length h)[i]=xs[(i+t) % xs.length]'(Nat.mod_lt _ h):=by simp [rotL]
 have e2:(rotL xs t xs.length h)[j]=xs[(j+t) % xs.length]'(Nat.mod_lt _ h):=by simp [rotL]
 rw [e1,e2]
 have hne:(i+t) % xs.length ≠ (j+t) % xs.length:=fun e=>by
  have h1:(i+t) % xs.length=(j+t) % xs.length:=e
  have h2:(j+t - (i+t)) % xs.length=0:=Nat.sub_mod_eq_zero_of_mod_eq h1.symm
  have h3:(j - i) % xs.length=0:=by rw [show j - i=j+t - (i+t) by omega];exact h2
  rw [Nat.mod_eq_of_lt (by omega)] at h3
  omega
 rcases Nat.lt_or_gt_of_ne hne with h3 | h3
 ·exact he _ _ _ _ h3
 ·rintro ⟨a,b⟩
  exact he _ _ _ _ h3 ⟨a.symm,b.symm⟩
structure MG (w w':World):Prop extends Mod No w w' where
 dr:w.drawn<=w'.drawn
theorem MG.refl (w:World):MG w w:=⟨Mod.refl _ _,Nat.le_refl _⟩
theorem MG.trans {a b c:World} (h:MG a b) (k:MG b c):MG a c:=⟨h.toMod.trans k.toMod,Nat.le_trans h.dr k.dr⟩
theorem MG.alloc {a w:World} (h:MG a w) (o:Obj):MG a (w.alloc o):=⟨h.toMod.alloc o,h.dr⟩
theorem MG.drew {a w:World} (h:MG a w):MG a w.drew:=⟨h.toMod.drew,Nat.le_trans h.dr (Nat.le_succ _)⟩
theorem MG.drewN {a w:World} (h:MG a w) (n:Nat):MG a (w.drewN n):=⟨h.toMod.drewN n,Nat.le_trans h.dr (Nat.le_add_right _ _)⟩
theorem MG.gr {w w':World} (h:MG w w'):Gr w w':=by
 obtain ⟨⟨h1,h2,h3,h4,h5⟩,h6⟩:=h
 refine ⟨w'.drawn - w.drawn,w'.heap.extract w.heap.size w'.heap.size,?_⟩
 obtain ⟨hp,tp,dr,os,ou⟩:=w'
 dsimp only at *
 subst h1
 subst h2
 subst h3
 show _=World.mk _ _ _ _ _
 congr 1
 ·show hp=w.heap++hp.extract w.heap.size hp.size
  apply Array.ext
  ·simp;omega
  ·intro i hi1 hi2
   by_cases h:i < w.heap.size
   ·rw [Array.getElem_append_left h]
    have h7:=h5 i h (fun f=>f)
    rw [Array.getElem?_eq_getElem hi1,Array.getElem?_eq_getElem h] at h7
    exact Option.some.inj h7
   ·rw [Array.getElem_append_right (by omega)]
    rw [Array.getElem_extract]
    congr 1
    omega
 ·show dr=w.drawn+(dr - w.drawn)
  omega
set_option maxRecDepth 100000 in
set_option maxHeartbeats 4000000 in
theorem marks_gr (a b:List UInt8) (ha:a.length<=1000000) (hb:b.length<=1000000) (w:World) :
  Calls prog 95 #[strV a,strV b] w fun e w'=>e=.returned (.int .i64 (markC a b))/\MG w w':=by
 refine calls_hide fun R hR=>?_
 have HDA:=zh (digits_any a ha)
 have HDB:=zh (digits_any b hb)
 have HCS:=zh (compareS_any a b)
 have HCN:=zh (compareN_any (a.length:Int) (b.length:Int))
 have HOR:=zh (show ∀ w:World,Calls prog 92 #[.slice (some ⟨w.heap.size,0,none⟩) 2 2] (w.alloc (.cells #[.int .i64 (cmpN a.length b.length),.int .i64 (cmpL a b)] 3)) fun e w'=>e=.returned (.int .i64 (orI [cmpN a.length b.length,cmpL a b]))/\w'=w.alloc (.cells #[.int .i64 (cmpN a.length b.length),.int .i64 (cmpL a b)] 3) from fun w=>or_any [cmpN a.length b.length,cmpL a b] (by simp) _ _ (ints_sl w [cmpN a.length b.length,cmpL a b] (by simp)))
 have HM:markC a b=if digitsB a && digitsB b then orI [cmpN a.length b.length,cmpL a b] else if digitsB a then -1 else if digitsB b then 1 else cmpL a b:=rfl
 have HMH:=zh HM
 clear HM
 unfold strV at *
 have hza:((⟨a.toArray⟩:ByteArray).size:Int)=(a.length:Int):=by rw [str_len3]
 have hzb:((⟨b.toArray⟩:ByteArray).size:Int)=(b.length:Int):=by rw [str_len3]
 generalize (⟨a.toArray⟩:ByteArray)=A at *
 generalize (⟨b.toArray⟩:ByteArray)=B at *
 generalize cmpN a.length b.length=cn at *
 generalize cmpL a b=cl at *
 generalize digitsB a=da at *
 generalize digitsB b=db at *
 go_enter func95,ntmps95
 go_wp2_with fail
 with_reducible refine (HDA.out _).mono ?_
 rintro e w1 ⟨rfl,rfl⟩
 go_wp2_with fail
 with_reducible refine (HDB.out _).mono ?_
 rintro e w1 ⟨rfl,rfl⟩
 rcases da with _ | _
 ·rcases db with _ | _
  ·go_wp2_with fail
   with_reducible refine (HCS.out _).mono ?_
   rintro e w1 ⟨rfl,rfl⟩
   go_wp2_with fail
   exact fin hR ⟨by rw [HMH.out];rfl,MG.refl _⟩
  ·go_wp2_with fail
   exact fin hR ⟨by rw [HMH.out];rfl,MG.refl _⟩
 ·rcases db with _ | _
  ·go_wp2_with fail
   exact fin hR ⟨by rw [HMH.out];rfl,MG.refl _⟩
  ·go_wp2_with fail
   with_reducible refine (HCN.out _).mono ?_
   rintro e w1 ⟨rfl,rfl⟩
   go_wp2_with fail
   with_reducible refine (HCS.out _).mono ?_
   rintro e w1 ⟨rfl,rfl⟩
   go_wp2_with fail
   with_reducible refine (HOR.out _).mono ?_
   rintro e w2 ⟨rfl,rfl⟩
   go_wp2_with fail
   exact fin hR ⟨by rw [HMH.out];rfl,(MG.refl _).alloc _⟩
set_option maxRecDepth 100000 in
set_option maxHeartbeats 4000000 in
theorem compmarks_gr (xs ys:List (List UInt8)) (hx:xs.length<=1000000) (hy:ys.length<=1000000) (hxl:∀ x ∈ xs,x.length<=1000000) (hyl:∀ y ∈ ys,y.length<=1000000) (v u:Value) (w:World) (hv:Sl w No 9 v xs.length (strs xs)) (hu:Sl w No 9 u ys.length (strs ys)) :
  Calls prog 94 #[v,u,.func (.func 95) #[] #[]] w fun e w'=>e=.returned (.int .i64 (preC xs ys))/\MG w w':=by
 refine calls_hide fun R hR=>?_
 obtain ⟨va,vc,rfl⟩:=hv.len
 obtain ⟨ua,uc,rfl⟩:=hu.len
 have HV:=zh hv
 have HU:=zh hu
 have HMK:=zh (fun i (hi:i < xs.length) (hj:i < ys.length)=>marks_gr xs[i] ys[i] (hxl _ (List.getElem_mem hi)) (hyl _ (List.getElem_mem hj)))
 clear hv hu hxl hyl
 have eg:∀ args w,(callFunc 95 args).run prog w=.ok (.enter 95 args) w:=fun _ _=>rfl
 go_enter func94,ntmps94
 go_wp2_with fail
 go_loopw [13] (fun q wr=>∃ k:Nat,k<=xs.length/\k<=ys.length/\q=.int .i64 k/\MG w wr/\∀ i (h1:i < xs.length) (h2:i < ys.length),i < k->markC xs[i] ys[i]=0) (fun q _=>xs.length - (intOf q).toNat)
 case atStart=>exact ⟨0,by omega,by omega,rfl,MG.refl _,fun i _ _ hi=>absurd hi (by omega)⟩
 case round =>
  obtain ⟨k,hk,hky,rfl,hmod,hno⟩:=hrel
  have HM:=zh hmod
  have HNO:=zh hno
  have hk0:(0:Int)<=(k:Int):=Int.natCast_nonneg _
  clear hmod hno
  by_cases hlt:k < xs.length
  ·have hk1:(k:Int) < (xs.length:Int):=by omega
   obtain ⟨b,o,c,hvs,_⟩:=HV.out.shape (by omega)
   cases hvs
   have hcell:=HM.out.cell (HV.out.cellN (i:=k) (by rw [strs_length];exact hlt)) (fun f=>f)
   rw [show (strs xs)[k]'(by rw [strs_length];exact hlt)=.string ⟨xs[k].toArray⟩ from by simp [strs,strV]] at hcell
   by_cases hly:k < ys.length
   ·have hk2:(k:Int) < (ys.length:Int):=by omega
    obtain ⟨b2,o2,c2,hus,_⟩:=HU.out.shape (by omega)
    cases hus
    have hcell2:=HM.out.cell (HU.out.cellN (i:=k) (by rw [strs_length];exact hly)) (fun f=>f)
    rw [show (strs ys)[k]'(by rw [strs_length];exact hly)=.string ⟨ys[k].toArray⟩ from by simp [strs,strV]] at hcell2
    have HC:=zh (HMK.out k hlt hly)
    have HN:=zh (show markC xs[k] ys[k]=0->∀ i (h1:i < xs.length) (h2:i < ys.length),i < k+1->markC xs[i] ys[i]=0 from fun h i h1 h2 hik=>by
     rcases Nat.lt_or_ge i k with h3 | h3
     ·exact HNO.out i h1 h2 h3
     ·obtain rfl:i=k:=by omega
      exact h)
    have HH:=zh (show markC xs[k] ys[k] ≠ 0->preC xs ys=markC xs[k] ys[k] from fun h=>preC_hit hlt hly HNO.out h)
    clear HNO
    go_wp2_with fail
    with_reducible refine (HC.out _).mono ?_
    rintro e w2 ⟨rfl,hm2⟩
    have HM2:=zh (HM.out.trans hm2)
    clear hm2
    generalize markC xs[k] ys[k]=mk at *
    by_cases h0:mk=0
    ·subst h0
     have hn:=HN.out rfl
     have HN2:=zh hn
     clear hn HN HH
     go_wp2_with fail
     exact ⟨⟨k+1,by omega,by omega,rfl,HM2.out,HN2.out⟩,by show xs.length - ((k:Int)+1).toNat < xs.length - (k:Int).toNat;omega⟩
    ·have h0b:(mk != 0)=true:=by simpa using h0
     have HH2:=zh (HH.out h0)
     clear HN HH
     go_wp2_with fail
     exact fin hR ⟨(by rw [HH2.out];try rfl),HM2.out⟩
   ·have hk2:(ys.length:Int)<=(k:Int):=by omega
    have HE:=zh (preC_end (k:=k) hk hky (.inr (by omega)) HNO.out)
    have hc:cmpN (xs.length:Int) (ys.length:Int)=1:=by unfold cmpN;rw [if_neg (by omega),if_pos (by omega)]
    rw [hc] at HE
    clear HNO
    go_wp2_with fail
    exact fin hR ⟨(by rw [HE.out];try rfl),HM.out⟩
  ·have HE:=zh (preC_end (k:=k) hk hky (.inl (by omega)) HNO.out)
   clear HNO
   by_cases hly:xs.length < ys.length
   ·have hl2:(xs.length:Int) < (ys.length:Int):=by omega
    have hc:cmpN (xs.length:Int) (ys.length:Int) = -1:=if_pos hl2
    rw [hc] at HE
    go_wp2_with fail
    exact fin hR ⟨(by rw [HE.out];try rfl),HM.out⟩
   ·have hl2:¬ (xs.length:Int) < (ys.length:Int):=by omega
    have hc:cmpN (xs.length:Int) (ys.length:Int)=0:=by unfold cmpN;rw [if_neg hl2,if_neg (by omega)]
    rw [hc] at HE
    go_wp2_with fail
    exact fin hR ⟨(by rw [HE.out];try rfl),HM.out⟩
set_option maxRecDepth 100000 in
set_option maxHeartbeats 8000000 in
theorem vercmp_gr (a b:Ver) (ha:Small a) (hb:Small b) (pa pb:Value) (w:World) (hpa:Sl w No 9 pa a.pre.length (strs a.pre)) (hpb:Sl w No 9 pb b.pre.length (strs b.pre)) :
  Calls prog 59 #[verV a pa,verV b pb] w fun e w'=>e=.returned (.int .i64 (verC a b))/\MG w w':=by
 refine calls_hide fun R hR=>?_
 obtain ⟨a0,a1,a2,as'⟩:=a
 obtain ⟨b0,b1,b2,bs'⟩:=b
 obtain ⟨va,vc,rfl⟩:=hpa.len
 obtain ⟨ua,uc,rfl⟩:=hpb.len
 have HPA:=zh hpa
 have HPB:=zh hpb
 have HCN:=zh compareN_any
 have HOR:=zh (show ∀ w:World,Calls prog 92 #[.slice (some ⟨w.heap.size,0,none⟩) 3 3] (w.alloc (.cells #[.int .i64 (cmpN a0 b0),.int .i64 (cmpN a1 b1),.int .i64 (cmpN a2 b2)] 3)) fun e w'=>e=.returned (.int .i64 (orI [cmpN a0 b0,cmpN a1 b1,cmpN a2 b2]))/\w'=w.alloc (.cells #[.int .i64 (cmpN a0 b0),.int .i64 (cmpN a1 b1),.int .i64 (cmpN a2 b2)] 3) from fun w=>or_any [cmpN a0 b0,cmpN a1 b1,cmpN a2 b2] (by simp) _ _ (ints_sl w [cmpN a0 b0,cmpN a1 b1,cmpN a2 b2] (by simp)))
 have HCM:=zh (fun (w:World) h1 h2=>compmarks_gr as' bs' ha.len hb.len ha.each hb.each (.slice va as'.length vc) (.slice ua bs'.length uc) w h1 h2)
 have HVC:=zh (show verC ⟨a0,a1,a2,as'⟩ ⟨b0,b1,b2,bs'⟩=if orI [cmpN a0 b0,cmpN a1 b1,cmpN a2 b2]=0 then if as'=[]\/bs'=[] then cmpN bs'.length as'.length else preC as' bs' else orI [cmpN a0 b0,cmpN a1 b1,cmpN a2 b2] from rfl)
 clear hpa hpb ha hb
 unfold verV at *
 dsimp only at *
 go_enter func59,ntmps59
 go_upto_region 1 with fail
 obtain ⟨gx,hgx⟩:∃ g,g=w.heap.size:=⟨_,rfl⟩
 obtain ⟨gy,hgy⟩:∃ g,g=gx+1:=⟨_,rfl⟩
 rw [<- hgx,<- hgy]
 obtain ⟨wA,hwA⟩:∃ z,z=((w.alloc (.cells #[.int .i64 a0,.int .i64 a1,.int .i64 a2,.slice va as'.length vc] 40)).alloc (.cells #[.int .i64 b0,.int .i64 b1,.int .i64 b2,.slice ua bs'.length uc] 40)).drew:=⟨_,rfl⟩
 have hx1:wA.heap[gx]? = some (.cells #[.int .i64 a0,.int .i64 a1,.int .i64 a2,.slice va as'.length vc] 40 (0,0)):=by rw [hwA,hgx];exact ((MG.refl _).alloc _).drew.keep (heap_alloc_new w _) (fun f=>f)
 have hy1:wA.heap[gy]? = some (.cells #[.int .i64 b0,.int .i64 b1,.int .i64 b2,.slice ua bs'.length uc] 40 (0,0)):=by
  rw [hwA,hgy,hgx]
  have h1:=heap_alloc_new (w.alloc (.cells #[.int .i64 a0,.int .i64 a1,.int .i64 a2,.slice va as'.length vc] 40)) (.cells #[.int .i64 b0,.int .i64 b1,.int .i64 b2,.slice ua bs'.length uc] 40)
  rw [show (w.alloc (.cells #[.int .i64 a0,.int .i64 a1,.int .i64 a2,.slice va as'.length vc] 40)).heap.size=w.heap.size+1 by simp] at h1
  exact h1
 have HMA:=zh (show MG w wA by rw [hwA];exact (((MG.refl w).alloc _).alloc _).drew)
 have HWA:=zh hwA
 clear hwA hgx hgy
 have HSM:=zh (show ∀ w',MG wA w'->w'.cell? ⟨gx,0,none⟩=some (.int .i64 a0)/\w'.cell? ⟨gx,1,none⟩=some (.int .i64 a1)/\w'.cell? ⟨gx,2,none⟩=some (.int .i64 a2)/\w'.cell? ⟨gy,0,none⟩=some (.int .i64 b0)/\w'.cell? ⟨gy,1,none⟩=some (.int .i64 b1)/\w'.cell? ⟨gy,2,none⟩=some (.int .i64 b2) from fun w' hm =>
  ⟨cell_ofA (hm.keep hx1 (fun f=>f)) rfl,cell_ofA (hm.keep hx1 (fun f=>f)) rfl,cell_ofA (hm.keep hx1 (fun f=>f)) rfl,cell_ofA (hm.keep hy1 (fun f=>f)) rfl,cell_ofA (hm.keep hy1 (fun f=>f)) rfl,cell_ofA (hm.keep hy1 (fun f=>f)) rfl⟩)
 have hS0:=HSM.out wA (MG.refl _)
 have HX1:=zh hx1
 have HY1:=zh hy1
 clear hx1 hy1
 refine wp_region_T (fun w'=>w'.cell? ⟨gx,0,none⟩=some (.int .i64 a0)/\w'.cell? ⟨gx,1,none⟩=some (.int .i64 a1)/\w'.cell? ⟨gx,2,none⟩=some (.int .i64 a2)/\w'.cell? ⟨gy,0,none⟩=some (.int .i64 b0)/\w'.cell? ⟨gy,1,none⟩=some (.int .i64 b1)/\w'.cell? ⟨gy,2,none⟩=some (.int .i64 b2)) 99 (by kernel_rfl) ?_
 rw [<- HWA.out]
 clear HWA
 refine yT 0 (some 6) ?_ hS0 ?_ ?_
 rotate_left
 ·(intro w' hSw;obtain ⟨c0,c1,c2,c3,c4,c5⟩:=hSw;go_simp;try with_reducible rfl)
 simp only [Act.put,yB,yC,yD]
 refine yT 1 (some 7) ?_ hS0 ?_ ?_
 rotate_left
 ·(intro w' hSw;obtain ⟨c0,c1,c2,c3,c4,c5⟩:=hSw;go_simp;try with_reducible rfl)
 simp only [Act.put,yB,yC,yD]
 refine yT 2 (some 8) ?_ hS0 ?_ ?_
 rotate_left
 ·(intro w' hSw;obtain ⟨c0,c1,c2,c3,c4,c5⟩:=hSw;go_simp;try with_reducible rfl)
 simp only [Act.put,yB,yC,yD]
 refine yT 3 (some 9) ?_ hS0 ?_ ?_
 rotate_left
 ·(intro w' hSw;obtain ⟨c0,c1,c2,c3,c4,c5⟩:=hSw;go_simp;try with_reducible rfl)
 simp only [Act.put,yB,yC,yD]
 refine yT 5 (some 11) ?_ hS0 ?_ ?_
 rotate_left
 ·(intro w' hSw;obtain ⟨c0,c1,c2,c3,c4,c5⟩:=hSw;go_simp;try with_reducible rfl)
 simp only [Act.put,yB,yC,yD]
 refine yT 6 (some 12) ?_ hS0 ?_ ?_
 rotate_left
 ·(intro w' hSw;obtain ⟨c0,c1,c2,c3,c4,c5⟩:=hSw;go_simp;try with_reducible rfl)
 simp only [Act.put,yB,yC,yD]
 refine yT 7 (some 13) ?_ hS0 ?_ ?_
 rotate_left
 ·(intro w' hSw;obtain ⟨c0,c1,c2,c3,c4,c5⟩:=hSw;go_simp;try with_reducible rfl)
 simp only [Act.put,yB,yC,yD]
 refine yT 8 (some 14) ?_ hS0 ?_ ?_
 rotate_left
 ·(intro w' hSw;obtain ⟨c0,c1,c2,c3,c4,c5⟩:=hSw;go_simp;try with_reducible rfl)
 simp only [Act.put,yB,yC,yD]
 refine yT 10 (some 16) ?_ hS0 ?_ ?_
 rotate_left
 ·(intro w' hSw;obtain ⟨c0,c1,c2,c3,c4,c5⟩:=hSw;go_simp;try with_reducible rfl)
 simp only [Act.put,yB,yC,yD]
 refine yT 11 (some 17) ?_ hS0 ?_ ?_
 rotate_left
 ·(intro w' hSw;obtain ⟨c0,c1,c2,c3,c4,c5⟩:=hSw;go_simp;try with_reducible rfl)
 simp only [Act.put,yB,yC,yD]
 refine yT 12 (some 18) ?_ hS0 ?_ ?_
 rotate_left
 ·(intro w' hSw;obtain ⟨c0,c1,c2,c3,c4,c5⟩:=hSw;go_simp;try with_reducible rfl)
 simp only [Act.put,yB,yC,yD]
 refine yT 13 (some 19) ?_ hS0 ?_ ?_
 rotate_left
 ·(intro w' hSw;obtain ⟨c0,c1,c2,c3,c4,c5⟩:=hSw;go_simp;try with_reducible rfl)
 simp only [Act.put,yB,yC,yD]
 refine wpAnyT_one 4 rfl (by kernel_rfl) rfl ?_
 intro K hK
 go_simp
 go_at_call 93
 with_reducible refine (HCN.out a0 b0 _).mono ?_
 rintro e wB ⟨rfl,hB⟩
 rw [hB]
 clear hB wB
 show K _ _
 have hS1:=hS0
 refine hK.out _ _ (fun _=>hS1) ?_
 clear hK K
 refine wpAnyT_one 9 rfl (by kernel_rfl) rfl ?_
 intro K hK
 go_simp
 go_at_call 93
 with_reducible refine (HCN.out a1 b1 _).mono ?_
 rintro e wB ⟨rfl,hB⟩
 rw [hB]
 clear hB wB
 show K _ _
 have hS2:=hS0
 refine hK.out _ _ (fun _=>hS2) ?_
 clear hK K
 refine wpAnyT_one 14 rfl (by kernel_rfl) rfl ?_
 intro K hK
 go_simp
 go_at_call 93
 with_reducible refine (HCN.out a2 b2 _).mono ?_
 rintro e wB ⟨rfl,hB⟩
 rw [hB]
 clear hB wB
 show K _ _
 have hS3:=hS0
 refine hK.out _ _ (fun _=>hS3) ?_
 clear hK K
 refine wpAnyT_one 15 rfl (by kernel_rfl) rfl ?_
 intro K hK
 go_simp
 show K _ _
 have hS4:=HSM.out (wA.alloc (.cells #[.int .i64 (cmpN a0 b0),.int .i64 (cmpN a1 b1),.int .i64 (cmpN a2 b2)] 3)) ((MG.refl wA).alloc _)
 refine hK.out _ _ (fun _=>hS4) ?_
 clear hK K
 refine wpAnyT_one 16 rfl (by kernel_rfl) rfl ?_
 intro K hK
 go_simp
 go_at_call 92
 with_reducible refine (HOR.out wA).mono ?_
 rintro e wB ⟨rfl,hB⟩
 rw [hB]
 clear hB wB
 show K _ _
 have hS5:=HSM.out (wA.alloc (.cells #[.int .i64 (cmpN a0 b0),.int .i64 (cmpN a1 b1),.int .i64 (cmpN a2 b2)] 3)) ((MG.refl wA).alloc _)
 refine hK.out _ _ (fun _=>hS5) ?_
 clear hK K
 refine yT 17 (some 5) ?_ hS5 ?_ ?_
 rotate_left
 ·(intro w' hSw;obtain ⟨c0,c1,c2,c3,c4,c5⟩:=hSw;go_simp;try with_reducible rfl)
 simp only [Act.put]
 refine wpAnyT_done (by kernel_rfl) ?_ _
 obtain ⟨wC,hwC⟩:∃ z,z=wA.alloc (.cells #[.int .i64 (cmpN a0 b0),.int .i64 (cmpN a1 b1),.int .i64 (cmpN a2 b2)] 3):=⟨_,rfl⟩
 have HMC:=zh (show MG w wC by rw [hwC];exact HMA.out.alloc _)
 have hX:=heap_alloc_old (.cells #[.int .i64 (cmpN a0 b0),.int .i64 (cmpN a1 b1),.int .i64 (cmpN a2 b2)] 3) HX1.out
 have hY:=heap_alloc_old (.cells #[.int .i64 (cmpN a0 b0),.int .i64 (cmpN a1 b1),.int .i64 (cmpN a2 b2)] 3) HY1.out
 rw [<- hwC] at hX hY
 have HPA2:=zh (HPA.out.keep (S:=No) HMC.out.toMod (fun _ _ _ f=>f.elim))
 have HPB2:=zh (HPB.out.keep (S:=No) HMC.out.toMod (fun _ _ _ f=>f.elim))
 have cx:=cell_ofA (i:=3) hX rfl
 have cy:=cell_ofA (i:=3) hY rfl
 have HXY:=zh (show ∀ w',MG wC w'->w'.cell? ⟨gx,3,none⟩=some (.slice va as'.length vc)/\w'.cell? ⟨gy,3,none⟩=some (.slice ua bs'.length uc) from fun w' hm=>⟨hm.cell cx (fun f=>f),hm.cell cy (fun f=>f)⟩)
 rw [<- hwC]
 clear hwC hX hY HSM hS0 HX1 HY1 HPA HPB HMA HOR
 generalize orI [cmpN a0 b0,cmpN a1 b1,cmpN a2 b2]=o at *
 by_cases ho:o=0
 ·subst ho
  have hvc:=HVC.out
  rw [if_pos rfl] at hvc
  clear HVC
  by_cases he:as'=[]\/bs'=[]
  ·rw [if_pos he] at hvc
   have hle:as'.length=0\/bs'.length=0:=he.imp (fun h=>by rw [h];rfl) (fun h=>by rw [h];rfl)
   rw [<- cmp_sub hle] at hvc
   have HV5:=zh hvc
   clear hvc HCM he HPA2 HPB2
   generalize as'.length=la at *
   generalize bs'.length=lb at *
   by_cases hla:la=0
   ·subst hla
    go_upto_region 5 with fail
    go_quiet (first | (go_at_call 93;refine Calls.quiet_of_same (HCN.out _ _ _)))
    go_wp2_with fail
    exact fin hR ⟨(by rw [HV5.out];try rfl),HMC.out.drewN _⟩
   ·have e1:((la:Int) == 0)=false:=by simpa using hla
    obtain rfl:=hle.resolve_left hla
    go_upto_region 5 with fail
    go_quiet (first | (go_at_call 93;refine Calls.quiet_of_same (HCN.out _ _ _)))
    go_wp2_with fail
    exact fin hR ⟨(by rw [HV5.out];try rfl),HMC.out.drewN _⟩
  ·rw [if_neg he] at hvc
   have HV6:=zh hvc
   have e1:((as'.length:Int) == 0)=false:=by
    rw [beq_eq_false_iff_ne]
    intro h
    exact he (.inl (List.eq_nil_of_length_eq_zero (by omega)))
   have e2:((bs'.length:Int) == 0)=false:=by
    rw [beq_eq_false_iff_ne]
    intro h
    exact he (.inr (List.eq_nil_of_length_eq_zero (by omega)))
   have HC6:=zh (HCM.out wC HPA2.out HPB2.out)
   clear hvc HCM he
   go_wp2_with fail
   with_reducible refine HC6.out.mono ?_
   rintro e w2 ⟨rfl,hm2⟩
   have HM2:=zh (HMC.out.trans hm2)
   clear hm2
   go_wp2_with fail
   exact fin hR ⟨(by rw [HV6.out];try rfl),HM2.out⟩
 ·have hvc:=HVC.out
  rw [if_neg ho] at hvc
  have HV7:=zh hvc
  have hob:(o != 0)=true:=by simpa using ho
  clear hvc HVC
  go_wp2_with fail
  exact fin hR ⟨(by rw [HV7.out];try rfl),HMC.out⟩
end Go.Proofs.YtgiigemfbebcgaaGreatDoor
