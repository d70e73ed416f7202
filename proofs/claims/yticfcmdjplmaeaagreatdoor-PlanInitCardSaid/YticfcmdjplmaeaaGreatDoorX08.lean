/-
  Layers 0 to 14: helps of the laws of indexes. No statement is proved here; no condition.
-/
import Derived.Test.YticfcmdjplmaeaaGreatDoorX02
import Derived.Test.YticfcmdjplmaeaaGreatDoorX01
import Derived.Shelf.SlSortCmp.InsertionK
import Derived.Ground.SlsfProg
import Derived.Test.YticfcmdjplmaeaaGreatDoorProg
set_option maxRecDepth 100000
set_option maxHeartbeats 64000000
namespace Go.Proofs
open Go.Shelf
def Tryz.insNd_ren:Go.Shelf.Ren:=⟨fun | 20=>213 | n=>n,fun | 24=>98 | 22=>44 | 3=>3 | 25=>198 | 4=>4 | 0=>0 | n=>n,fun | n=>n⟩
theorem Tryz.insNd:Go.Proofs.SlLaysF0.n20 Tryz.prog Tryz.insNd_ren:={
 mixed:=by kernel_rfl
 f20:=⟨Tryz.f213.name,by decide,Tryz.func213.trans (congrArg some (by kernel_rfl))⟩
 t0:=Tryz.underlying0
 a0:=Tryz.isAgg0
 z0:=Tryz.sizeOf0
 v0:=Tryz.zeroValue0
 t3:=Tryz.underlying3
 a3:=Tryz.isAgg3
 z3:=Tryz.sizeOf3
 v3:=Tryz.zeroValue3
 t4:=Tryz.underlying4
 a4:=Tryz.isAgg4
 z4:=Tryz.sizeOf4
 v4:=Tryz.zeroValue4
 t22:=Tryz.underlying44
 a22:=Tryz.isAgg44
 z22:=Tryz.sizeOf44
 v22:=Tryz.zeroValue44
 t25:=Tryz.underlying198
 a25:=Tryz.isAgg198
 z25:=Tryz.sizeOf198
 v25:=Tryz.zeroValue198 }
def Tryz.insPn_ren:Go.Shelf.Ren:=⟨fun | 20=>257 | n=>n,fun | 24=>120 | 22=>25 | 3=>3 | 25=>268 | 4=>4 | 0=>0 | n=>n,fun | n=>n⟩
theorem Tryz.insPn:Go.Proofs.SlLaysF0.n20 Tryz.prog Tryz.insPn_ren:={
 mixed:=by kernel_rfl
 f20:=⟨Tryz.f257.name,by decide,Tryz.func257.trans (congrArg some (by kernel_rfl))⟩
 t0:=Tryz.underlying0
 a0:=Tryz.isAgg0
 z0:=Tryz.sizeOf0
 v0:=Tryz.zeroValue0
 t3:=Tryz.underlying3
 a3:=Tryz.isAgg3
 z3:=Tryz.sizeOf3
 v3:=Tryz.zeroValue3
 t4:=Tryz.underlying4
 a4:=Tryz.isAgg4
 z4:=Tryz.sizeOf4
 v4:=Tryz.zeroValue4
 t22:=Tryz.underlying25
 a22:=Tryz.isAgg25
 z22:=Tryz.sizeOf25
 v22:=Tryz.zeroValue25
 t25:=Tryz.underlying268
 a25:=Tryz.isAgg268
 z25:=Tryz.sizeOf268
 v25:=Tryz.zeroValue268 }
end Go.Proofs
namespace Go.Proofs.YticfcmdjplmaeaaGreatDoor
open _root_.Go.Proofs.Tryz
open Go.RowKit Go.Sort
def Gr (w w':World):Prop:=∃ q os,w'=grow (w.drewN q) os
theorem Gr.mod {w w':World} (h:Gr w w'):Mod No w w':=by
 obtain ⟨q,os,rfl⟩:=h;refine ⟨rfl,rfl,rfl,?_,fun k hk _=>?_⟩
 ·show w.heap.size<=(w.heap++os).size
  simp
 ·show (w.heap++os)[k]? = _
  rw [Array.getElem?_append_left hk]
theorem Gr.refl (w:World):Gr w w:=⟨0,#[],by rw [grow_empty];rfl⟩
theorem Gr.alloc {w0 w:World} (h:Gr w0 w) (o:Obj):Gr w0 (w.alloc o):=by
 obtain ⟨q,os,rfl⟩:=h;exact ⟨q,os ++ #[o],by rw [alloc_eq_grow,grow_grow]⟩
/-! ### The sort, as a list -/
section
variable {α:Type} [Inhabited α]
theorem inner_list (lt:α->α->Bool):∀ (A:List α) (x:α) (R:List α),insInner lt 0 A.length ((A++x :: R).toArray)=(insR (lt x) x A++R).toArray:=by
 intro A;induction h:A.length generalizing A with
 | zero =>
  intro x R;rw [List.length_eq_zero_iff.1 h];rfl
 | succ n ih =>
  intro x R;have hne:A ≠ []:=by intro e;rw [e] at h;cases h
  obtain ⟨B,y,rfl⟩:∃ B y,A=B++[y]:=⟨_,_,(List.dropLast_concat_getLast hne).symm⟩
  have hB:B.length=n:=by simpa using h
  subst hB;have e1:((B++[y]++x :: R).toArray)[B.length+1]! = x:=by simp
  have e2:((B++[y]++x :: R).toArray)[B.length]! = y:=by simp
  rw [insInner,e1,e2];by_cases hl:lt x y=true
  ·rw [if_pos (by simp [hl])];have e3:swp ((B++[y]++x :: R).toArray) (B.length+1) B.length=((B++x :: (y :: R)).toArray):=by
    unfold swp;rw [e1,e2];simp
   rw [e3,ih B rfl x (y :: R)];have e4:insR (lt x) x (B++[y])=insR (lt x) x B++[y]:=by
    unfold insR;rw [List.reverse_append];show ((([y]++B.reverse).dropWhile (lt x)).reverse++x :: (([y]++B.reverse).takeWhile (lt x)).reverse)=_
    rw [List.singleton_append,List.dropWhile_cons,List.takeWhile_cons,if_pos hl,if_pos hl,List.reverse_cons];simp
   rw [e4];simp
  ·rw [if_neg (by simp [hl])];have e4:insR (lt x) x (B++[y])=B++[y]++[x]:=by
    unfold insR;rw [List.reverse_append];show ((([y]++B.reverse).dropWhile (lt x)).reverse++x :: (([y]++B.reverse).takeWhile (lt x)).reverse)=_
    rw [List.singleton_append,List.dropWhile_cons,List.takeWhile_cons,if_neg hl,if_neg hl];simp
   rw [e4];simp
theorem outer_list (lt:α->α->Bool) (l:List α):∀ (d i:Nat),l.length=i+d->insOuter lt 0 l.length i ((sortR lt (l.take i)++l.drop i).toArray)=(sortR lt l).toArray:=by
 intro d;induction d with
 | zero =>
  intro i hi;rw [insOuter,if_neg (by omega),List.take_of_length_le (by omega),List.drop_eq_nil_of_le (by omega),List.append_nil]
 | succ d ih =>
  intro i hi;have hlt:i < l.length:=by omega
  rw [insOuter,if_pos hlt,List.drop_eq_getElem_cons hlt];have hs:(sortR lt (l.take i)).length=i:=by rw [sortR_length,List.length_take];omega
  have h1:=inner_list lt (sortR lt (l.take i)) l[i] (l.drop (i+1));rw [hs] at h1;rw [h1,<- sortR_take lt l hlt];exact ih (i+1) (by omega)
theorem sort_list (lt:α->α->Bool) (l:List α):insertionSort lt l.toArray 0 l.length=(sortR lt l).toArray:=by
 unfold insertionSort;cases l with
 | nil=>rw [insOuter,if_neg (by simp)];rfl
 | cons x r =>
  have h:=outer_list lt (x :: r) r.length 1 (by simp;omega);have e:sortR lt ((x :: r).take 1)=[x]:=rfl;rw [e] at h;exact h
end
end Go.Proofs.YticfcmdjplmaeaaGreatDoor
namespace Go.Proofs.YticfcmdjplmaeaaGreatDoor
open _root_.Go.Proofs.Tryz
open Go.RowKit Go.Sort
structure MG (w w':World):Prop extends Mod No w w' where
 dr:w.drawn<=w'.drawn
theorem MG.refl (w:World):MG w w:=⟨Mod.refl _ _,Nat.le_refl _⟩
theorem MG.trans {a b c:World} (h:MG a b) (k:MG b c):MG a c:=⟨h.toMod.trans k.toMod,Nat.le_trans h.dr k.dr⟩
theorem MG.alloc {a w:World} (h:MG a w) (o:Obj):MG a (w.alloc o):=⟨h.toMod.alloc o,h.dr⟩
theorem MG.drew {a w:World} (h:MG a w):MG a w.drew:=⟨h.toMod.drew,Nat.le_trans h.dr (Nat.le_succ _)⟩
theorem MG.drewN {a w:World} (h:MG a w) (n:Nat):MG a (w.drewN n):=⟨h.toMod.drewN n,Nat.le_trans h.dr (Nat.le_add_right _ _)⟩
theorem MG.gr {w w':World} (h:MG w w'):Gr w w':=by
 obtain ⟨⟨h1,h2,h3,h4,h5⟩,h6⟩:=h;refine ⟨w'.drawn - w.drawn,w'.heap.extract w.heap.size w'.heap.size,?_⟩
 obtain ⟨hp,tp,dr,os,ou⟩:=w';dsimp only at *;subst h1;subst h2;subst h3;show _=World.mk _ _ _ _ _
 congr 1
 ·show hp=w.heap++hp.extract w.heap.size hp.size
  apply Array.ext
  ·simp;omega
  ·intro i hi1 hi2;by_cases h:i < w.heap.size
   ·rw [Array.getElem_append_left h];have h7:=h5 i h (fun f=>f);rw [Array.getElem?_eq_getElem hi1,Array.getElem?_eq_getElem h] at h7;exact Option.some.inj h7
   ·rw [Array.getElem_append_right (by omega)];rw [Array.getElem_extract];congr 1
    omega
 ·show dr=w.drawn+(dr - w.drawn)
  omega
theorem marks_gr (a b:List UInt8) (ha:a.length<=1000000) (hb:b.length<=1000000) (w:World) :
  Calls prog 274 #[strV a,strV b] w fun e w'=>e=.returned (.int .i64 (markC a b))/\MG w w':=by
 refine calls_hide fun R hR=>?_
 have HDA:=zh (digits_any a ha);have HDB:=zh (digits_any b hb);have HCS:=zh (compareS_any a b);have HCN:=zh (compareN_any (a.length:Int) (b.length:Int));have HOR:=zh (show ∀ w:World,Calls prog 271 #[.slice (some ⟨w.heap.size,0,none⟩) 2 2] (w.alloc (.cells #[.int .i64 (cmpN a.length b.length),.int .i64 (cmpL a b)] 3)) fun e w'=>e=.returned (.int .i64 (orI [cmpN a.length b.length,cmpL a b]))/\w'=w.alloc (.cells #[.int .i64 (cmpN a.length b.length),.int .i64 (cmpL a b)] 3) from fun w=>or_any [cmpN a.length b.length,cmpL a b] (by simp) _ _ (ints_sl w [cmpN a.length b.length,cmpL a b] (by simp)));have HM:markC a b=if digitsB a && digitsB b then orI [cmpN a.length b.length,cmpL a b] else if digitsB a then -1 else if digitsB b then 1 else cmpL a b:=rfl
 have HMH:=zh HM;clear HM;unfold strV at *;have hza:((⟨a.toArray⟩:ByteArray).size:Int)=(a.length:Int):=by rw [str_len3]
 have hzb:((⟨b.toArray⟩:ByteArray).size:Int)=(b.length:Int):=by rw [str_len3]
 generalize (⟨a.toArray⟩:ByteArray)=A at *;generalize (⟨b.toArray⟩:ByteArray)=B at *;generalize cmpN a.length b.length=cn at *;generalize cmpL a b=cl at *;generalize digitsB a=da at *;generalize digitsB b=db at *;go_enter func274,ntmps274
 go_wp2_with fail
 with_reducible refine (HDA.out _).mono ?_
 rintro e w1 ⟨rfl,rfl⟩;go_wp2_with fail
 with_reducible refine (HDB.out _).mono ?_
 rintro e w1 ⟨rfl,rfl⟩;rcases da with _ | _
 ·rcases db with _ | _
  ·go_wp2_with fail
   with_reducible refine (HCS.out _).mono ?_
   rintro e w1 ⟨rfl,rfl⟩;go_wp2_with fail
   exact fin hR ⟨by rw [HMH.out];rfl,MG.refl _⟩
  ·go_wp2_with fail
   exact fin hR ⟨by rw [HMH.out];rfl,MG.refl _⟩
 ·rcases db with _ | _
  ·go_wp2_with fail
   exact fin hR ⟨by rw [HMH.out];rfl,MG.refl _⟩
  ·go_wp2_with fail
   with_reducible refine (HCN.out _).mono ?_
   rintro e w1 ⟨rfl,rfl⟩;go_wp2_with fail
   with_reducible refine (HCS.out _).mono ?_
   rintro e w1 ⟨rfl,rfl⟩;go_wp2_with fail
   with_reducible refine (HOR.out _).mono ?_
   rintro e w2 ⟨rfl,rfl⟩;go_wp2_with fail
   exact fin hR ⟨by rw [HMH.out];rfl,(MG.refl _).alloc _⟩
theorem compmarks_gr (xs ys:List (List UInt8)) (hx:xs.length<=1000000) (hy:ys.length<=1000000) (hxl:∀ x ∈ xs,x.length<=1000000) (hyl:∀ y ∈ ys,y.length<=1000000) (v u:Value) (w:World) (hv:SvX w No v xs.length (strs xs)) (hu:SvX w No u ys.length (strs ys)) :
  Calls prog 273 #[v,u,.func (.func 274) #[] #[]] w fun e w'=>e=.returned (.int .i64 (preC xs ys))/\MG w w':=by
 refine calls_hide fun R hR=>?_
 obtain ⟨va,vc,rfl⟩:=hv.len;obtain ⟨ua,uc,rfl⟩:=hu.len;have HV:=zh hv;have HU:=zh hu;have HMK:=zh (fun i (hi:i < xs.length) (hj:i < ys.length)=>marks_gr xs[i] ys[i] (hxl _ (List.getElem_mem hi)) (hyl _ (List.getElem_mem hj)));clear hv hu hxl hyl;have eg:∀ args w,(callFunc 274 args).run prog w=.ok (.enter 274 args) w:=fun _ _=>rfl
 go_enter func273,ntmps273
 go_wp2_with fail
 go_loopw [13] (fun q wr=>∃ k:Nat,k<=xs.length/\k<=ys.length/\q=.int .i64 k/\MG w wr/\∀ i (h1:i < xs.length) (h2:i < ys.length),i < k->markC xs[i] ys[i]=0) (fun q _=>xs.length - (intOf q).toNat)
 case atStart=>exact ⟨0,by omega,by omega,rfl,MG.refl _,fun i _ _ hi=>absurd hi (by omega)⟩
 case round =>
  obtain ⟨k,hk,hky,rfl,hmod,hno⟩:=hrel;have HM:=zh hmod;have HNO:=zh hno;have hk0:(0:Int)<=(k:Int):=Int.natCast_nonneg _;clear hmod hno;by_cases hlt:k < xs.length
  ·have hk1:(k:Int) < (xs.length:Int):=by omega
   obtain ⟨b,o,c,hvs,_⟩:=HV.out.shape (by omega);cases hvs
   have hcell:=HM.out.cell (HV.out.cellN (i:=k) (by rw [strs_length];exact hlt)) (fun f=>f);rw [show (strs xs)[k]'(by rw [strs_length];exact hlt)=.string ⟨xs[k].toArray⟩ from by simp [strs,strV]] at hcell;by_cases hly:k < ys.length
   ·have hk2:(k:Int) < (ys.length:Int):=by omega
    obtain ⟨b2,o2,c2,hus,_⟩:=HU.out.shape (by omega);cases hus
    have hcell2:=HM.out.cell (HU.out.cellN (i:=k) (by rw [strs_length];exact hly)) (fun f=>f);rw [show (strs ys)[k]'(by rw [strs_length];exact hly)=.string ⟨ys[k].toArray⟩ from by simp [strs,strV]] at hcell2;have HC:=zh (HMK.out k hlt hly);have HN:=zh (show markC xs[k] ys[k]=0->∀ i (h1:i < xs.length) (h2:i < ys.length),i < k+1->markC xs[i] ys[i]=0 from fun h i h1 h2 hik=>by
     rcases Nat.lt_or_ge i k with h3 | h3
     ·exact HNO.out i h1 h2 h3
     ·obtain rfl:i=k:=by omega
      exact h)
    have HH:=zh (show markC xs[k] ys[k] ≠ 0->preC xs ys=markC xs[k] ys[k] from fun h=>preC_hit hlt hly HNO.out h);clear HNO;go_wp2_with fail
    with_reducible refine (HC.out _).mono ?_
    rintro e w2 ⟨rfl,hm2⟩;have HM2:=zh (HM.out.trans hm2);clear hm2;generalize markC xs[k] ys[k]=mk at *;by_cases h0:mk=0
    ·subst h0;have hn:=HN.out rfl;have HN2:=zh hn;clear hn HN HH;go_wp2_with fail
     exact ⟨⟨k+1,by omega,by omega,rfl,HM2.out,HN2.out⟩,by show xs.length - ((k:Int)+1).toNat < xs.length - (k:Int).toNat;omega⟩
    ·have h0b:(mk != 0)=true:=by simpa using h0
     have HH2:=zh (HH.out h0);clear HN HH;go_wp2_with fail
     exact fin hR ⟨(by rw [HH2.out];try rfl),HM2.out⟩
   ·have hk2:(ys.length:Int)<=(k:Int):=by omega
    have HE:=zh (preC_end (k:=k) hk hky (.inr (by omega)) HNO.out);have hc:cmpN (xs.length:Int) (ys.length:Int)=1:=by unfold cmpN;rw [if_neg (by omega),if_pos (by omega)]
    rw [hc] at HE;clear HNO;go_wp2_with fail
    exact fin hR ⟨(by rw [HE.out];try rfl),HM.out⟩
  ·have HE:=zh (preC_end (k:=k) hk hky (.inl (by omega)) HNO.out);clear HNO;by_cases hly:xs.length < ys.length
   ·have hl2:(xs.length:Int) < (ys.length:Int):=by omega
    have hc:cmpN (xs.length:Int) (ys.length:Int) = -1:=if_pos hl2;rw [hc] at HE;go_wp2_with fail
    exact fin hR ⟨(by rw [HE.out];try rfl),HM.out⟩
   ·have hl2:¬ (xs.length:Int) < (ys.length:Int):=by omega
    have hc:cmpN (xs.length:Int) (ys.length:Int)=0:=by unfold cmpN;rw [if_neg hl2,if_neg (by omega)]
    rw [hc] at HE;go_wp2_with fail
    exact fin hR ⟨(by rw [HE.out];try rfl),HM.out⟩
theorem vercmp_gr (a b:Ver) (ha:Small a) (hb:Small b) (pa pb:Value) (w:World) (hpa:SvX w No pa a.pre.length (strs a.pre)) (hpb:SvX w No pb b.pre.length (strs b.pre)) :
  Calls prog 231 #[verV a pa,verV b pb] w fun e w'=>e=.returned (.int .i64 (verC a b))/\MG w w':=by
 refine calls_hide fun R hR=>?_
 obtain ⟨a0,a1,a2,as'⟩:=a;obtain ⟨b0,b1,b2,bs'⟩:=b;obtain ⟨va,vc,rfl⟩:=hpa.len;obtain ⟨ua,uc,rfl⟩:=hpb.len;have HPA:=zh hpa;have HPB:=zh hpb;have HCN:=zh compareN_any;have HOR:=zh (show ∀ w:World,Calls prog 271 #[.slice (some ⟨w.heap.size,0,none⟩) 3 3] (w.alloc (.cells #[.int .i64 (cmpN a0 b0),.int .i64 (cmpN a1 b1),.int .i64 (cmpN a2 b2)] 3)) fun e w'=>e=.returned (.int .i64 (orI [cmpN a0 b0,cmpN a1 b1,cmpN a2 b2]))/\w'=w.alloc (.cells #[.int .i64 (cmpN a0 b0),.int .i64 (cmpN a1 b1),.int .i64 (cmpN a2 b2)] 3) from fun w=>or_any [cmpN a0 b0,cmpN a1 b1,cmpN a2 b2] (by simp) _ _ (ints_sl w [cmpN a0 b0,cmpN a1 b1,cmpN a2 b2] (by simp)));have HCM:=zh (fun (w:World) h1 h2=>compmarks_gr as' bs' ha.len hb.len ha.each hb.each (.slice va as'.length vc) (.slice ua bs'.length uc) w h1 h2);have HVC:=zh (show verC ⟨a0,a1,a2,as'⟩ ⟨b0,b1,b2,bs'⟩=if orI [cmpN a0 b0,cmpN a1 b1,cmpN a2 b2]=0 then if as'=[]\/bs'=[] then cmpN bs'.length as'.length else preC as' bs' else orI [cmpN a0 b0,cmpN a1 b1,cmpN a2 b2] from rfl);clear hpa hpb ha hb;unfold verV at *;dsimp only at *;go_enter func231,ntmps231
 go_upto_region 1 with fail
 obtain ⟨gx,hgx⟩:∃ g,g=w.heap.size:=⟨_,rfl⟩
 obtain ⟨gy,hgy⟩:∃ g,g=gx+1:=⟨_,rfl⟩
 rw [<- hgx,<- hgy];obtain ⟨wA,hwA⟩:∃ z,z=((w.alloc (.cells #[.int .i64 a0,.int .i64 a1,.int .i64 a2,.slice va as'.length vc] 40)).alloc (.cells #[.int .i64 b0,.int .i64 b1,.int .i64 b2,.slice ua bs'.length uc] 40)).drew:=⟨_,rfl⟩
 have hx1:wA.heap[gx]? = some (.cells #[.int .i64 a0,.int .i64 a1,.int .i64 a2,.slice va as'.length vc] 40 (0,0)):=by rw [hwA,hgx];exact ((MG.refl _).alloc _).drew.keep (heap_alloc_new w _) (fun f=>f)
 have hy1:wA.heap[gy]? = some (.cells #[.int .i64 b0,.int .i64 b1,.int .i64 b2,.slice ua bs'.length uc] 40 (0,0)):=by
  rw [hwA,hgy,hgx];have h1:=heap_alloc_new (w.alloc (.cells #[.int .i64 a0,.int .i64 a1,.int .i64 a2,.slice va as'.length vc] 40)) (.cells #[.int .i64 b0,.int .i64 b1,.int .i64 b2,.slice ua bs'.length uc] 40);rw [show (w.alloc (.cells #[.int .i64 a0,.int .i64 a1,.int .i64 a2,.slice va as'.length vc] 40)).heap.size=w.heap.size+1 by simp] at h1;exact h1
 have HMA:=zh (show MG w wA by rw [hwA];exact (((MG.refl w).alloc _).alloc _).drew);have HWA:=zh hwA;clear hwA hgx hgy;have HSM:=zh (show ∀ w',MG wA w'->w'.cell? ⟨gx,0,none⟩=some (.int .i64 a0)/\w'.cell? ⟨gx,1,none⟩=some (.int .i64 a1)/\w'.cell? ⟨gx,2,none⟩=some (.int .i64 a2)/\w'.cell? ⟨gy,0,none⟩=some (.int .i64 b0)/\w'.cell? ⟨gy,1,none⟩=some (.int .i64 b1)/\w'.cell? ⟨gy,2,none⟩=some (.int .i64 b2) from fun w' hm =>
  ⟨cell_ofA (hm.keep hx1 (fun f=>f)) rfl,cell_ofA (hm.keep hx1 (fun f=>f)) rfl,cell_ofA (hm.keep hx1 (fun f=>f)) rfl,cell_ofA (hm.keep hy1 (fun f=>f)) rfl,cell_ofA (hm.keep hy1 (fun f=>f)) rfl,cell_ofA (hm.keep hy1 (fun f=>f)) rfl⟩)
 have hS0:=HSM.out wA (MG.refl _);have HX1:=zh hx1;have HY1:=zh hy1;clear hx1 hy1;refine wp_region_T (fun w'=>w'.cell? ⟨gx,0,none⟩=some (.int .i64 a0)/\w'.cell? ⟨gx,1,none⟩=some (.int .i64 a1)/\w'.cell? ⟨gx,2,none⟩=some (.int .i64 a2)/\w'.cell? ⟨gy,0,none⟩=some (.int .i64 b0)/\w'.cell? ⟨gy,1,none⟩=some (.int .i64 b1)/\w'.cell? ⟨gy,2,none⟩=some (.int .i64 b2)) 99 (by kernel_rfl) ?_;rw [<- HWA.out];clear HWA;refine yS 0 6 hS0 ?_;refine yS 1 7 hS0 ?_;refine yS 2 8 hS0 ?_;refine yS 3 9 hS0 ?_;refine yS 5 11 hS0 ?_;refine yS 6 12 hS0 ?_;refine yS 7 13 hS0 ?_;refine yS 8 14 hS0 ?_;refine yS 10 16 hS0 ?_;refine yS 11 17 hS0 ?_;refine yS 12 18 hS0 ?_;refine yS 13 19 hS0 ?_;refine wpAnyT_one 4 rfl (by kernel_rfl) rfl ?_;intro K hK;go_simp
 go_at_call 272
 with_reducible refine (HCN.out a0 b0 _).mono ?_
 rintro e wB ⟨rfl,hB⟩;rw [hB];clear hB wB;show K _ _
 have hS1:=hS0;refine hK.out _ _ (fun _=>hS1) ?_;clear hK K;refine wpAnyT_one 9 rfl (by kernel_rfl) rfl ?_;intro K hK;go_simp
 go_at_call 272
 with_reducible refine (HCN.out a1 b1 _).mono ?_
 rintro e wB ⟨rfl,hB⟩;rw [hB];clear hB wB;show K _ _
 have hS2:=hS0;refine hK.out _ _ (fun _=>hS2) ?_;clear hK K;refine wpAnyT_one 14 rfl (by kernel_rfl) rfl ?_;intro K hK;go_simp
 go_at_call 272
 with_reducible refine (HCN.out a2 b2 _).mono ?_
 rintro e wB ⟨rfl,hB⟩;rw [hB];clear hB wB;show K _ _
 have hS3:=hS0;refine hK.out _ _ (fun _=>hS3) ?_;clear hK K;refine wpAnyT_one 15 rfl (by kernel_rfl) rfl ?_;intro K hK;go_simp
 show K _ _
 have hS4:=HSM.out (wA.alloc (.cells #[.int .i64 (cmpN a0 b0),.int .i64 (cmpN a1 b1),.int .i64 (cmpN a2 b2)] 3)) ((MG.refl wA).alloc _);refine hK.out _ _ (fun _=>hS4) ?_;clear hK K;refine wpAnyT_one 16 rfl (by kernel_rfl) rfl ?_;intro K hK;go_simp
 go_at_call 271
 with_reducible refine (HOR.out wA).mono ?_
 rintro e wB ⟨rfl,hB⟩;rw [hB];clear hB wB;show K _ _
 have hS5:=HSM.out (wA.alloc (.cells #[.int .i64 (cmpN a0 b0),.int .i64 (cmpN a1 b1),.int .i64 (cmpN a2 b2)] 3)) ((MG.refl wA).alloc _);refine hK.out _ _ (fun _=>hS5) ?_;clear hK K;refine yT 17 (some 5) ?_ hS5 ?_ ?_;rotate_left
 ·(intro w' hSw;obtain ⟨c0,c1,c2,c3,c4,c5⟩:=hSw;go_simp;try with_reducible rfl)
 simp only [Act.put];refine wpAnyT_done (by kernel_rfl) ?_ _
 obtain ⟨wC,hwC⟩:∃ z,z=wA.alloc (.cells #[.int .i64 (cmpN a0 b0),.int .i64 (cmpN a1 b1),.int .i64 (cmpN a2 b2)] 3):=⟨_,rfl⟩
 have HMC:=zh (show MG w wC by rw [hwC];exact HMA.out.alloc _);have hX:=heap_alloc_old (.cells #[.int .i64 (cmpN a0 b0),.int .i64 (cmpN a1 b1),.int .i64 (cmpN a2 b2)] 3) HX1.out;have hY:=heap_alloc_old (.cells #[.int .i64 (cmpN a0 b0),.int .i64 (cmpN a1 b1),.int .i64 (cmpN a2 b2)] 3) HY1.out;rw [<- hwC] at hX hY;have HPA2:=zh (HPA.out.keep (S:=No) HMC.out.toMod (fun _ _ _ f=>f.elim));have HPB2:=zh (HPB.out.keep (S:=No) HMC.out.toMod (fun _ _ _ f=>f.elim));have cx:=cell_ofA (i:=3) hX rfl;have cy:=cell_ofA (i:=3) hY rfl;have HXY:=zh (show ∀ w',MG wC w'->w'.cell? ⟨gx,3,none⟩=some (.slice va as'.length vc)/\w'.cell? ⟨gy,3,none⟩=some (.slice ua bs'.length uc) from fun w' hm=>⟨hm.cell cx (fun f=>f),hm.cell cy (fun f=>f)⟩);rw [<- hwC];clear hwC hX hY HSM hS0 HX1 HY1 HPA HPB HMA HOR;generalize orI [cmpN a0 b0,cmpN a1 b1,cmpN a2 b2]=o at *;by_cases ho:o=0
 ·subst ho;have hvc:=HVC.out;rw [if_pos rfl] at hvc;clear HVC;by_cases he:as'=[]\/bs'=[]
  ·rw [if_pos he] at hvc;have hle:as'.length=0\/bs'.length=0:=he.imp (fun h=>by rw [h];rfl) (fun h=>by rw [h];rfl);rw [<- cmp_sub hle] at hvc;have HV5:=zh hvc;clear hvc HCM he HPA2 HPB2;generalize as'.length=la at *;generalize bs'.length=lb at *;by_cases hla:la=0
   ·subst hla;go_upto_region 5 with fail
    go_quiet (first | (go_at_call 272;refine Calls.quiet_of_same (HCN.out _ _ _)))
    go_wp2_with fail
    exact fin hR ⟨(by rw [HV5.out];try rfl),HMC.out.drewN _⟩
   ·have e1:((la:Int) == 0)=false:=by simpa using hla
    obtain rfl:=hle.resolve_left hla;go_upto_region 5 with fail
    go_quiet (first | (go_at_call 272;refine Calls.quiet_of_same (HCN.out _ _ _)))
    go_wp2_with fail
    exact fin hR ⟨(by rw [HV5.out];try rfl),HMC.out.drewN _⟩
  ·rw [if_neg he] at hvc;have HV6:=zh hvc;have e1:((as'.length:Int) == 0)=false:=by
    rw [beq_eq_false_iff_ne];intro h;exact he (.inl (List.eq_nil_of_length_eq_zero (by omega)))
   have e2:((bs'.length:Int) == 0)=false:=by
    rw [beq_eq_false_iff_ne];intro h;exact he (.inr (List.eq_nil_of_length_eq_zero (by omega)))
   have HC6:=zh (HCM.out wC HPA2.out HPB2.out);clear hvc HCM he;go_wp2_with fail
   with_reducible refine HC6.out.mono ?_
   rintro e w2 ⟨rfl,hm2⟩;have HM2:=zh (HMC.out.trans hm2);clear hm2;go_wp2_with fail
   exact fin hR ⟨(by rw [HV6.out];try rfl),HM2.out⟩
 ·have hvc:=HVC.out;rw [if_neg ho] at hvc;have HV7:=zh hvc;have hob:(o != 0)=true:=by simpa using ho
  clear hvc HVC;go_wp2_with fail
  exact fin hR ⟨(by rw [HV7.out];try rfl),HMC.out⟩
end Go.Proofs.YticfcmdjplmaeaaGreatDoor
