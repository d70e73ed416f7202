/-
  Layers 0 to 14: helps of the laws of indexes. No statement is proved here; no condition.
-/
import Derived.Test.YtmppeipgjcjdkaaGreatDoorX01
import Derived.Test.YtmppeipgjcjdkaaGreatDoorX18
import Derived.Test.YtmppeipgjcjdkaaGreatDoorX06
import Derived.Test.YtmppeipgjcjdkaaGreatDoorX20
import Derived.Test.YtmppeipgjcjdkaaGreatDoorX42
namespace Go.Proofs.YtmppeipgjcjdkaaGreatDoor
open _root_.Go.Proofs.Tryz
open Go.RowKit Go.Sort
def inB (ar:List UInt8) (i:Nat):Bool:=ar.any fun x=>decide (x.toNat % 6=i)
def Lk (ar:List UInt8) (k:Nat):List UInt8:=pickL ((List.range k).map (inB ar)) letters
theorem pick_nil (cs:List UInt8):pickL [] cs=[]:=by cases cs <;> rfl
theorem pick_snoc (b:Bool):∀ (bs:List Bool) (cs:List UInt8),pickL (bs++[b]) cs=pickL bs cs++(if b then (cs[bs.length]?).toList else [])
 | [],[]=>by cases b <;> rfl
 | [],c :: cs=>by
  show (if b then c :: pickL [] cs else pickL [] cs)=_
  rw [pick_nil]
  cases b <;> rfl
 | a :: bs,[]=>by
  show []=[]++_
  cases b <;> rfl
 | a :: bs,c :: cs=>by
  show (if a then c :: pickL (bs++[b]) cs else pickL (bs++[b]) cs)=(if a then c :: pickL bs cs else pickL bs cs)++_
  rw [pick_snoc b bs cs]
  cases a <;> simp
theorem pick_len:∀ (bs:List Bool) (cs:List UInt8),(pickL bs cs).length<=bs.length
 | [],cs=>by rw [pick_nil];simp
 | a :: bs,[]=>by simp [pickL]
 | a :: bs,c :: cs=>by
  have:=pick_len bs cs
  show (if a then c :: pickL bs cs else pickL bs cs).length<=_
  cases a <;> simp <;> omega
theorem Lk_len (ar:List UInt8) (k:Nat):(Lk ar k).length<=k:=by
 have:=pick_len ((List.range k).map (inB ar)) letters
 simpa [Lk] using this
theorem Lk_next (ar:List UInt8) {k:Nat} (hk:k < 6):Lk ar (k+1)=Lk ar k++(if inB ar k then [UInt8.ofNat (97+k)] else []):=by
 unfold Lk
 rw [List.range_succ,List.map_append,List.map_singleton,pick_snoc,List.length_map,List.length_range]
 congr 1
 split
 ·match k,hk with
  | 0,_=>rfl
  | 1,_=>rfl
  | 2,_=>rfl
  | 3,_=>rfl
  | 4,_=>rfl
  | 5,_=>rfl
 ·rfl
def pinX (c:UInt8):PnX:=⟨⟨[c],⟨0,0,0,[]⟩,List.replicate 32 0⟩,.slice none 0 0⟩
def lockX (L:List UInt8):List UInt8:=lockHead++(sortR ltPx (L.map pinX)).flatMap fun x=>pinT x.p
set_option maxRecDepth 100000 in
theorem lock_all:∀ a b c d e f:Bool,(lockX (pickL [a,b,c,d,e,f] letters) == lckT (pickL [a,b,c,d,e,f] letters) && lockX (pickL [a,b,c,d,e,f] letters).tail == lckT (pickL [a,b,c,d,e,f] letters).tail)=true:=by decide +kernel
theorem Lk6 (ar:List UInt8):Lk ar 6=pickL [inB ar 0,inB ar 1,inB ar 2,inB ar 3,inB ar 4,inB ar 5] letters:=rfl
theorem lock_six (ar:List UInt8):lockX (Lk ar 6)=lckT (Lk ar 6)/\lockX (Lk ar 6).tail=lckT (Lk ar 6).tail:=by
 have h:=lock_all (inB ar 0) (inB ar 1) (inB ar 2) (inB ar 3) (inB ar 4) (inB ar 5)
 rw [<- Lk6,Bool.and_eq_true,beq_iff_eq,beq_iff_eq] at h
 exact h
structure Turned (L:List UInt8):Prop where
 good:heldB (manT L) (lckT L) (pathsT L)=true
 need:heldB (manT L++zzT) (lckT L) (pathsT L)=false
 pin:L ≠ []->heldB (manT L) (lckT L.tail) (pathsT L)=false
 file:heldB (manT L) (lckT L) (pathsT L++[[103]])=false
 text:heldB (manT L) (lckT L++[120]) (pathsT L)=false
theorem turned_six (ar:List UInt8):Turned (Lk ar 6):=by
 have h:=turned_all (inB ar 0) (inB ar 1) (inB ar 2) (inB ar 3) (inB ar 4) (inB ar 5)
 rw [<- Lk6] at h
 unfold turnedB at h
 simp only [Bool.and_eq_true,Bool.or_eq_true,Bool.not_eq_true'] at h
 obtain ⟨⟨⟨⟨h1,h2⟩,h3⟩,h4⟩,h5⟩:=h
 exact ⟨h1,h2,fun hn=>h3.resolve_left (fun e=>hn (by simpa using e)),h4,h5⟩
theorem man_len (L:List UInt8):(manT L).length=22+9*L.length:=by
 unfold manT
 rw [List.length_append]
 have:∀ L:List UInt8,(L.flatMap manL).length=9*L.length:=fun L=>by
  induction L with
  | nil=>rfl
  | cons c L ih=>rw [List.flatMap_cons,List.length_append,ih,List.length_cons];simp [manL];omega
 rw [this]
 rfl
theorem lck_len (L:List UInt8):(lckT L).length=7+73*L.length:=by
 unfold lckT
 rw [List.length_append]
 have:∀ L:List UInt8,(L.flatMap lckL).length=73*L.length:=fun L=>by
  induction L with
  | nil=>rfl
  | cons c L ih=>rw [List.flatMap_cons,List.length_append,ih,List.length_cons];simp [lckL];omega
 rw [this]
 rfl
theorem man_cats (L:List UInt8) (c:UInt8) (hL:L.length<=6) (Z0 C Z3:ByteArray) (h0:Z0=⟨(manT L).toArray⟩) (hc:C=⟨[c].toArray⟩) (h3:Z3=⟨(manT (L++[c])).toArray⟩) :
  ∃ Z1 Z2:ByteArray,(Z0 ++ ⟨#[110,101,101,100,32]⟩=Z1/\Z1++C=Z2/\Z2 ++ ⟨#[32,42,10]⟩=Z3)/\(¬ (9223372036854775807 < Z0.size+5)/\¬ (9223372036854775807 < Z1.size+C.size)/\¬ (9223372036854775807 < Z2.size+3)):=by
 have l0:=man_len L
 have e0:=str_len3 (manT L)
 have e1:=str_len3 [c]
 have e3:=str_len3 (manT L++[110,101,101,100,32])
 have e4:=str_len3 (manT L++[110,101,101,100,32]++[c])
 simp only [List.length_append,List.length_cons,List.length_nil] at e1 e3 e4
 subst h0 hc h3
 refine ⟨_,_,⟨str_app _ _,str_app _ _,?_⟩,by omega,by omega,by omega⟩
 refine (str_app _ [32,42,10]).trans ?_
 congr 2
 simp [manT,manL]
theorem cut_letter:∀ k:Fin 6,(⟨#[97,98,99,100,101,102]⟩:ByteArray).extract k.1 (k.1+1)=⟨[UInt8.ofNat (97+k.1)].toArray⟩:=by decide +kernel
set_option maxRecDepth 100000 in
theorem load_sta {w:World} {b:Nat} {v0 v1 v2 v3:Value} (h:w.heap[b]? = some (.cells #[v0,v1,v2,v3] 38 (0,0))) :
  (loadVar 38 ⟨b,0,none⟩).run prog w=.ok (.agg #[v0,v1,v2,v3]) w :=
 run_loadVar_row (P:=prog) w b 38 38 #[v0,v1,v2,v3] (0,0) _ h underlying38 rfl (by kernel_rfl)
theorem held_at (m l:List UInt8) (M KL:ByteArray) (hM:M=⟨m.toArray⟩) (hK:KL=⟨l.toArray⟩) (hm:m.length<=1000000) (hl:l.length<=1000000) (fs:List FlX) (fn:Nat) (hfn:fn=fs.length) (hf:fs.length<=1000000) (ta:Option Addr) (tc:Nat) (hfv:∀ f ∈ fs,∃ a n c,f.v=.slice a n c) (w:World) (hgl:Gl w)
  (ht:Sl w No 51 (.slice ta fn tc) fn (fs.flatMap FlX.cells)) (b:Bool) (hb:heldB m l (fs.map fun f=>f.f.path)=b) :
  Calls prog 16 #[.agg #[.string M,.string KL,.slice none 0 0,.slice ta fn tc]] w fun e w'=>e=.returned (.bool b)/\Mod No w w':=by
 subst hM hK hfn hb
 exact held_any m l hm hl none 0 0 fs _ hf hfv w hgl (.of ht)
theorem locktext_at (L:List UInt8) (hL:L.length<=6) (K:ByteArray) (hK:K=⟨(lckT L).toArray⟩) (hx:lockX L=lckT L) (v:Value) (w:World) (hv:Sl w No 49 v L.length ((L.map pinX).flatMap PnX.cells)) :
  Calls prog 15 #[v] w fun e w'=>e=.returned (.string K)/\Mod No w w':=by
 have h:=locktext_any (L.map pinX) (by rw [List.length_map];omega) v w (fun x hx=>by
  obtain ⟨c,-,rfl⟩:=List.mem_map.1 hx
  exact ⟨⟨rfl,_,_,_,rfl⟩,.inl ⟨rfl,rfl,rfl⟩,⟨by simp [pinX],fun x hx=>by cases hx⟩,by show (0:Int) < _;decide,by show (0:Int) < _;decide,by show (0:Int) < _;decide⟩) (by rw [List.length_map];exact hv) (by
  have e:(lockHead++(sortR ltPx (L.map pinX)).flatMap fun x=>pinT x.p)=lckT L:=hx
  rw [e,lck_len];omega)
 rw [show (lockHead++(sortR ltPx (L.map pinX)).flatMap fun x=>pinT x.p)=lckT L from hx] at h
 rw [hK]
 exact h
set_option maxRecDepth 100000 in
theorem pin_built1 (nm:ByteArray):prog.built 49 [(0,.string nm)]=some (pnCs nm 0 0 0 (.slice none 0 0) (List.replicate 32 0)).toArray:=by kernel_rfl
theorem pn_tailS {w:World} {pb n c:Nat} {xs:List Value} (h:Sl w No 49 (.slice (some ⟨pb,0,none⟩) n c) n xs) (hx:xs.length=n*37) (hn:0 < n) :
  ∃ ra:Option Addr,(∀ W,(Instr.slice 42 (.slice (some ⟨pb,0,none⟩) n c) (some (.int .i64 1)) none none).run prog W=.ok (.slice ra (n - 1) (c - 1)) W)/\Sl w No 49 (.slice ra (n - 1) (c - 1)) (n - 1) (xs.drop 37):=by
 rcases h with ⟨h,_⟩ | ⟨g,o,c',cur,fz,hv,hnc,hcm,hX,hh,hl,hr⟩
 ·cases h
 ·cases hv
  refine ⟨some ⟨pb,if c=1 then 0 else 37,none⟩,fun W=>?_,.inr ⟨pb,_,c - 1,cur,fz,rfl,by omega,by omega,fun f=>f,hh,?_,fun i hi=>?_⟩⟩
  ·have h1:(1:Int)<=(n:Int):=by omega
   have h2:(n:Int)<=(c:Int):=by omega
   go_simp
   by_cases h:c=1 <;> simp [h]
  ·rw [List.length_drop,hx] at *;split <;> omega
  ·rw [List.length_drop,hx] at hi
   rw [if_neg (by omega),List.getElem?_drop,<- hr (37+i) (by omega)]
   congr 1;omega
theorem info_flT:(prog.info? 51).map (fun i=>(i.zero,i.size,i.bytes))=some (some (.agg #[.string ⟨#[]⟩,.bool false,.slice none 0 0]),3,48):=by kernel_rfl
structure TrW (w:World) (B gb:Nat) (L:List UInt8) (KL:ByteArray) (oa:Option Addr) (oc:Nat) (ta:Option Addr) (fn tc:Nat) (fs:List FlX):Prop where
 pins:w.ownsRow B 49 37 (.slice oa L.length oc) L.length ((L.map pinX).flatMap PnX.cells)
 sta:w.heap[gb]? = some (.cells #[.string ⟨(manT L).toArray⟩,.string KL,.slice none 0 0,.slice ta fn tc] 38 (0,0))
 files:w.ownsRow B 51 3 (.slice ta fn tc) fn (fs.flatMap FlX.cells)
 len:fn=fs.length
 paths:fs.map (fun f=>f.f.path)=pathsT L
 sls:∀ f ∈ fs,∃ a n c,f.v=.slice a n c
theorem TrW.no {w w':World} {B gb:Nat} {L:List UInt8} {KL:ByteArray} {oa:Option Addr} {oc:Nat} {ta:Option Addr} {fn tc:Nat} {fs:List FlX} (h:TrW w B gb L KL oa oc ta fn tc fs) (hm:Mod No w w'):TrW w' B gb L KL oa oc ta fn tc fs :=
 ⟨own_keepM h.pins hm (fun _ _ f=>f),hm.keep h.sta (fun f=>f),own_keepM h.files hm (fun _ _ f=>f),h.len,h.paths,h.sls⟩
theorem TrW.few {w:World} {B gb:Nat} {L:List UInt8} {KL:ByteArray} {oa:Option Addr} {oc:Nat} {ta:Option Addr} {fn tc:Nat} {fs:List FlX} (h:TrW w B gb L KL oa oc ta fn tc fs):fn=2*L.length:=by
 have h1:=congrArg List.length h.paths
 rw [List.length_map] at h1
 have:∀ L:List UInt8,(pathsT L).length=2*L.length:=fun L=>by
  unfold pathsT
  induction L with
  | nil=>rfl
  | cons c L ih=>rw [List.flatMap_cons,List.length_append,ih,List.length_cons];simp;omega
 rw [this] at h1
 rw [h.len]
 omega
theorem own_two {w:World} {B1 B2:Nat} {e1 e2:TypeId} {s1 s2:Nat} {v1 v2:Value} {n1 n2:Nat} {x1 x2:List Value} (h1:w.ownsRow B1 e1 s1 v1 n1 x1) (h2:w.ownsRow B2 e2 s2 v2 n2 x2) (hne:e1 ≠ e2) {k:Nat} (hk:v1.ownBlock=some k):v2.ownBlock ≠ some k:=fun e=>by
 obtain ⟨c1,g1⟩:=own_heapM h1 hk
 obtain ⟨c2,g2⟩:=own_heapM h2 e
 rw [g1] at g2
 cases g2
 exact hne rfl
set_option maxRecDepth 100000 in
set_option maxHeartbeats 16000000 in
theorem turned_walk (ar:List UInt8) (how:Nat) (hh:how < 256) (av:Value) (w:World) (ha:SvX w No av ar.length (bv ar)) (hgl:Gl w) :
  Calls prog 4 #[av,.int .u8 (how:Int)] w fun e w'=>e=.returned (.bool true)/\Mod No w w':=by
 refine calls_hide fun R hR=>?_
 have HKN:=zh (known_any w hgl)
 have HA:=zh ha.avoid
 have HG:=zh hgl
 obtain ⟨aa,ac,rfl⟩:=ha.len
 have han:=ha.lenle
 clear ha hgl
 go_enter func4,ntmps4
 go_wp2_with fail
 with_reducible refine HKN.out.mono ?_
 rintro e w1 ⟨rfl,hm1⟩
 have HM1:=zh hm1
 have HA1:=zh (HA.out.kn hm1)
 clear hm1 HKN HA
 obtain ⟨n,hn⟩:∃ n,n=ar.length:=⟨_,rfl⟩
 rw [<- hn] at HA1 ⊢
 have HNE:=zh hn
 by_cases h6:6 < n
 ·have h6I:(6:Int) < (n:Int):=by omega
  go_wp2_with fail
  exact fin hR ⟨rfl,HM1.out⟩
 have h6I:¬ (6:Int) < (n:Int):=by omega
 clear hn han
 go_upto_region 6 with fail
 obtain ⟨gb,hgb⟩:∃ g,g=w1.heap.size:=⟨_,rfl⟩
 rw [<- hgb]
 generalize hw2:World.alloc w1 _=w2
 have hs2:w2.heap[gb]? = some (.cells #[.string ⟨#[]⟩,.string ⟨#[]⟩,.slice none 0 0,.slice none 0 0] 38 (0,0)):=by rw [<- hw2,hgb];exact heap_alloc_new w1 _
 have hm2:Mod No w1 w2:=by rw [<- hw2];exact (Mod.refl No w1).alloc _
 have HGB:=zh (show w.heap.size<=gb by have:=HM1.out.size;omega)
 have c0:=cell_ofA hs2 (i:=0) rfl
 have f0:=frozen_of 0 hs2
 have HS2:=zh hs2
 have HM2:=zh (HM1.out.trans hm2)
 have HA2:=zh (HA1.out.kn hm2)
 have HGB2:=zh (show gb < w2.heap.size from lt_of_heap hs2)
 clear hw2 hs2 hm2 hgb HM1 HA1 h6I
 go_upto_region 7 with fail
 generalize hw3:World.setCell w2 _ _=w3
 have HS3:=zh (show w3.heap[gb]? = some (.cells #[.string ⟨(manT (Lk ar 0)).toArray⟩,.string ⟨#[]⟩,.slice none 0 0,.slice none 0 0] 38 (0,0)) by rw [<- hw3,heap_setCell HS2.out _];rfl)
 have HM3:=zh (show Mod No w w3 by rw [<- hw3];exact HM2.out.setCell (fun h=>by have:=HGB.out;dsimp only at h;omega) _)
 have HA3:=zh (show SvX w3 (fun q=>No q\/w.heap.size<=q) (.slice aa n ac) n (bv ar) by
  rw [<- hw3]
  exact HA2.out.keep (Mod.cell1 w2 gb 0 _) (fun k _ _ e hx=>hx (.inr (by have e:k=gb:=e;rw [e];exact HGB.out))))
 obtain ⟨B,hB⟩:∃ B,B=w3.heap.size:=⟨_,rfl⟩
 have HBE:=zh hB
 have HGB3:=zh (show gb < B by rw [hB,<- hw3];simpa using HGB2.out)
 clear hw3 hB c0 f0 HS2 HM2 HA2 HGB2
 go_wp2_with fail
 go_loopw [6,7] (fun pv u wr=>∃ (k:Nat) (oa:Option Addr) (oc:Nat) (ta:Option Addr) (fn tc:Nat) (fs:List FlX),k<=6/\u=.int .i64 (k:Int)/\pv=.slice oa (Lk ar k).length oc/\TrW wr B gb (Lk ar k) ⟨#[]⟩ oa oc ta fn tc fs/\Mod (fun i=>i=gb\/B<=i) w3 wr) (fun _ u _=>6 - (intOf u).toNat)
 case atStart=>exact ⟨0,none,0,none,0,0,[],by omega,rfl,rfl,⟨⟨rfl,.inl ⟨rfl,rfl⟩⟩,HS3.out,⟨rfl,.inl ⟨rfl,rfl⟩⟩,rfl,rfl,fun f hf=>by cases hf⟩,Mod.refl _ _⟩
 case round =>
  obtain ⟨k,oa,oc,ta,fn,tc,fs,hk,rfl,rfl,htr,hmo⟩:=hrel
  have HTR:=zh htr
  have HMO:=zh hmo
  have hk0:(0:Int)<=(k:Int):=Int.natCast_nonneg _
  clear htr hmo
  by_cases hlt:k < 6
  ·have hk1:(k:Int) < 6:=by omega
   obtain ⟨C,hC⟩:∃ C:ByteArray,C=⟨[UInt8.ofNat (97+k)].toArray⟩:=⟨_,rfl⟩
   have hcut:(⟨#[97,98,99,100,101,102]⟩:ByteArray).extract k (k+1)=C:=by rw [hC];exact cut_letter ⟨k,hlt⟩
   have HC:=zh hC
   clear hC
   have HAR:=zh (show SvX wr (fun q=>No q\/w.heap.size<=q) (.slice aa n ac) n (bv ar) from HA3.out.keep HMO.out (fun j _ _ e hx=>hx (.inr (by have:=HGB.out;have:=HGB3.out;rcases e with e | e <;> omega))))
   go_wp2_with fail
   go_loopw [9,10] (fun q u wq=>∃ j:Nat,j<=n/\u=.int .i64 (j:Int)/\q=.bool ((ar.take j).any fun x=>decide (x.toNat % 6=k))/\wq=wr) (fun _ u _=>n - (intOf u).toNat)
   case atStart=>exact ⟨0,by omega,rfl,rfl,rfl⟩
   case round =>
    obtain ⟨j,hj,rfl,rfl,rfl⟩:=hrel
    have hj0:(0:Int)<=(j:Int):=Int.natCast_nonneg _
    by_cases hjn:j < n
    ·have hj1:(j:Int) < (n:Int):=by omega
     have hja:j < ar.length:=by rw [<- HNE.out];exact hjn
     have HTK:=zh (show ((ar.take (j+1)).any fun x=>decide (x.toNat % 6=k))=(((ar.take j).any fun x=>decide (x.toNat % 6=k)) || decide (ar[j].toNat % 6=k)) by
      rw [List.take_add_one,List.any_append,List.getElem?_eq_getElem hja];simp)
     generalize ((ar.take j).any fun x=>decide (x.toNat % 6=k))=acc at *
     rcases acc with _ | _
     ·obtain ⟨b,o,c',hvs,_⟩:=HAR.out.shape (by omega)
      cases hvs
      have hcell:wr.cell? ⟨b,o+j,none⟩=some (.int .u8 (ar[j].toNat:Int)):=by
       have h:=HAR.out.cellN (i:=j) (by rw [bv_length];exact hja)
       rw [h]
       simp [bv]
      obtain ⟨y,hy⟩:∃ y:Nat,y=ar[j].toNat % 6:=⟨_,rfl⟩
      have hm6:((ar[j].toNat:Int)).tmod 6=(y:Int):=by rw [hy];exact (Int.ofNat_tmod _ 6).symm
      have hy6:y < 6:=by omega
      have hu:=UInt8.toNat_lt ar[j]
      rw [<- hy] at HTK
      generalize ar[j].toNat=x at *
      have hx0:(0:Int)<=(x:Int)/\(x:Int) < 256:=by omega
      have hy0:(0:Int)<=(y:Int)/\(y:Int) < 6:=by omega
      clear hy hu
      by_cases hyk:y=k
      ·subst hyk
       have HTK2:=zh (show ((ar.take (j+1)).any fun x=>decide (x.toNat % 6=y))=true by rw [HTK.out];simp)
       clear HTK
       go_wp2_with fail
       exact ⟨⟨j+1,by omega,rfl,by rw [HTK2.out],trivial⟩,by show n - ((j:Int)+1).toNat < n - (j:Int).toNat;omega⟩
      ·have HTK2:=zh (show ((ar.take (j+1)).any fun x=>decide (x.toNat % 6=k))=false by rw [HTK.out];simp [hyk])
       have hne:((y:Int) == (k:Int))=false:=by simp;omega
       clear HTK hyk
       go_wp2_with fail
       exact ⟨⟨j+1,by omega,rfl,by rw [HTK2.out],trivial⟩,by show n - ((j:Int)+1).toNat < n - (j:Int).toNat;omega⟩
     ·have HTK2:=zh (show ((ar.take (j+1)).any fun x=>decide (x.toNat % 6=k))=true by rw [HTK.out];simp)
      clear HTK
      go_wp2_with fail
      exact ⟨⟨j+1,by omega,rfl,by rw [HTK2.out],trivial⟩,by show n - ((j:Int)+1).toNat < n - (j:Int).toNat;omega⟩
    ·obtain rfl:j=n:=by omega
     have hj1:¬ ((j:Int) < (j:Int)):=by omega
     have HIN:=zh (show ((ar.take j).any fun x=>decide (x.toNat % 6=k))=inB ar k by rw [HNE.out,List.take_length];rfl)
     have HNX:=zh (Lk_next ar hlt)
     rw [HIN.out]
     generalize inB ar k=bk at *
     rcases bk with _ | _
     ·have HL:=zh (show Lk ar (k+1)=Lk ar k by rw [HNX.out];simp)
      go_wp2_with fail
      exact ⟨⟨k+1,oa,oc,ta,fn,tc,fs,by omega,rfl,by rw [HL.out],by rw [HL.out];exact HTR.out,HMO.out⟩,by show 6 - ((k:Int)+1).toNat < 6 - (k:Int).toNat;omega⟩
     ·have HL:=zh (show Lk ar (k+1)=Lk ar k++[UInt8.ofNat (97+k)] by rw [HNX.out];rfl)
      have hLk:=Lk_len ar k
      clear hj1 HIN HNX
      generalize hLe:Lk ar k=L at *
      generalize UInt8.ofNat (97+k)=ch at *
      clear hLe HNE HAR HA3 HS3 HM3
      obtain ⟨Z0,hZ0⟩:∃ Z:ByteArray,Z=⟨(manT L).toArray⟩:=⟨_,rfl⟩
      obtain ⟨Z3,hZ3⟩:∃ Z:ByteArray,Z=⟨(manT (L++[ch])).toArray⟩:=⟨_,rfl⟩
      obtain ⟨Z1,Z2,⟨e1,e2,e3⟩,t1,t2,t3⟩:=man_cats L ch (by omega) Z0 C Z3 hZ0 HC.out hZ3
      have hsta:=HTR.out.sta
      rw [<- hZ0] at hsta
      have c0:=cell_ofA hsta (i:=0) rfl
      have f0:=frozen_of 0 hsta
      have HSTA:=zh hsta
      have HZ3:=zh hZ3
      clear hZ0 hZ3 hsta
      go_upto_region 19 with fail
      generalize hw5:World.setCell wr ⟨gb,0,none⟩ (.string Z3)=w5
      have hm5:Mod (fun i=>i=gb) wr w5:=by rw [<- hw5];exact Mod.cell1 _ _ _ _
      have HS5:=zh (show w5.heap[gb]? = some (.cells #[.string Z3,.string ⟨#[]⟩,.slice none 0 0,.slice ta fn tc] 38 (0,0)) by rw [<- hw5,heap_setCell HSTA.out _];rfl)
      have HPN5:=zh (own_keepM HTR.out.pins hm5 (fun j hj e=>by have:=own_atB HTR.out.pins hj;have:=HGB3.out;omega))
      have HFL5:=zh (own_keepM HTR.out.files hm5 (fun j hj e=>by have:=own_atB HTR.out.files hj;have:=HGB3.out;omega))
      have HMO5:=zh (HMO.out.trans (hm5.weaken (fun _ _ e=>.inl e)))
      clear hw5 hm5 c0 f0 e1 e2 e3 t1 t2 t3 HSTA
      obtain ⟨i0,hi0,hz0,hz1,hz2⟩:=info_pnP
      obtain ⟨cs,hcs⟩:∃ cs,cs=(pnCs C 0 0 0 (.slice none 0 0) (List.replicate 32 0)).toArray:=⟨_,rfl⟩
      have HCS:=zh hcs
      have HCL:=zh (show cs.size=37 by rw [hcs];exact pnCs_length (by simp) _ _ _ _ _)
      have HPX:=zh (show PnX.cells (pinX ch)=pnCs C 0 0 0 (.slice none 0 0) (List.replicate 32 0) by rw [HC.out];rfl)
      have HNW:=zh (show [Value.agg cs].flatMap (fun v=>v.cells.toList)=PnX.cells (pinX ch) by rw [HCS.out,HPX.out];simp [Value.cells])
      have HN1:=zh (show ∀ u ∈ [Value.agg cs].flatMap (fun v=>v.cells.toList),u.oneCell'=true by
       rw [HNW.out]
       intro u hu
       exact PnOk.one (x:=pinX ch) ⟨rfl,_,_,_,rfl⟩ u hu)
      have hB5:B<=w5.heap.size:=by have:=HMO5.out.size;have:=HBE.out;omega
      have hll:L.length<=6:=by omega
      clear hcs
      refine wp_region_lit ?_
      refine Great.wpList_runTo rfl (some 50) rfl (.slice oa L.length oc) w5 rfl ?_
      refine Great.wpList_runTo rfl (some 51) rfl (.string C) w5 rfl ?_
      refine Great.wpList_runTo rfl (some 52) rfl (.agg cs) w5 (ybuildR _ (by simp only [Array.toList_map,List.map_cons,List.map_nil];rw [HCS.out];exact pin_built1 C) rfl) ?_
      refine Great.wpList_buildRows rfl 42 49 _ 37 [.agg cs] rfl (fun _=>52) w5.heap.size rfl _ rfl underlying42 (by kernel_rfl) (by kernel_rfl) (by decide) (by simp) (by simp) rfl (fun v hv=>by rw [List.mem_singleton.1 hv];exact HCL.out) (fun i hi=>by obtain rfl:i=0:=(by simpa using hi);rfl) ?_
      refine app_sl _ rfl _ _ 42 rfl B 49 i0 _ 37 96 underlying42 hi0 hz0 hz1 hz2 (by simp [pinZero,Value.cells]) (by decide) (.slice oa L.length oc) L.length ((L.map pinX).flatMap PnX.cells) rfl (own_keepM HPN5.out ((Mod.refl No w5).alloc _) (fun _ _ f=>f)) No 49 _ 1 ([Value.agg cs].flatMap (fun v=>v.cells.toList)) rfl (sl_new w5 _ _ (Nat.le_refl 1) (by unfold maxLen;omega)) (by rw [HNW.out];exact (PnX.cells_length (pinX ch) rfl)) HN1.out (by unfold maxLen;omega) (by omega) (by simp;omega) ?_
      intro v' w7 hown hgrow _
      obtain ⟨va',vc',hv7⟩:=(Sl.of_own (X:=No) hown (fun _ _ f=>f)).len
      subst hv7
      have hma:Mod No w5 (w5.alloc (.cells ([Value.agg cs].flatMap (fun v=>v.cells.toList)).toArray 49)):=(Mod.refl No w5).alloc _
      have hmg:Mod (fun q=>(Value.slice oa L.length oc).ownBlock=some q) w5 w7:=hma.no.trans (Mod.of_grown hgrow (fun q hq _=>hq))
      have HS7:=zh (hmg.keep HS5.out (fun e=>by have:=own_atB HPN5.out e;have:=HGB3.out;omega))
      have HPN7:=zh hown
      have HFL7:=zh (own_keepM HFL5.out hmg (fun j hj e=>own_two HFL5.out HPN5.out (by decide) hj e))
      have HMO7:=zh (HMO5.out.trans (hmg.weaken (fun j _ e=>.inr (own_atB HPN5.out e))))
      have hB7:B<=w7.heap.size:=by have:=HMO7.out.size;have:=HBE.out;omega
      clear hown hgrow hma hmg hi0 hz0 hz1 hz2 HCL HN1 hB5 HS5 HPN5 HFL5 HMO5
      obtain ⟨P1,hP1⟩:∃ P:ByteArray,P=⟨[ch,47,102].toArray⟩:=⟨_,rfl⟩
      have hcat:C ++ ⟨#[47,102]⟩=P1:=by rw [hP1,HC.out];exact str_app [ch] [47,102]
      have hcsz:¬ (9223372036854775807 < C.size+2):=by rw [HC.out];have:=str_len3 [ch];simp only [List.length_cons,List.length_nil] at this;omega
      have HP1:=zh hP1
      have c3:w7.cell? ⟨gb,3,none⟩=some (.slice ta fn tc):=cell_ofA HS7.out (i:=3) rfl
      have hfn:fn<=12:=by have:=HTR.out.few;omega
      have HFW:=zh HTR.out.few
      obtain ⟨i1,hi0,hz0,hz1,hz2⟩:=info_parts info_flT
      clear hP1
      have HSL:=zh (show Sl ((w7.alloc (.cells #[.int .u8 1] 5)).alloc (.cells #[.string C,.bool true,.slice none 0 0,.string P1,.bool false,.slice (some ⟨w7.heap.size,0,none⟩) 1 1] 51)) No 51 (.slice (some ⟨w7.heap.size+1,0,none⟩) 2 2) 2 [.string C,.bool true,.slice none 0 0,.string P1,.bool false,.slice (some ⟨w7.heap.size,0,none⟩) 1 1] by
       have h:=sl_new (w7.alloc (.cells #[.int .u8 1] 5)) 51 [.string C,.bool true,.slice none 0 0,.string P1,.bool false,.slice (some ⟨w7.heap.size,0,none⟩) 1 1] (Nat.le_refl 2) (by unfold maxLen;omega)
       rw [show (w7.alloc (.cells #[.int .u8 1] 5)).heap.size=w7.heap.size+1 by simp] at h
       exact h)
      go_upto_region 20 with fail
      go_wp2_with (at_builtin;go_loud (refine app_sl _ rfl _ _ 22 rfl B 51 i1 _ 3 48 underlying22 hi0 hz0 hz1 hz2 rfl (by decide) (.slice ta fn tc) fn (fs.flatMap FlX.cells) rfl (own_keepM HFL7.out (((Mod.refl No w7).alloc _).alloc _) (fun _ _ f=>f)) No 51 (.slice (some ⟨w7.heap.size+1,0,none⟩) 2 2) 2 [.string C,.bool true,.slice none 0 0,.string P1,.bool false,.slice (some ⟨w7.heap.size,0,none⟩) 1 1] rfl HSL.out rfl (by simp [Value.oneCell']) (by unfold maxLen;omega) (by omega) (by simp;omega) ?_);intro v9 w9 hown9 hg9 _;obtain ⟨ta',tc',hv9⟩:=own_len hown9;subst hv9;have HO9:=zh hown9;have HG9:=zh hg9;clear hown9 hg9;have hma9:Mod No w7 ((w7.alloc (.cells #[.int .u8 1] 5)).alloc (.cells #[.string C,.bool true,.slice none 0 0,.string P1,.bool false,.slice (some ⟨w7.heap.size,0,none⟩) 1 1] 51)):=((Mod.refl No w7).alloc _).alloc _;have hmg9:Mod (fun q=>(Value.slice ta fn tc).ownBlock=some q) w7 w9:=hma9.no.trans (Mod.of_grown HG9.out (fun q hq _=>hq));have hs9:=hmg9.keep HS7.out (fun e=>by have:=own_atB HFL7.out e;have:=HGB3.out;omega);have HS9:=zh hs9;have HMG9:=zh hmg9;have c9:=cell_ofA hs9 (i:=3) rfl;have f9:=frozen_of 3 hs9;clear hma9 hmg9 hs9 HG9)
      have hm10:Mod (fun i=>i=gb) w9 (w9.setCell ⟨gb,3,none⟩ (.slice ta' (fn+2) tc')):=Mod.cell1 _ _ _ _
      have hne:∀ {e:TypeId} {sz nn:Nat} {v:Value} {xs:List Value} {W:World},W.ownsRow B e sz v nn xs->∀ q,v.ownBlock=some q->¬ (q=gb):=fun h q hq e=>by have:=own_atB h hq;have:=HGB3.out;omega
      have hpn9:=own_keepM HPN7.out HMG9.out (fun q hq e=>own_two HPN7.out HFL7.out (by decide) hq e)
      have hpn10:=own_keepM hpn9 hm10 (hne hpn9)
      have hfl10:=own_keepM HO9.out hm10 (hne HO9.out)
      have HTRZ:=zh (show TrW (w9.setCell ⟨gb,3,none⟩ (.slice ta' (fn+2) tc')) B gb (L++[ch]) ⟨#[]⟩ va' vc' ta' (fn+2) tc' (fs++[⟨⟨[ch],true,[]⟩,.slice none 0 0⟩,⟨⟨[ch,47,102],false,[1]⟩,.slice (some ⟨w7.heap.size,0,none⟩) 1 1⟩]) from by
       refine ⟨?_,?_,?_,?_,?_,?_⟩
       ·rw [HNW.out] at hpn10
        simpa using hpn10
       ·rw [heap_setCell HS9.out _,<- HZ3.out];rfl
       ·have hx:(fs++[(⟨⟨[ch],true,[]⟩,.slice none 0 0⟩:FlX),⟨⟨[ch,47,102],false,[1]⟩,.slice (some ⟨w7.heap.size,0,none⟩) 1 1⟩]).flatMap FlX.cells=fs.flatMap FlX.cells++[.string C,.bool true,.slice none 0 0,.string P1,.bool false,.slice (some ⟨w7.heap.size,0,none⟩) 1 1]:=by
         rw [List.flatMap_append,HC.out,HP1.out];rfl
        rw [hx]
        exact hfl10
       ·rw [List.length_append,<- HTR.out.len];rfl
       ·rw [List.map_append,HTR.out.paths]
        simp [pathsT]
       ·intro f hf
        rcases List.mem_append.1 hf with hf | hf
        ·exact HTR.out.sls f hf
        ·simp only [List.mem_cons,List.not_mem_nil,or_false] at hf
         rcases hf with rfl | rfl
         ·exact ⟨_,_,_,rfl⟩
         ·exact ⟨_,_,_,rfl⟩)
      have HMZ:=zh (show Mod (fun i=>i=gb\/B<=i) w3 (w9.setCell ⟨gb,3,none⟩ (.slice ta' (fn+2) tc')) from (HMO7.out.trans (HMG9.out.weaken (fun q _ e=>.inr (own_atB HFL7.out e)))).trans (hm10.weaken (fun _ _ e=>.inl e)))
      exact ⟨⟨k+1,va',vc',ta',fn+2,tc',_,by omega,rfl,by rw [HL.out,List.length_append];rfl,by rw [HL.out];exact HTRZ.out,HMZ.out⟩,by show 6 - ((k:Int)+1).toNat < 6 - (k:Int).toNat;omega⟩
  ·have hk6:k=6:=by omega
   have hk1:¬ ((k:Int) < 6):=by omega
   have HTU:=zh (show Turned (Lk ar k) by rw [hk6];exact turned_six ar)
   have HLX:=zh (show lockX (Lk ar k)=lckT (Lk ar k)/\lockX (Lk ar k).tail=lckT (Lk ar k).tail by rw [hk6];exact lock_six ar)
   have hL6:(Lk ar k).length<=6:=by have:=Lk_len ar k;omega
   have HWZ:=zh (show Mod No w wr from HM3.out.then HMO.out (fun i hi e=>by have:=HGB.out;have:=HGB3.out;omega))
   generalize Lk ar k=L at *
   clear hk6 hlt hk HA3 HS3 HM3 HNE
   obtain ⟨KL,hKL⟩:∃ K:ByteArray,K=⟨(lckT L).toArray⟩:=⟨_,rfl⟩
   have HKL:=zh hKL
   have HLT:=zh (fun (W:World) (hW:Mod No wr W)=>locktext_at L hL6 KL hKL HLX.out.1 (.slice oa L.length oc) W ((Sl.of_own (X:=No) HTR.out.pins (fun _ _ f=>f)).kn hW))
   clear hKL
   go_wp2_with fail
   with_reducible refine (HLT.out _ (Mod.refl No _)).mono ?_
   rintro e w4 ⟨rfl,hm4⟩
   have HTR4:=zh (HTR.out.no hm4)
   have HMO4:=zh (HMO.out.trans hm4.no)
   have HWZ4:=zh (HWZ.out.trans hm4)
   have c1:=cell_ofA HTR4.out.sta (i:=1) rfl
   have f1:=frozen_of 1 HTR4.out.sta
   clear hm4 HLT HTR HMO HWZ
   go_upto_region 22 with fail
   generalize hw5:World.setCell w4 ⟨gb,1,none⟩ (.string KL)=w5
   have hm5:Mod (fun i=>i=gb) w4 w5:=by rw [<- hw5];exact Mod.cell1 _ _ _ _
   have htr5:TrW w5 B gb L KL oa oc ta fn tc fs:=⟨own_keepM HTR4.out.pins hm5 (fun q hq e=>by have:=own_atB HTR4.out.pins hq;have:=HGB3.out;omega),by rw [<- hw5,heap_setCell HTR4.out.sta _];rfl,own_keepM HTR4.out.files hm5 (fun q hq e=>by have:=own_atB HTR4.out.files hq;have:=HGB3.out;omega),HTR4.out.len,HTR4.out.paths,HTR4.out.sls⟩
   have HTR5:=zh htr5
   have HMO5:=zh (HMO4.out.trans (hm5.weaken (fun _ _ e=>.inl e)))
   have HWZ5:=zh (show Mod No w w5 from HWZ4.out.then hm5 (fun i hi e=>by have:=HGB.out;omega))
   clear hw5 hm5 htr5 c1 f1 HTR4 HMO4 HWZ4
   obtain ⟨M,hM⟩:∃ M:ByteArray,M=⟨(manT L).toArray⟩:=⟨_,rfl⟩
   have HM:=zh hM
   have hml:(manT L).length<=1000000:=by rw [man_len];omega
   have hkl:(lckT L).length<=1000000:=by rw [lck_len];omega
   have hfl:fs.length<=1000000:=by rw [<- HTR5.out.len,HTR5.out.few];omega
   have HHD0:=zh (fun (W:World) (hW:Mod No w5 W)=>held_at (manT L) (lckT L) M KL hM HKL.out hml hkl fs fn HTR5.out.len hfl ta tc HTR5.out.sls W ((HG.out.stay HWZ5.out (fun f=>f)).stay hW (fun f=>f)) ((Sl.of_own (X:=No) HTR5.out.files (fun _ _ f=>f)).kn hW) true (by rw [HTR5.out.paths];exact HTU.out.good))
   obtain ⟨wA,hwA⟩:∃ z,z=w5.drew:=⟨_,rfl⟩
   have hm5A:Mod No w5 wA:=by rw [hwA];exact (Mod.refl No w5).drew
   have HTRA:=zh (HTR5.out.no hm5A)
   have HWZA:=zh (HWZ5.out.trans hm5A)
   have HMOA:=zh (HMO5.out.trans hm5A.no)
   have HHD:=zh (fun (W:World) (hW:Mod No wA W)=>HHD0.out W (hm5A.trans hW))
   have hsA:=HTRA.out.sta
   rw [<- hM] at hsA
   have HSA:=zh hsA
   have HWA:=zh hwA
   clear hwA hm5A hsA HHD0 HTR5 HWZ5 hM hk1
   by_cases hL0:L=[]
   ·have hf0:fn=0:=by have:=HTRA.out.few;rw [hL0] at this;simpa using this
    have HL0:=zh hL0
    have hfI:¬ (0:Int) < (fn:Int):=by omega
    have hfI2:decide (0 < fn)=false:=by simp;omega
    have hfI3:decide ((0:Int) < (fn:Int))=false:=by simp;omega
    have HSB:=zh (show ∀ w',Mod No wA w'->w'.heap[gb]? = some (.cells #[.string M,.string KL,.slice none 0 0,.slice ta fn tc] 38 (0,0)) from fun w' h=>h.keep HSA.out (fun f=>f))
    have hS0:=HSB.out wA (Mod.refl _ _)
    clear hf0 hL0
    refine wp_region_T (fun w'=>w'.heap[gb]? = some (.cells #[.string M,.string KL,.slice none 0 0,.slice ta fn tc] 38 (0,0))) 99 (by kernel_rfl) ?_
    rw [<- HWA.out]
    clear HWA
    refine yT 0 (some 69) (.agg #[.string M,.string KL,.slice none 0 0,.slice ta fn tc]) hS0 ?_ ?_
    ·(intro w' hSw;have q0:=hSw;exact yloadR (load_sta q0) (.tmp 5) rfl rfl)
    simp only [Act.put,yB,yC,yD]
    refine wpAnyT_one 1 rfl (by kernel_rfl) rfl ?_
    intro K hK
    go_simp
    go_at_call 16
    with_reducible refine (HHD.out _ (Mod.refl _ _)).mono ?_
    rintro e wB ⟨rfl,hB⟩
    have HB:=zh hB
    clear hB
    show K _ _
    have hS1:=HSB.out wB HB.out
    refine hK.out _ _ (fun _=>hS1) ?_
    clear hK K
    refine yT 2 (some 71) ?_ hS1 ?_ ?_
    rotate_left
    ·(intro w' hSw;have q0:=hSw;go_simp;try with_reducible rfl)
    simp only [Act.put,yB,yC,yD]
    refine yT 3 (some 72) ?_ hS1 ?_ ?_
    rotate_left
    ·(intro w' hSw;have q0:=hSw;go_simp;try with_reducible rfl)
    simp only [Act.put,yB,yC,yD]
    refine yT 4 (some 73) ?_ hS1 ?_ ?_
    rotate_left
    ·(intro w' hSw;have q0:=hSw;go_simp;try with_reducible rfl)
    simp only [Act.put,yB,yC,yD]
    refine yT 5 (some 74) ?_ hS1 ?_ ?_
    rotate_left
    ·(intro w' hSw;have q0:=hSw;have c3:=cell_ofA q0 (i:=3) rfl;go_simp;try with_reducible rfl)
    simp only [Act.put,yB,yC,yD]
    refine yT 6 (some 75) ?_ hS1 ?_ ?_
    rotate_left
    ·(intro w' hSw;have q0:=hSw;go_simp;try with_reducible rfl)
    simp only [Act.put,yB,yC,yD]
    refine yT 7 (some 76) ?_ hS1 ?_ ?_
    rotate_left
    ·(intro w' hSw;have q0:=hSw;go_simp;try with_reducible rfl)
    simp only [Act.put,yB,yC,yD]
    refine yT 8 (some 77) ?_ hS1 ?_ ?_
    rotate_left
    ·(intro w' hSw;have q0:=hSw;go_simp;try with_reducible rfl)
    simp only [Act.put,yB,yC,yD]
    refine yU 9 78 hS1 ?_
    refine yU 10 79 hS1 ?_
    refine yU 11 80 hS1 ?_
    refine yU 12 81 hS1 ?_
    refine yU 13 82 hS1 ?_
    refine yU 14 83 hS1 ?_
    refine yU 15 84 hS1 ?_
    refine yU 16 85 hS1 ?_
    refine yU 17 86 hS1 ?_
    refine yU 18 87 hS1 ?_
    refine yU 19 88 hS1 ?_
    refine yT 20 (some 89) ?_ hS1 ?_ ?_
    rotate_left
    ·(intro w' hSw;have q0:=hSw;go_simp;try with_reducible rfl)
    simp only [Act.put,yB,yC,yD]
    refine yT 21 (some 90) ?_ hS1 ?_ ?_
    rotate_left
    ·(intro w' hSw;have q0:=hSw;go_simp;try with_reducible rfl)
    simp only [Act.put]
    refine wpAnyT_done (by kernel_rfl) ?_ _
    have HTRB:=zh (HTRA.out.no HB.out)
    have HWZB:=zh (HWZA.out.trans HB.out)
    have HMOB:=zh (HMOA.out.trans HB.out.no)
    have hsb:=hS1
    have HSTB:=zh hsb
    have c0:=cell_ofA hsb (i:=0) rfl
    have f0:=frozen_of 0 hsb
    have c1:=cell_ofA hsb (i:=1) rfl
    have f1:=frozen_of 1 hsb
    have c3:=cell_ofA hsb (i:=3) rfl
    have f3:=frozen_of 3 hsb
    have hh1:(0:Int)<=(how:Int)/\(how:Int) < 256:=by omega
    have hm4:(how:Int).tmod 4=((how % 4:Nat):Int):=(Int.ofNat_tmod how 4).symm
    clear hsb HHD HSB hS0 hS1 HWZA HTRA HSA HB hfI hfI2 hfI3
    rcases (show how % 4=0\/how % 4=1\/how % 4=2\/how % 4=3 by omega) with hq | hq | hq | hq
    ·have hq0:(how:Int).tmod 4=0:=by rw [hm4,hq];rfl
     obtain ⟨M2,hM2⟩:∃ M:ByteArray,M=⟨(manT L++zzT).toArray⟩:=⟨_,rfl⟩
     have hcat:M ++ ⟨#[110,101,101,100,32,122,122,32,42,10]⟩=M2:=by rw [hM2,HM.out];exact str_app (manT L) zzT
     have hsz:¬ (9223372036854775807 < M.size+10):=by rw [HM.out];have:=str_len3 (manT L);omega
     have HM2:=zh hM2
     clear hM2 hm4 hq
     go_upto_region 35 with fail
     generalize hw6:World.setCell wB ⟨gb,0,none⟩ (.string M2)=w6
     have hm6:Mod (fun i=>i=gb) wB w6:=by rw [<- hw6];exact Mod.cell1 _ _ _ _
     have HS6:=zh (show w6.heap[gb]? = some (.cells #[.string M2,.string KL,.slice none 0 0,.slice ta fn tc] 38 (0,0)) by rw [<- hw6,heap_setCell HSTB.out _];rfl)
     have HFL6:=zh (own_keepM HTRB.out.files hm6 (fun q hq e=>by have:=own_atB HTRB.out.files hq;have:=HGB3.out;omega))
     have HWZ6:=zh (show Mod No w w6 from HWZB.out.then hm6 (fun i hi e=>by have:=HGB.out;omega))
     clear hw6 hm6 c0 c1 c3 f0 f1 f3
     clear hcat hsz hq0
     have HH6:=zh (held_at (manT L++zzT) (lckT L) M2 KL HM2.out HKL.out (by rw [List.length_append,man_len];have:zzT.length=10:=rfl;omega) (hkl) (fs) (fn) HTRB.out.len hfl ta tc HTRB.out.sls w6 (HG.out.stay HWZ6.out (fun f=>f)) (Sl.of_own (X:=No) HFL6.out (fun _ _ f=>f)) false (by rw [HTRB.out.paths];exact HTU.out.need))
     have a0:=cell_ofA HS6.out (i:=0) rfl
     have a1:=cell_ofA HS6.out (i:=1) rfl
     have a2:=cell_ofA HS6.out (i:=2) rfl
     have a3:=cell_ofA HS6.out (i:=3) rfl
     clear hml hkl hfl
     go_wp2_with fail
     with_reducible refine HH6.out.mono ?_
     rintro e w7 ⟨rfl,hm7⟩
     have HMZ:=zh (HWZ6.out.trans hm7)
     clear hm7 HH6 a0 a1 a2 a3
     go_wp2_with fail
     exact fin hR ⟨rfl,HMZ.out⟩
    ·have hq0:(how:Int).tmod 4=1:=by rw [hm4,hq];rfl
     have hLl:((L.length:Int) == 0)=true:=by rw [HL0.out];rfl
     clear hm4 hq
     go_wp2_with fail
     exact fin hR ⟨rfl,HWZB.out⟩
    ·have hq0:(how:Int).tmod 4=2:=by rw [hm4,hq];rfl
     obtain ⟨i1,hi0,hz0,hz1,hz2⟩:=info_parts info_flT
     have hfn:fn<=12:=by have:=HTRB.out.few;omega
     have hBB:B<=wB.heap.size:=by have:=HMOB.out.size;have:=HBE.out;omega
     clear hm4 hq
     go_upto_region 35 with (at_builtin;refine app_sl _ rfl _ _ 22 rfl B 51 i1 _ 3 48 underlying22 hi0 hz0 hz1 hz2 rfl (by decide) (.slice ta fn tc) fn (fs.flatMap FlX.cells) rfl (own_keepM HTRB.out.files ((Mod.refl No wB).alloc _) (fun _ _ f=>f)) No 51 (.slice (some ⟨wB.heap.size,0,none⟩) 1 1) 1 [.string ⟨#[103]⟩,.bool false,.slice none 0 0] rfl (sl_new wB 51 [.string ⟨#[103]⟩,.bool false,.slice none 0 0] (Nat.le_refl 1) (by unfold maxLen;omega)) rfl (by simp [Value.oneCell']) (by unfold maxLen;omega) (by omega) (by simp;omega) ?_;intro v9 w9 hown9 hg9 _;obtain ⟨ta',tc',hv9⟩:=own_len hown9;subst hv9;have HO9:=zh hown9;have hmg9:Mod (fun q=>(Value.slice ta fn tc).ownBlock=some q) wB w9:=(((Mod.refl No wB).alloc (.cells #[.string ⟨#[103]⟩,.bool false,.slice none 0 0] 51)).no).trans (Mod.of_grown hg9 (fun q hq _=>hq));have hs9:=hmg9.keep HSTB.out (fun e=>by have:=own_atB HTRB.out.files e;have:=HGB3.out;omega);have HS9:=zh hs9;have HMG9:=zh hmg9;have c9:=cell_ofA hs9 (i:=3) rfl;have f9:=frozen_of 3 hs9;clear hown9 hg9 hmg9 hs9)
     generalize hw6:World.setCell w9 ⟨gb,3,none⟩ (.slice ta' (fn+1) tc')=w6
     have hm6:Mod (fun i=>i=gb) w9 w6:=by rw [<- hw6];exact Mod.cell1 _ _ _ _
     have HS6:=zh (show w6.heap[gb]? = some (.cells #[.string M,.string KL,.slice none 0 0,.slice ta' (fn+1) tc'] 38 (0,0)) by rw [<- hw6,heap_setCell HS9.out _];rfl)
     have HFL6:=zh (show w6.ownsRow B 51 3 (.slice ta' (fn+1) tc') (fn+1) ((fs++[(⟨⟨[103],false,[]⟩,.slice none 0 0⟩:FlX)]).flatMap FlX.cells) by
      have hx:(fs++[(⟨⟨[103],false,[]⟩,.slice none 0 0⟩:FlX)]).flatMap FlX.cells=fs.flatMap FlX.cells++[.string ⟨#[103]⟩,.bool false,.slice none 0 0]:=by rw [List.flatMap_append];rfl
      rw [hx]
      exact own_keepM HO9.out hm6 (fun q hq e=>by have:=own_atB HO9.out hq;have:=HGB3.out;omega))
     have HWZ6:=zh (show Mod No w w6 from HWZB.out.then (HMG9.out.weaken (fun q _ e=>.inr e) |>.trans (hm6.weaken (fun q _ e=>.inl e)):Mod (fun q=>q=gb\/(Value.slice ta fn tc).ownBlock=some q) wB w6) (fun i hi e=>by
      rcases e with e | e
      ·have:=HGB.out;omega
      ·have:=own_atB HTRB.out.files e;have:=HGB.out;have:=HGB3.out;omega))
     clear hw6 hm6 c0 c1 c3 f0 f1 f3 c9 f9 hi0 hz0 hz1 hz2 hq0 hfn hBB
     have HH6:=zh (held_at (manT L) (lckT L) M KL HM.out HKL.out (hml) (hkl) ((fs++[(⟨⟨[103],false,[]⟩,.slice none 0 0⟩:FlX)])) ((fn+1)) (by rw [List.length_append,<- HTRB.out.len];rfl) (by rw [List.length_append,<- HTRB.out.len,HTRB.out.few,List.length_singleton];omega) ta' tc' (fun f hf=>(List.mem_append.1 hf).elim (HTRB.out.sls f) (fun h=>by obtain rfl:=List.mem_singleton.1 h;exact ⟨_,_,_,rfl⟩)) w6 (HG.out.stay HWZ6.out (fun f=>f)) (Sl.of_own (X:=No) HFL6.out (fun _ _ f=>f)) false (by rw [List.map_append,HTRB.out.paths];exact HTU.out.file))
     have a0:=cell_ofA HS6.out (i:=0) rfl
     have a1:=cell_ofA HS6.out (i:=1) rfl
     have a2:=cell_ofA HS6.out (i:=2) rfl
     have a3:=cell_ofA HS6.out (i:=3) rfl
     clear hml hkl hfl
     go_wp2_with fail
     with_reducible refine HH6.out.mono ?_
     rintro e w7 ⟨rfl,hm7⟩
     have HMZ:=zh (HWZ6.out.trans hm7)
     clear hm7 HH6 a0 a1 a2 a3
     go_wp2_with fail
     exact fin hR ⟨rfl,HMZ.out⟩
    ·have hq0:(how:Int).tmod 4=3:=by rw [hm4,hq];rfl
     obtain ⟨K2,hK2⟩:∃ K:ByteArray,K=⟨(lckT L++[120]).toArray⟩:=⟨_,rfl⟩
     have hcat:KL ++ ⟨#[120]⟩=K2:=by rw [hK2,HKL.out];exact str_app (lckT L) [120]
     have hsz:¬ (9223372036854775807 < KL.size+1):=by rw [HKL.out];have:=str_len3 (lckT L);omega
     have HK2:=zh hK2
     clear hK2 hm4 hq
     go_upto_region 35 with fail
     generalize hw6:World.setCell wB ⟨gb,1,none⟩ (.string K2)=w6
     have hm6:Mod (fun i=>i=gb) wB w6:=by rw [<- hw6];exact Mod.cell1 _ _ _ _
     have HS6:=zh (show w6.heap[gb]? = some (.cells #[.string M,.string K2,.slice none 0 0,.slice ta fn tc] 38 (0,0)) by rw [<- hw6,heap_setCell HSTB.out _];rfl)
     have HFL6:=zh (own_keepM HTRB.out.files hm6 (fun q hq e=>by have:=own_atB HTRB.out.files hq;have:=HGB3.out;omega))
     have HWZ6:=zh (show Mod No w w6 from HWZB.out.then hm6 (fun i hi e=>by have:=HGB.out;omega))
     clear hw6 hm6 c0 c1 c3 f0 f1 f3
     clear hcat hsz hq0
     have HH6:=zh (held_at (manT L) (lckT L++[120]) M K2 HM.out HK2.out (hml) (by rw [List.length_append,List.length_singleton,lck_len];omega) (fs) (fn) HTRB.out.len hfl ta tc HTRB.out.sls w6 (HG.out.stay HWZ6.out (fun f=>f)) (Sl.of_own (X:=No) HFL6.out (fun _ _ f=>f)) false (by rw [HTRB.out.paths];exact HTU.out.text))
     have a0:=cell_ofA HS6.out (i:=0) rfl
     have a1:=cell_ofA HS6.out (i:=1) rfl
     have a2:=cell_ofA HS6.out (i:=2) rfl
     have a3:=cell_ofA HS6.out (i:=3) rfl
     clear hml hkl hfl
     go_wp2_with fail
     with_reducible refine HH6.out.mono ?_
     rintro e w7 ⟨rfl,hm7⟩
     have HMZ:=zh (HWZ6.out.trans hm7)
     clear hm7 HH6 a0 a1 a2 a3
     go_wp2_with fail
     exact fin hR ⟨rfl,HMZ.out⟩
   ·have HL0:=zh hL0
    obtain ⟨ch,L',hLc⟩:∃ c l,L=c :: l:=by
     cases L with
     | nil=>exact absurd rfl hL0
     | cons c l=>exact ⟨c,l,rfl⟩
    obtain ⟨pb,hoa⟩:∃ pb,oa=some ⟨pb,0,none⟩:=by
     obtain ⟨_,⟨hv,h0⟩ | ⟨g',cap,cur,hv,_⟩⟩:=HTRA.out.pins
     ·rw [hLc] at h0;cases h0
     ·cases hv;exact ⟨_,rfl⟩
    have hf2:fn=2*L'.length+2:=by have:=HTRA.out.few;rw [hLc,List.length_cons] at this;omega
    obtain ⟨fb,hta⟩:∃ fb,ta=some ⟨fb,0,none⟩:=by
     obtain ⟨_,⟨hv,h0⟩ | ⟨g',cap,cur,hv,_⟩⟩:=HTRA.out.files
     ·omega
     ·cases hv;exact ⟨_,rfl⟩
    subst hoa hta
    obtain ⟨f0,f1,fr,hfs,hf1⟩:∃ f0 f1 fr,fs=f0 :: f1 :: fr/\f1.f.path=[ch,47,102]:=by
     have hp:=HTRA.out.paths
     rw [hLc] at hp
     match fs,hp with
     | [],hp=>cases hp
     | [_],hp=>simp [pathsT] at hp
     | a :: b :: r,hp =>
      refine ⟨a,b,r,rfl,?_⟩
      simp only [pathsT,List.map_cons,List.flatMap_cons,List.cons_append,List.nil_append,List.cons.injEq] at hp
      exact hp.2.1
    obtain ⟨P0,hP0⟩:∃ P:ByteArray,P=⟨[ch].toArray⟩:=⟨_,rfl⟩
    obtain ⟨P1,hP1⟩:∃ P:ByteArray,P=⟨[ch,47,102].toArray⟩:=⟨_,rfl⟩
    have q1:wA.cell? ⟨pb,0,none⟩=some (.string P0):=by
     have h1:=HTRA.out.pins.cells (g:=pb) rfl 0 (strV [ch]) (by rw [hLc];rfl)
     rw [hP0]
     simpa [Addr.add_lit] using h1
    have q2:wA.cell? ⟨fb,3,none⟩=some (.string P1):=by
     have h1:=HTRA.out.files.cells (g:=fb) rfl 3 (strV f1.f.path) (by rw [hfs];rfl)
     rw [hf1] at h1
     rw [hP1]
     simpa [Addr.add_lit] using h1
    have HWI:=zh (show ∀ W,Calls prog 17 #[.string P1,.string P0] W fun e w'=>e=.returned (.bool true)/\w'=W from fun W=>by
     have h:=refwithin_any [ch,47,102] [ch] W
     rw [show withinB [ch,47,102] [ch]=true by simp [withinB]] at h
     rw [hP0,hP1]
     exact h)
    have hfI:(0:Int) < (fn:Int):=by omega
    have hfI2:decide (0 < fn)=true:=by simp;omega
    have hfI3:decide ((0:Int) < (fn:Int))=true:=by simp;omega
    have hlI:(0:Int) < (L.length:Int):=by rw [hLc,List.length_cons];omega
    have hf1I:(1:Int) < (fn:Int):=by omega
    have hlN:0 < L.length:=by omega
    have hfN:1 < fn:=by omega
    have HSB:=zh (show ∀ w',Mod No wA w'->w'.heap[gb]? = some (.cells #[.string M,.string KL,.slice none 0 0,.slice (some ⟨fb,0,none⟩) fn tc] 38 (0,0))/\w'.cell? ⟨fb,3,none⟩=some (.string P1)/\w'.cell? ⟨pb,0,none⟩=some (.string P0) from fun w' h=>⟨h.keep HSA.out (fun f=>f),h.cell q2 (fun f=>f),h.cell q1 (fun f=>f)⟩)
    have hS0:=HSB.out wA (Mod.refl _ _)
    clear hLc hf2 hfs hf1 hP0 hP1 q1 q2 hL0
    refine wp_region_T (fun w'=>w'.heap[gb]? = some (.cells #[.string M,.string KL,.slice none 0 0,.slice (some ⟨fb,0,none⟩) fn tc] 38 (0,0))/\w'.cell? ⟨fb,3,none⟩=some (.string P1)/\w'.cell? ⟨pb,0,none⟩=some (.string P0)) 99 (by kernel_rfl) ?_
    rw [<- HWA.out]
    clear HWA
    refine yT 0 (some 69) (.agg #[.string M,.string KL,.slice none 0 0,.slice (some ⟨fb,0,none⟩) fn tc]) hS0 ?_ ?_
    ·(intro w' hSw;obtain ⟨q0,q1,q2⟩:=hSw;exact yloadR (load_sta q0) (.tmp 5) rfl rfl)
    simp only [Act.put,yB,yC,yD]
    refine wpAnyT_one 1 rfl (by kernel_rfl) rfl ?_
    intro K hK
    go_simp
    go_at_call 16
    with_reducible refine (HHD.out _ (Mod.refl _ _)).mono ?_
    rintro e wB ⟨rfl,hB⟩
    have HB:=zh hB
    clear hB
    show K _ _
    have hS1:=HSB.out wB HB.out
    refine hK.out _ _ (fun _=>hS1) ?_
    clear hK K
    refine yS 2 71 hS1 ?_
    refine yS 3 72 hS1 ?_
    refine yS 4 73 hS1 ?_
    refine yT 5 (some 74) ?_ hS1 ?_ ?_
    rotate_left
    ·(intro w' hSw;obtain ⟨q0,q1,q2⟩:=hSw;have c3:=cell_ofA q0 (i:=3) rfl;go_simp;try with_reducible rfl)
    simp only [Act.put,yB,yC,yD]
    refine yS 6 75 hS1 ?_
    refine yS 7 76 hS1 ?_
    refine yS 8 77 hS1 ?_
    refine yS 9 78 hS1 ?_
    refine yT 10 (some 79) ?_ hS1 ?_ ?_
    rotate_left
    ·(intro w' hSw;obtain ⟨q0,q1,q2⟩:=hSw;have c3:=cell_ofA q0 (i:=3) rfl;go_simp;try with_reducible rfl)
    simp only [Act.put,yB,yC,yD]
    refine yS 11 80 hS1 ?_
    refine yS 12 81 hS1 ?_
    refine yS 13 82 hS1 ?_
    refine yS 14 83 hS1 ?_
    refine yS 15 84 hS1 ?_
    refine yS 16 85 hS1 ?_
    refine yS 17 86 hS1 ?_
    refine wpAnyT_oneW 18 rfl (by kernel_rfl) (by rfl) ?_
    intro K hK
    go_simp
    go_at_call 17
    with_reducible refine (HWI.out _).mono ?_
    rintro e w9 ⟨rfl,h9⟩
    rw [h9]
    clear h9 w9
    show K _ _
    have hS2:=hS1
    refine hK.out _ _ (fun _=>hS2) ?_
    clear hK K
    refine yS 19 88 hS2 ?_
    refine yS 20 89 hS2 ?_
    refine yT 21 (some 90) ?_ hS2 ?_ ?_
    rotate_left
    ·(intro w' hSw;obtain ⟨q0,q1,q2⟩:=hSw;go_simp;try with_reducible rfl)
    simp only [Act.put]
    refine wpAnyT_done (by kernel_rfl) ?_ _
    have HTRB:=zh (HTRA.out.no HB.out)
    have HWZB:=zh (HWZA.out.trans HB.out)
    have HMOB:=zh (HMOA.out.trans HB.out.no)
    have hsb:=hS1.1
    have HSTB:=zh hsb
    have c0:=cell_ofA hsb (i:=0) rfl
    have f0:=frozen_of 0 hsb
    have c1:=cell_ofA hsb (i:=1) rfl
    have f1:=frozen_of 1 hsb
    have c3:=cell_ofA hsb (i:=3) rfl
    have f3:=frozen_of 3 hsb
    have hh1:(0:Int)<=(how:Int)/\(how:Int) < 256:=by omega
    have hm4:(how:Int).tmod 4=((how % 4:Nat):Int):=(Int.ofNat_tmod how 4).symm
    clear hsb HHD HSB hS0 hS1 HWZA HTRA HSA HB hS2 hfI hfI2 hfI3 hlI hf1I hlN hfN HWI
    rcases (show how % 4=0\/how % 4=1\/how % 4=2\/how % 4=3 by omega) with hq | hq | hq | hq
    ·have hq0:(how:Int).tmod 4=0:=by rw [hm4,hq];rfl
     obtain ⟨M2,hM2⟩:∃ M:ByteArray,M=⟨(manT L++zzT).toArray⟩:=⟨_,rfl⟩
     have hcat:M ++ ⟨#[110,101,101,100,32,122,122,32,42,10]⟩=M2:=by rw [hM2,HM.out];exact str_app (manT L) zzT
     have hsz:¬ (9223372036854775807 < M.size+10):=by rw [HM.out];have:=str_len3 (manT L);omega
     have HM2:=zh hM2
     clear hM2 hm4 hq
     go_upto_region 35 with fail
     generalize hw6:World.setCell wB ⟨gb,0,none⟩ (.string M2)=w6
     have hm6:Mod (fun i=>i=gb) wB w6:=by rw [<- hw6];exact Mod.cell1 _ _ _ _
     have HS6:=zh (show w6.heap[gb]? = some (.cells #[.string M2,.string KL,.slice none 0 0,.slice (some ⟨fb,0,none⟩) fn tc] 38 (0,0)) by rw [<- hw6,heap_setCell HSTB.out _];rfl)
     have HFL6:=zh (own_keepM HTRB.out.files hm6 (fun q hq e=>by have:=own_atB HTRB.out.files hq;have:=HGB3.out;omega))
     have HWZ6:=zh (show Mod No w w6 from HWZB.out.then hm6 (fun i hi e=>by have:=HGB.out;omega))
     clear hw6 hm6 c0 c1 c3 f0 f1 f3
     clear hcat hsz hq0
     have HH6:=zh (held_at (manT L++zzT) (lckT L) M2 KL HM2.out HKL.out (by rw [List.length_append,man_len];have:zzT.length=10:=rfl;omega) (hkl) (fs) (fn) HTRB.out.len hfl (some ⟨fb,0,none⟩) tc HTRB.out.sls w6 (HG.out.stay HWZ6.out (fun f=>f)) (Sl.of_own (X:=No) HFL6.out (fun _ _ f=>f)) false (by rw [HTRB.out.paths];exact HTU.out.need))
     have a0:=cell_ofA HS6.out (i:=0) rfl
     have a1:=cell_ofA HS6.out (i:=1) rfl
     have a2:=cell_ofA HS6.out (i:=2) rfl
     have a3:=cell_ofA HS6.out (i:=3) rfl
     clear hml hkl hfl
     go_wp2_with fail
     with_reducible refine HH6.out.mono ?_
     rintro e w7 ⟨rfl,hm7⟩
     have HMZ:=zh (HWZ6.out.trans hm7)
     clear hm7 HH6 a0 a1 a2 a3
     go_wp2_with fail
     exact fin hR ⟨rfl,HMZ.out⟩
    ·have hq0:(how:Int).tmod 4=1:=by rw [hm4,hq];rfl
     have hLl:((L.length:Int) == 0)=false:=by simpa using HL0.out
     obtain ⟨ra,hsli,hrs⟩:=pn_tailS (Sl.of_own (X:=No) HTRB.out.pins (fun _ _ f=>f)) HTRB.out.pins.1 (List.length_pos_iff.2 HL0.out)
     obtain ⟨K2,hK2⟩:∃ K:ByteArray,K=⟨(lckT L.tail).toArray⟩:=⟨_,rfl⟩
     have HK2:=zh hK2
     have HLT2:=zh (locktext_at L.tail (by rw [List.length_tail];omega) K2 hK2 HLX.out.2 (.slice ra (L.length - 1) (oc - 1)) wB (by
      rw [List.length_tail]
      have e:((L.map pinX).flatMap PnX.cells).drop 37=(L.tail.map pinX).flatMap PnX.cells:=by
       cases hL:L with
       | nil=>exact absurd hL HL0.out
       | cons c l=>rw [List.map_cons,List.flatMap_cons,List.drop_left' (by exact PnX.cells_length _ rfl)];rfl
      rw [<- e]
      exact hrs))
     clear hK2 hm4 hq hrs
     go_wp2_with fail
     with_reducible refine HLT2.out.mono ?_
     rintro e wC ⟨rfl,hmC⟩
     have HTRB:=zh (HTRB.out.no hmC)
     have HWZB:=zh (HWZB.out.trans hmC)
     have hsb:=hmC.keep HSTB.out (fun f=>f)
     have HSTB:=zh hsb
     have c1:=cell_ofA hsb (i:=1) rfl
     have f1:=frozen_of 1 hsb
     clear hmC hsb HLT2 hsli
     go_upto_region 35 with fail
     generalize hw6:World.setCell wC ⟨gb,1,none⟩ (.string K2)=w6
     have hm6:Mod (fun i=>i=gb) wC w6:=by rw [<- hw6];exact Mod.cell1 _ _ _ _
     have HS6:=zh (show w6.heap[gb]? = some (.cells #[.string M,.string K2,.slice none 0 0,.slice (some ⟨fb,0,none⟩) fn tc] 38 (0,0)) by rw [<- hw6,heap_setCell HSTB.out _];rfl)
     have HFL6:=zh (own_keepM HTRB.out.files hm6 (fun q hq e=>by have:=own_atB HTRB.out.files hq;have:=HGB3.out;omega))
     have HWZ6:=zh (show Mod No w w6 from HWZB.out.then hm6 (fun i hi e=>by have:=HGB.out;omega))
     clear hw6 hm6 c0 c1 c3 f0 f1 f3
     clear hq0 hLl
     have HH6:=zh (held_at (manT L) (lckT L.tail) M K2 HM.out HK2.out (hml) (by rw [lck_len,List.length_tail];omega) (fs) (fn) HTRB.out.len hfl (some ⟨fb,0,none⟩) tc HTRB.out.sls w6 (HG.out.stay HWZ6.out (fun f=>f)) (Sl.of_own (X:=No) HFL6.out (fun _ _ f=>f)) false (by rw [HTRB.out.paths];exact HTU.out.pin HL0.out))
     have a0:=cell_ofA HS6.out (i:=0) rfl
     have a1:=cell_ofA HS6.out (i:=1) rfl
     have a2:=cell_ofA HS6.out (i:=2) rfl
     have a3:=cell_ofA HS6.out (i:=3) rfl
     clear hml hkl hfl
     go_wp2_with fail
     with_reducible refine HH6.out.mono ?_
     rintro e w7 ⟨rfl,hm7⟩
     have HMZ:=zh (HWZ6.out.trans hm7)
     clear hm7 HH6 a0 a1 a2 a3
     go_wp2_with fail
     exact fin hR ⟨rfl,HMZ.out⟩
    ·have hq0:(how:Int).tmod 4=2:=by rw [hm4,hq];rfl
     obtain ⟨i1,hi0,hz0,hz1,hz2⟩:=info_parts info_flT
     have hfn:fn<=12:=by have:=HTRB.out.few;omega
     have hBB:B<=wB.heap.size:=by have:=HMOB.out.size;have:=HBE.out;omega
     clear hm4 hq
     go_upto_region 35 with (at_builtin;refine app_sl _ rfl _ _ 22 rfl B 51 i1 _ 3 48 underlying22 hi0 hz0 hz1 hz2 rfl (by decide) (.slice (some ⟨fb,0,none⟩) fn tc) fn (fs.flatMap FlX.cells) rfl (own_keepM HTRB.out.files ((Mod.refl No wB).alloc _) (fun _ _ f=>f)) No 51 (.slice (some ⟨wB.heap.size,0,none⟩) 1 1) 1 [.string ⟨#[103]⟩,.bool false,.slice none 0 0] rfl (sl_new wB 51 [.string ⟨#[103]⟩,.bool false,.slice none 0 0] (Nat.le_refl 1) (by unfold maxLen;omega)) rfl (by simp [Value.oneCell']) (by unfold maxLen;omega) (by omega) (by simp;omega) ?_;intro v9 w9 hown9 hg9 _;obtain ⟨ta',tc',hv9⟩:=own_len hown9;subst hv9;have HO9:=zh hown9;have hmg9:Mod (fun q=>(Value.slice (some ⟨fb,0,none⟩) fn tc).ownBlock=some q) wB w9:=(((Mod.refl No wB).alloc (.cells #[.string ⟨#[103]⟩,.bool false,.slice none 0 0] 51)).no).trans (Mod.of_grown hg9 (fun q hq _=>hq));have hs9:=hmg9.keep HSTB.out (fun e=>by have:=own_atB HTRB.out.files e;have:=HGB3.out;omega);have HS9:=zh hs9;have HMG9:=zh hmg9;have c9:=cell_ofA hs9 (i:=3) rfl;have f9:=frozen_of 3 hs9;clear hown9 hg9 hmg9 hs9)
     generalize hw6:World.setCell w9 ⟨gb,3,none⟩ (.slice ta' (fn+1) tc')=w6
     have hm6:Mod (fun i=>i=gb) w9 w6:=by rw [<- hw6];exact Mod.cell1 _ _ _ _
     have HS6:=zh (show w6.heap[gb]? = some (.cells #[.string M,.string KL,.slice none 0 0,.slice ta' (fn+1) tc'] 38 (0,0)) by rw [<- hw6,heap_setCell HS9.out _];rfl)
     have HFL6:=zh (show w6.ownsRow B 51 3 (.slice ta' (fn+1) tc') (fn+1) ((fs++[(⟨⟨[103],false,[]⟩,.slice none 0 0⟩:FlX)]).flatMap FlX.cells) by
      have hx:(fs++[(⟨⟨[103],false,[]⟩,.slice none 0 0⟩:FlX)]).flatMap FlX.cells=fs.flatMap FlX.cells++[.string ⟨#[103]⟩,.bool false,.slice none 0 0]:=by rw [List.flatMap_append];rfl
      rw [hx]
      exact own_keepM HO9.out hm6 (fun q hq e=>by have:=own_atB HO9.out hq;have:=HGB3.out;omega))
     have HWZ6:=zh (show Mod No w w6 from HWZB.out.then (HMG9.out.weaken (fun q _ e=>.inr e) |>.trans (hm6.weaken (fun q _ e=>.inl e)):Mod (fun q=>q=gb\/(Value.slice (some ⟨fb,0,none⟩) fn tc).ownBlock=some q) wB w6) (fun i hi e=>by
      rcases e with e | e
      ·have:=HGB.out;omega
      ·have:=own_atB HTRB.out.files e;have:=HGB.out;have:=HGB3.out;omega))
     clear hw6 hm6 c0 c1 c3 f0 f1 f3 c9 f9 hi0 hz0 hz1 hz2 hq0 hfn hBB
     have HH6:=zh (held_at (manT L) (lckT L) M KL HM.out HKL.out (hml) (hkl) ((fs++[(⟨⟨[103],false,[]⟩,.slice none 0 0⟩:FlX)])) ((fn+1)) (by rw [List.length_append,<- HTRB.out.len];rfl) (by rw [List.length_append,<- HTRB.out.len,HTRB.out.few,List.length_singleton];omega) ta' tc' (fun f hf=>(List.mem_append.1 hf).elim (HTRB.out.sls f) (fun h=>by obtain rfl:=List.mem_singleton.1 h;exact ⟨_,_,_,rfl⟩)) w6 (HG.out.stay HWZ6.out (fun f=>f)) (Sl.of_own (X:=No) HFL6.out (fun _ _ f=>f)) false (by rw [List.map_append,HTRB.out.paths];exact HTU.out.file))
     have a0:=cell_ofA HS6.out (i:=0) rfl
     have a1:=cell_ofA HS6.out (i:=1) rfl
     have a2:=cell_ofA HS6.out (i:=2) rfl
     have a3:=cell_ofA HS6.out (i:=3) rfl
     clear hml hkl hfl
     go_wp2_with fail
     with_reducible refine HH6.out.mono ?_
     rintro e w7 ⟨rfl,hm7⟩
     have HMZ:=zh (HWZ6.out.trans hm7)
     clear hm7 HH6 a0 a1 a2 a3
     go_wp2_with fail
     exact fin hR ⟨rfl,HMZ.out⟩
    ·have hq0:(how:Int).tmod 4=3:=by rw [hm4,hq];rfl
     obtain ⟨K2,hK2⟩:∃ K:ByteArray,K=⟨(lckT L++[120]).toArray⟩:=⟨_,rfl⟩
     have hcat:KL ++ ⟨#[120]⟩=K2:=by rw [hK2,HKL.out];exact str_app (lckT L) [120]
     have hsz:¬ (9223372036854775807 < KL.size+1):=by rw [HKL.out];have:=str_len3 (lckT L);omega
     have HK2:=zh hK2
     clear hK2 hm4 hq
     go_upto_region 35 with fail
     generalize hw6:World.setCell wB ⟨gb,1,none⟩ (.string K2)=w6
     have hm6:Mod (fun i=>i=gb) wB w6:=by rw [<- hw6];exact Mod.cell1 _ _ _ _
     have HS6:=zh (show w6.heap[gb]? = some (.cells #[.string M,.string K2,.slice none 0 0,.slice (some ⟨fb,0,none⟩) fn tc] 38 (0,0)) by rw [<- hw6,heap_setCell HSTB.out _];rfl)
     have HFL6:=zh (own_keepM HTRB.out.files hm6 (fun q hq e=>by have:=own_atB HTRB.out.files hq;have:=HGB3.out;omega))
     have HWZ6:=zh (show Mod No w w6 from HWZB.out.then hm6 (fun i hi e=>by have:=HGB.out;omega))
     clear hw6 hm6 c0 c1 c3 f0 f1 f3
     clear hcat hsz hq0
     have HH6:=zh (held_at (manT L) (lckT L++[120]) M K2 HM.out HK2.out (hml) (by rw [List.length_append,List.length_singleton,lck_len];omega) (fs) (fn) HTRB.out.len hfl (some ⟨fb,0,none⟩) tc HTRB.out.sls w6 (HG.out.stay HWZ6.out (fun f=>f)) (Sl.of_own (X:=No) HFL6.out (fun _ _ f=>f)) false (by rw [HTRB.out.paths];exact HTU.out.text))
     have a0:=cell_ofA HS6.out (i:=0) rfl
     have a1:=cell_ofA HS6.out (i:=1) rfl
     have a2:=cell_ofA HS6.out (i:=2) rfl
     have a3:=cell_ofA HS6.out (i:=3) rfl
     clear hml hkl hfl
     go_wp2_with fail
     with_reducible refine HH6.out.mono ?_
     rintro e w7 ⟨rfl,hm7⟩
     have HMZ:=zh (HWZ6.out.trans hm7)
     clear hm7 HH6 a0 a1 a2 a3
     go_wp2_with fail
     exact fin hR ⟨rfl,HMZ.out⟩
end Go.Proofs.YtmppeipgjcjdkaaGreatDoor
