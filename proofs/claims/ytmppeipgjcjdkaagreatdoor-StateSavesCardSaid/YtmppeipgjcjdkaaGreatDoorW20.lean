/-
  Layers 0 to 14: helps of the laws of indexes. No statement is proved here; no condition.
-/
import Derived.Test.YtmppeipgjcjdkaaGreatDoorW19
import Derived.Deep.LoopGhost
namespace Go.Proofs.YtmppeipgjcjdkaaGreatDoor
open _root_.Go.Proofs.Tryz
open Go.RowKit
theorem parse_len:∀ (f:Nat) (l:List UInt8) (rs:List (List UInt8)),parse f l=some rs->4*rs.length<=l.length
 | f,[],rs,h=>by
  have:parse f []=some []:=by cases f <;> rfl
  rw [this] at h;cases h;simp
 | 0,x :: l,rs,h=>by cases h
 | f+1,x :: l,rs,h=>by
  unfold parse at h
  split at h
  ·cases h
  ·split at h
   ·obtain ⟨p,hp,rfl⟩:=Option.map_eq_some_iff.1 h
    have:=parse_len f _ p hp
    rw [List.length_drop] at this
    simp only [List.length_cons] at *
    omega
   ·cases h
theorem rd_len {S:Nat->List UInt8} {h size side at_ next t beh:Nat} {rs:List (List UInt8)} (hs:0 < size) (e:rd S h size side at_ next=some (t,rs,beh)):rs.length<=(beh - at_)*size:=by
 unfold rd at e
 split at e
 ·split at e
  ·obtain ⟨p,hp,hq⟩:=Option.map_eq_some_iff.1 e
   simp only [Prod.mk.injEq] at hq
   obtain ⟨_,q2,q3⟩:=hq
   have h1:=parse_len _ _ _ hp
   have h2:=secs_up (size:=size) (n:=32+getN ((((S (side*h+at_)).take size).drop 24).take 8)) hs
   rw [List.length_take] at h1
   rw [<- q3,<- q2,Nat.add_sub_cancel_left]
   omega
  ·cases e
 ·cases e
theorem Chain.bounds {S:Nat->List UInt8} {h size side turn at_ next:Nat} {all:List (List UInt8)} (hs:0 < size) (c:Chain S h size side turn at_ next all):next<=at_/\all.length<=at_*size:=by
 induction c with
 | zero=>simp
 | @step a n b al r _ e ih =>
  obtain ⟨_,h1,_⟩:=rd_some hs e
  have h2:=rd_len hs e
  refine ⟨by omega,?_⟩
  rw [List.length_append]
  have h3:b*size=a*size+(b - a)*size:=by rw [<- Nat.add_mul,Nat.add_sub_cancel' (by omega)]
  omega
theorem OwnRecs.lower {w:World} {base base':Nat} {v:Value} {rs:List (List UInt8)} (h:OwnRecs w base v rs) (hb:base'<=base):OwnRecs w base' v rs:=by
 obtain ⟨vs,h1,⟨hl,h2⟩,h3⟩:=h.row
 refine ⟨vs,h1,⟨hl,?_⟩,fun j u r hu hr=>(h3 j u r hu hr).shrink fun k _ e=>by omega⟩
 rcases h2 with h2 | ⟨g,cap,cur,hv,hg,rest⟩
 ·exact .inl h2
 ·exact .inr ⟨g,cap,cur,hv,by omega,rest⟩
theorem OwnRecs.keepO {S:Nat->Prop} {w w':World} {base:Nat} {v:Value} {rs:List (List UInt8)} (h:OwnRecs w base v rs) (hm:Mod S w w')
  (hs:∀ q,S q->¬ ((∃ cur,w.heap[q]? = some (.cells cur 41 (0,0)))\/∃ cur fz,w.heap[q]? = some (.cells cur 5 fz))):OwnRecs w' base v rs:=by
 obtain ⟨vs,h1,h2,h3⟩:=h.row
 exact ⟨vs,h1,own_keepM h2 hm (fun k hk hS=>hs k hS (.inl (own_heapM h2 hk))),fun j u r hu hr=>(h3 j u r hu hr).keep hm (fun k cur fz hS _ e=>hs k hS (.inr ⟨cur,fz,e⟩))⟩
theorem OwnRecs.app {w w':World} {base base2:Nat} {v v' x:Value} {rs ss:List (List UInt8)} {vs us:List Value} (h1:vs.length=rs.length) (h2:w.ownsRow base 41 1 v rs.length vs)
  (h3:∀ (j:Nat) (u:Value) (r:List UInt8),vs[j]? = some u->rs[j]? = some r->Sl w (fun k=>k < base) 5 u r.length (bv r)) (hb:base<=base2) (k1:us.length=ss.length) (_:w.ownsRow base2 41 1 x ss.length us)
  (k3:∀ (j:Nat) (u:Value) (r:List UInt8),us[j]? = some u->ss[j]? = some r->Sl w (fun k=>k < base2) 5 u r.length (bv r))
  (hg:w.grownBy w' v.ownBlock) (hown:w'.ownsRow base 41 1 v' (rs.length+ss.length) (vs++us)):OwnRecs w' base v' (rs++ss):=by
 have hm:=Mod.of_grown (S:=fun q=>v.ownBlock=some q) hg (fun q e _=>e)
 have hk:∀ {n:Nat} {xs:List Value} {x:Value},Sl w (fun k=>k < base) 5 x n xs->Sl w' (fun k=>k < base) 5 x n xs:=fun hs=>hs.keep hm fun k cur fz hk _ e=>by
  obtain ⟨cur',hc⟩:=own_heapM h2 hk
  rw [hc] at e
  cases e
 refine ⟨vs++us,by simp [h1,k1],by simpa using hown,fun j y z hy hz=>?_⟩
 rcases Nat.lt_or_ge j vs.length with g | g
 ·rw [List.getElem?_append_left g] at hy
  rw [List.getElem?_append_left (by omega)] at hz
  exact hk (h3 j y z hy hz)
 ·rw [List.getElem?_append_right g] at hy
  rw [List.getElem?_append_right (by omega),<- h1] at hz
  exact hk ((k3 _ y z hy hz).shrink fun k _ e=>by omega)
structure LogAt (w:World) (p b ub:Nat) (L:Lg):Prop where
 obj:w.heap[p]? = some (LgObj b ub L.turn L.next L.at_ L.all.length)
 undone:Mp w 3 ub (.map [])
def OpInv (w wr:World) (d:Dk) (b p ub lv T g:Nat) (out:Value):Prop :=
 ∃ L:Lg,L.turn=T/\d.n / 2 - L.at_<=g/\Chain d.last (d.n / 2) (d.sz - 16) (L.turn % 2) L.turn L.at_ L.next L.all/\wr.heap[p]? = some (LgObj b ub L.turn L.next L.at_ L.all.length) ∧
  wr.heap[lv]? = some (.cells #[.pointer (some ⟨p,0,none⟩)] 68 (0,0))/\Mp wr 3 ub (.map [])/\OwnRecs wr w.heap.size out L.all/\Mod No w wr
set_option maxRecDepth 100000 in
set_option maxHeartbeats 4000000 in
theorem wopen_any {b sb mb:Nat} {d:Dk} {w:World} (hn:16<=d.n) (hz:128<=d.sz) (hw:Well d) (h:DkAt w No b sb mb d) :
  Calls prog 22 #[.pointer (some ⟨b,0,none⟩)] w fun e w'=>∃ (p ub:Nat) (v:Value) (L:Lg),e=.returned (.tuple #[.pointer (some ⟨p,0,none⟩),v,.int .i64 0])/\LogAt w' p b ub L/\OwnRecs w' w.heap.size v L.all ∧
   L.turn=turnOf d.last (d.n / 2) (d.sz - 16)/\Chain d.last (d.n / 2) (d.sz - 16) (L.turn % 2) L.turn L.at_ L.next L.all/\Stop d.last (d.n / 2) (d.sz - 16) (L.turn % 2) L.turn L.at_ L.next/\Mod No w w'/\w.heap.size<=p/\w.heap.size<=ub:=by
 have hmm:=@run_makeMap prog
 refine calls_hide fun R hR=>?_
 have H1:=zh (sectors_ok h)
 have H2:=zh (size_ok h)
 have hmf:∀ (fn:Fn) (first cap:Array Value) (w:World),(Instr.makeFunc fn first cap).run prog w=.ok (.func fn first cap) w:=fun _ _ _ _=>rfl
 have hn1:(16:Int)<=(d.n:Int):=by omega
 have hz1:(128:Int)<=(d.sz:Int):=by omega
 have HD:=zh h
 have HW:=zh hw
 clear h hw
 go_enter func22,ntmps22
 go_wp2_with fail
 refine H1.out.mono ?_
 rintro e w' ⟨rfl,h2⟩
 subst h2
 go_wp2_with fail
 refine H2.out.mono ?_
 rintro e w' ⟨rfl,h2⟩
 subst h2
 go_wp2_with fail
 obtain ⟨w3,hw3⟩:∃ w3,w3=((w.alloc (.map #[] 0)).alloc (.cells #[.pointer (some ⟨b,0,none⟩),.int .u64 0,.int .u64 0,.int .i64 0,.int .i64 0,.map (some w.heap.size)] 132)).alloc (.cells #[.pointer (some ⟨w.heap.size+1,0,none⟩)] 68):=⟨_,rfl⟩
 rw [<- hw3]
 have m3:Mod No w w3:=by rw [hw3];exact (((Mod.refl No w).alloc _).alloc _).alloc _
 have hub:Mp w3 3 w.heap.size (.map []):=by
  rw [hw3];exact (Mp.made w 3).keep (S:=No) (((Mod.refl No _).alloc _).alloc _) (fun f=>f)
 have hp:w3.heap[w.heap.size+1]? = some (LgObj b w.heap.size 0 0 0 0):=by
  rw [hw3];exact heap_alloc_old _ (heap_at_new _ _ (by simp))
 have hl:w3.heap[w.heap.size+2]? = some (.cells #[.pointer (some ⟨w.heap.size+1,0,none⟩)] 68 (0,0)):=by
  rw [hw3];exact heap_at_new _ _ (by simp)
 have hbig:∀ k,Own3 b sb mb k->k < w.heap.size:=fun k e=>HD.out.lt e
 obtain ⟨ub,hubn⟩:∃ ub,ub=w.heap.size:=⟨_,rfl⟩
 obtain ⟨p,hpn⟩:∃ p,p=w.heap.size+1:=⟨_,rfl⟩
 obtain ⟨lv,hlvn⟩:∃ lv,lv=w.heap.size+2:=⟨_,rfl⟩
 rw [<- hubn] at hub
 rw [<- hpn,<- hubn] at hp
 rw [<- hlvn,<- hpn] at hl
 rw [<- hlvn,<- hpn]
 have hwub:w.heap.size<=ub:=by omega
 have hwp:w.heap.size<=p:=by omega
 have hup:ub ≠ p:=by omega
 have hlp:lv ≠ p:=by omega
 have hlu:w.heap.size<=lv:=by omega
 have HBG:=zh (begin_any (p:=p) (ub:=ub) hz HW.out (HD.out.stay m3) (fun e=>by have:=hbig p e;omega) hp)
 have HUB:=zh hub
 have HLL:=zh hl
 have M3:=zh m3
 have HNE:=zh (show w.heap.size<=ub/\w.heap.size<=p/\ub ≠ p/\lv ≠ p/\w.heap.size<=lv/\lv < w3.heap.size/\p < w3.heap.size/\ub < w3.heap.size from ⟨hwub,hwp,hup,hlp,hlu,lt_of_heap hl,lt_of_heap hp,by have:=lt_of_heap hp;omega⟩)
 have HBIG:=zh hbig
 clear hw3 m3 hub hp hl hbig hubn hpn hlvn hwub hwp hup hlp hlu H1 H2
 refine HBG.out.mono ?_
 clear HBG
 rintro e w4 ⟨rfl,hp4,hm4⟩
 have R0:=zh (show OpInv w w4 d b p ub lv (turnOf d.last (d.n / 2) (d.sz - 16)) (d.n / 2) (.slice none 0 0) from
  ⟨⟨turnOf d.last (d.n / 2) (d.sz - 16),0,0,[]⟩,rfl,by show d.n / 2 - 0<=d.n / 2;omega,.zero,hp4,hm4.keep HLL.out HNE.out.2.2.2.1,HUB.out.keep hm4 HNE.out.2.2.1,OwnRecs.nil _ _,M3.out.then hm4 fun i hi e=>by have:=HNE.out.2.1;omega⟩)
 generalize turnOf d.last (d.n / 2) (d.sz - 16)=T at *
 clear hp4 hm4 HLL HUB M3
 go_wp2_with fail
 go_loopg [7] (d.n / 2+1) (fun g out wr=>∃ g',g=g'+1/\OpInv w wr d b p ub lv T g' out)
 case atStart=>exact ⟨d.n / 2,rfl,R0.out⟩
 case round =>
  clear R0
  obtain ⟨g,rfl,hinv⟩:=hrel
  obtain ⟨L,hLT,hLg,hch,hp,hl,hub,hrec,hmod⟩:=hinv
  obtain ⟨vs0,-,e20,-⟩:=hrec.row
  obtain ⟨oa,oc,rfl⟩:=own_len e20
  have hbd:=hch.bounds (by omega)
  have hle:=hch.le (by omega)
  have hn2:d.n<=4096:=HD.out.n2
  have hz2:d.sz<=4096:=HD.out.s2
  have hall:L.all.length<=2048*4080:=Nat.le_trans hbd.2 (Nat.mul_le_mul (by omega) (by omega))
  have hplt:=lt_of_heap hp
  have hllt:=lt_of_heap hl
  obtain ⟨w2,hw2⟩:∃ w2,w2=(wr.alloc (.cells #[.slice none 0 0] 69)).alloc (.cells #[.int .i64 0] 3):=⟨_,rfl⟩
  have m2:Mod No wr w2:=by rw [hw2];exact ((Mod.refl No wr).alloc _).alloc _
  have hr2:w2.heap[wr.heap.size]? = some (.cells #[.slice none 0 0] 69 (0,0)):=by rw [hw2];exact heap_alloc_old _ (heap_alloc_new wr _)
  have hb2:w2.heap[wr.heap.size+1]? = some (.cells #[.int .i64 0] 3 (0,0)):=by rw [hw2];exact heap_at_new _ _ (by simp)
  have hz22:w2.heap.size=wr.heap.size+2:=by rw [hw2];simp
  have hwr:=hmod.size
  have HTRY:=try_open (.pointer (some ⟨lv,0,none⟩)) (.pointer (some ⟨wr.heap.size,0,none⟩)) (.pointer (some ⟨wr.heap.size+1,0,none⟩)) w2 (fun q=>q=wr.heap.size\/q=wr.heap.size+1)
   (fun w'=>∃ (rs:List (List UInt8)) (beh:Nat) (v:Value),rd d.last (d.n / 2) (d.sz - 16) (L.turn % 2) L.at_ L.next=some (L.turn,rs,beh)/\w'.heap[wr.heap.size]? = some (.cells #[v] 69 (0,0))/\OwnRecs w' w.heap.size v rs/\w'.heap[wr.heap.size+1]? = some (.cells #[.int .i64 (beh:Int)] 3 (0,0)))
   (fun _=>Stop d.last (d.n / 2) (d.sz - 16) (L.turn % 2) L.turn L.at_ L.next) (fun q e=>by omega)
   (fun w3' hm3'=>(open1_any lv wr.heap.size (wr.heap.size+1) L.all.length L _ _ (by omega) hz HW.out ((HD.out.stay (hmod.trans m2)).stay hm3') ((m2.trans hm3').keep hp (fun f=>f)) ((m2.trans hm3').keep hl (fun f=>f)) (hm3'.keep hr2 (fun f=>f)) (hm3'.keep hb2 (fun f=>f))).mono (by
    rintro e w' ⟨hm,⟨rfl,rs,beh,v,h1,h2,h3,h4⟩ | ⟨rfl,h1⟩⟩
    ·have:=hm3'.size
     exact ⟨hm,.inl ⟨rfl,rs,beh,v,h1,h2,h3.lower (by omega),h4⟩⟩
    ·exact ⟨hm,.inr ⟨rfl,h1⟩⟩))
  have HTRY:=zh HTRY
  have HW2:=zh hw2
  have HPP:=zh hp
  have HLL:=zh hl
  have HUB:=zh hub
  have HREC:=zh hrec
  have HMOD:=zh hmod
  have M2:=zh m2
  have HZ2:=zh hz22
  have HCH:=zh hch
  have HBD:=zh (And.intro hplt hllt)
  clear e20 vs0 hw2 m2 hr2 hb2 hz22 hp hl hub hrec hmod hch hplt hllt
  go_wp2_with fail
  rw [<- HW2.out]
  refine HTRY.out.mono ?_
  clear HTRY
  rintro e w5 ⟨w4',hm4,⟨hx1,hx2⟩,hm5,hcase⟩
  have hz2':=HZ2.out
  have hz4:=hm4.size
  have hplt:=HBD.out.1
  have hllt:=HBD.out.2
  have MN:=zh (show Mod No wr w5 from (M2.out.then hm4 fun i hi e=>by omega).then hm5 fun i hi e=>by omega)
  have hl5:=MN.out.keep HLL.out (fun f=>f)
  have hp5:=MN.out.keep HPP.out (fun f=>f)
  have l5:=cell_of (i:=0) hl5 rfl
  have HP5:=zh hp5
  have HL5:=zh hl5
  rcases hcase with ⟨rfl,rs,beh,v,hrd,hrv,hrecs,hbv⟩ | ⟨rfl,hstop⟩
  ·obtain ⟨us,k1,k2,k3⟩:=hrecs.row
   obtain ⟨sa,sc,rfl⟩:=own_len k2
   have hrl:=rd_len (by omega) hrd
   obtain ⟨hat1,hat2,hat3,_⟩:=rd_some (by omega) hrd
   have hrl2:rs.length<=2048*4080:=Nat.le_trans hrl (Nat.mul_le_mul (by omega) (by omega))
   obtain ⟨rv,hrvn⟩:∃ rv,rv=wr.heap.size:=⟨_,rfl⟩
   obtain ⟨bw,hbwn⟩:∃ bw,bw=wr.heap.size+1:=⟨_,rfl⟩
   rw [<- hrvn] at hrv
   rw [<- hbwn] at hbv
   rw [<- hbwn,<- hrvn]
   have hrv5:=hm5.keep hrv (by omega)
   have hbv5:=hm5.keep hbv (by omega)
   have hm5':Mod No w4' w4':=Mod.refl _ _
   have hsx:∀ (j:Nat) (u:Value) (r:List UInt8),us[j]? = some u->rs[j]? = some r->Sl w5 (fun k=>k < w.heap.size) 5 u r.length (bv r):=fun j u r hu hr=>(k3 j u r hu hr).keep hm5 (fun q cur fz e _ hx=>by
    rcases e with e | e
    ·subst e;rw [hx1] at hx;cases hx
    ·subst e;rw [hx2] at hx;cases hx)
   have hk25:w5.ownsRow w.heap.size 41 1 (.slice sa rs.length sc) rs.length us:=own_keepM k2 hm5 (fun q hq e=>by
    obtain ⟨cur,hx⟩:=own_heapM k2 hq
    rcases e with e | e
    ·subst e;rw [hx1] at hx;cases hx
    ·subst e;rw [hx2] at hx;cases hx)
   have hrc5:=HREC.out.stay MN.out
   obtain ⟨vs,e1,e2,e3⟩:=hrc5.row
   have hpo:∀ k,(Value.slice oa L.all.length oc).ownBlock=some k->k ≠ p/\k ≠ lv/\k ≠ rv/\k ≠ bw/\k ≠ ub:=fun k hk=>by
    obtain ⟨cur,hc⟩:=own_heapM e2 hk
    obtain ⟨es,clock,hmp⟩:=(HUB.out.keep MN.out (fun f=>f)).heap
    refine ⟨fun h=>?_,fun h=>?_,fun h=>?_,fun h=>?_,fun h=>?_⟩
    ·subst h;rw [hp5] at hc;cases hc
    ·subst h;rw [hl5] at hc;cases hc
    ·subst h;rw [hrv5] at hc;cases hc
    ·subst h;rw [hbv5] at hc;cases hc
    ·subst h;rw [hmp] at hc;cases hc
   have HPO:=zh hpo
   have HE:=zh (And.intro e1 (And.intro e2 e3))
   have HU:=zh (And.intro k1 (And.intro hk25 hsx))
   have HSU:=zh (Sl.of_own (X:=No) hk25 (fun _ _ f=>f))
   have H1C:=zh (show ∀ y ∈ us,y.oneCell'=true from fun y hy=>by
    obtain ⟨j,hj,rfl⟩:=List.mem_iff_getElem.1 hy
    obtain ⟨a1,c1,h1⟩:=(hsx j us[j] (rs[j]'(by omega)) (List.getElem?_eq_getElem hj) (List.getElem?_eq_getElem (by omega))).len
    rw [h1];rfl)
   have HRV5:=zh hrv5
   have HBV5:=zh hbv5
   have HRD:=zh hrd
   have HMW:=zh (HMOD.out.trans MN.out)
   have r5:=cell_of (i:=0) hrv5 rfl
   have HK1:=zh k1
   have hb5:w.heap.size<=w5.heap.size:=HMW.out.size
   have hnx1:(L.next:Int)+1<=18446744073709551615:=by omega
   have hc1:(L.all.length:Int)+(rs.length:Int)<=9223372036854775807:=by omega
   have hc0:(0:Int)<=(L.all.length:Int)+(rs.length:Int):=by omega
   obtain ⟨i0,hi0,hzz0,hzz1,hzz2⟩:=info_parts info_bs
   have HAT:=zh (And.intro hat2 hat3)
   clear hx1 hx2 hm4 hm5 hm5' hz2' hz4 hrv hrecs hbv hrvn hbwn hrv5 hbv5 hsx hk25 hrc5 e1 e2 e3 hpo k1 k2 k3 hl5 hp5 hrd hrl
   go_wp2_with (at_builtin;refine app_sl _ rfl _ _ 69 rfl w.heap.size 41 i0 (.slice none 0 0) 1 24 underlying69 hi0 hzz0 hzz1 hzz2 rfl (by decide) _ _ _ rfl HE.out.2.1 No 41 _ _ _ rfl HSU.out ?_ H1C.out ?_ ?_ hb5 ?_)
   ·rw [HK1.out,Nat.mul_one]
   ·unfold maxLen;omega
   ·omega
   intro v' w6 hown6 hg6 _
   have hr6:=OwnRecs.app HE.out.1 HE.out.2.1 HE.out.2.2 (Nat.le_refl _) HU.out.1 HU.out.2.1 HU.out.2.2 hg6 hown6
   have hm6:=Mod.of_grown (S:=fun q=>(Value.slice oa L.all.length oc).ownBlock=some q) hg6 (fun q e _=>e)
   have hp6:=hm6.keep HP5.out (fun e=>(HPO.out _ e).1 rfl)
   have hl6:=hm6.keep HL5.out (fun e=>(HPO.out _ e).2.1 rfl)
   have hrv6:=hm6.keep HRV5.out (fun e=>(HPO.out _ e).2.2.1 rfl)
   have hbv6:=hm6.keep HBV5.out (fun e=>(HPO.out _ e).2.2.2.1 rfl)
   have hub6:=(HUB.out.keep MN.out (fun f=>f)).keep hm6 (fun e=>(HPO.out _ e).2.2.2.2 rfl)
   have hMW6:Mod No w w6:=HMW.out.then hm6 fun i hi e=>by have:=(HE.out.2.1.lt i e).1;omega
   obtain ⟨na,nc,rfl⟩:=own_len hown6
   have hp6':w6.heap[p]? = some (.cells #[.pointer (some ⟨b,0,none⟩),.int .u64 (L.turn:Int),.int .u64 (L.next:Int),.int .i64 (L.at_:Int),.int .i64 (L.all.length:Int),.map (some ub)] 132 (0,0)):=hp6
   have l6:=cell_of (i:=0) hl6 rfl
   have b6:=cell_of (i:=0) hbv6 rfl
   have p63:=cell_of (i:=3) hp6' rfl
   have f63:=frozen_of 3 hp6'
   have m7:Mod (fun q=>q=p) w6 (w6.setCell ⟨p,3,none⟩ (.int .i64 (beh:Int))):=(Mod.refl (fun q=>q=p) w6).setCell (fun _=>rfl) _
   have q7:=heap_setCell hp6' (i:=3) (.int .i64 (beh:Int))
   have hl7:=m7.keep hl6 HNE.out.2.2.2.1
   have l7:=cell_of (i:=0) hl7 rfl
   have p72:=cell_of (i:=2) q7 rfl
   have f72:=frozen_of 2 q7
   have m8:Mod (fun q=>q=p) (w6.setCell ⟨p,3,none⟩ (.int .i64 (beh:Int))) ((w6.setCell ⟨p,3,none⟩ (.int .i64 (beh:Int))).setCell ⟨p,2,none⟩ (.int .u64 ((L.next:Int)+1))):=(Mod.refl (fun q=>q=p) _).setCell (fun _=>rfl) _
   have q8:=heap_setCell q7 (i:=2) (.int .u64 ((L.next:Int)+1))
   have hl8:=m8.keep hl7 HNE.out.2.2.2.1
   have hrp:rv ≠ p:=fun e=>by subst e;rw [hrv6] at hp6';cases hp6'
   have hrv8:=m8.keep (m7.keep hrv6 hrp) hrp
   have hub8:=(hub6.keep m7 HNE.out.2.2.1).keep m8 HNE.out.2.2.1
   have M8:=zh (show Mod No w ((w6.setCell ⟨p,3,none⟩ (.int .i64 (beh:Int))).setCell ⟨p,2,none⟩ (.int .u64 ((L.next:Int)+1))) from
    (hMW6.setCell (fun h=>absurd h (by have:=HNE.out.2.1;show ¬ p < w.heap.size;omega)) _).setCell (fun h=>absurd h (by have:=HNE.out.2.1;show ¬ p < w.heap.size;omega)) _)
   have hr8:=hr6.keepO (m7.trans m8) (fun q hq e=>by
    subst hq
    rcases e with ⟨cur,e⟩ | ⟨cur,fz,e⟩
    ·rw [hp6'] at e;cases e
    ·rw [hp6'] at e;cases e)
   generalize hw8:(w6.setCell ⟨p,3,none⟩ (.int .i64 (beh:Int))).setCell ⟨p,2,none⟩ (.int .u64 ((L.next:Int)+1))=w8 at *
   have LV8:=zh (cell_of (i:=0) hl8 rfl)
   have CT8:=zh (cell_of (i:=4) q8 rfl)
   have RV8:=zh (cell_of (i:=0) hrv8 rfl)
   have p84:=cell_of (i:=4) q8 rfl
   have f84:=frozen_of 4 q8
   have HW8:=zh hw8
   have m9:Mod (fun q=>q=p) w8.drew (w8.drew.setCell ⟨p,4,none⟩ (.int .i64 ((L.all.length:Int)+(rs.length:Int)))):=(Mod.refl (fun q=>q=p) _).setCell (fun _=>rfl) _
   have q9:=heap_setCell (w:=w8.drew) q8 (i:=4) (.int .i64 ((L.all.length:Int)+(rs.length:Int)))
   have hg0:1<=g:=by omega
   have HWR:=zh (show IntKind.i64.wrap ((L.all.length:Int)+(rs.length:Int))=(L.all.length:Int)+(rs.length:Int) by rw [IntKind.wrap_i64];omega)
   have RFIN:=zh (show OpInv w (w8.drew.setCell ⟨p,4,none⟩ (.int .i64 ((L.all.length:Int)+(rs.length:Int)))) d b p ub lv T (g - 1) (.slice na (L.all.length+rs.length) nc) from
    ⟨⟨L.turn,L.next+1,beh,L.all++rs⟩,hLT,by show d.n / 2 - beh<=g - 1;have:=HAT.out;omega,.step HCH.out HRD.out,
     by
      show (w8.drew.setCell ⟨p,4,none⟩ (.int .i64 ((L.all.length:Int)+(rs.length:Int)))).heap[p]? = some (LgObj b ub L.turn (L.next+1) beh (L.all++rs).length)
      rw [q9,List.length_append];rfl,
     m9.keep hl8 HNE.out.2.2.2.1,(hub8.keep (S:=No) (Mod.refl No w8).drew (fun f=>f)).keep m9 HNE.out.2.2.1,(hr8.stay (Mod.refl No w8).drew).keepO m9 (fun q hq e=>by
      subst hq
      rcases e with ⟨cur,e⟩ | ⟨cur,fz,e⟩
      ·have e:w8.heap[q]? = _:=e
       rw [q8] at e;cases e
      ·have e:w8.heap[q]? = _:=e
       rw [q8] at e;cases e),
     M8.out.drew.setCell (fun h=>absurd h (by have:=HNE.out.2.1;show ¬ p < w.heap.size;omega)) _⟩)
   clear m9 q9 hw8 m7 q7 hl7 m8 q8 hl8 hrp hrv8 hub8 hr8 hl6 hp6 hp6' hrv6 hbv6 hub6 hMW6 hm6 hr6 hown6 hg6
   clear HU HE HPO HSU HREC HBIG
   go_upto_region 18 with fail
   rw [HW8.out]
   have hS0:w8.drew.cell? ⟨lv,0,none⟩=some (.pointer (some ⟨p,0,none⟩))/\w8.drew.cell? ⟨p,4,none⟩=some (.int .i64 (L.all.length:Int))/\w8.drew.cell? ⟨rv,0,none⟩=some (.slice sa rs.length sc):=⟨LV8.out,CT8.out,RV8.out⟩
   refine wp_region_T (fun w'=>w'.cell? ⟨lv,0,none⟩=some (.pointer (some ⟨p,0,none⟩))/\w'.cell? ⟨p,4,none⟩=some (.int .i64 (L.all.length:Int))/\w'.cell? ⟨rv,0,none⟩=some (.slice sa rs.length sc)) 9 (by kernel_rfl) ?_
   refine wpAnyT_take 0 (some 61) ?_ rfl rfl (by kernel_rfl) (fun _ _ _ h=>h) hS0 (Or.inl ⟨by rfl,?_⟩) ?_
   rotate_left
   ·(intro w' hSw;go_simp;try with_reducible rfl)
   simp only [Act.put,yB,yC,yD]
   refine wpAnyT_take 1 (some 62) ?_ rfl rfl (by kernel_rfl) (fun _ _ _ h=>h) hS0 (Or.inl ⟨by rfl,?_⟩) ?_
   rotate_left
   ·(intro w' hSw;go_simp;try with_reducible rfl)
   simp only [Act.put,yB,yC,yD]
   refine wpAnyT_take 2 (some 63) ?_ rfl rfl (by kernel_rfl) (fun _ _ _ h=>h) hS0 (Or.inl ⟨by rfl,?_⟩) ?_
   rotate_left
   ·(intro w' hSw;go_simp;try with_reducible rfl)
   simp only [Act.put,yB,yC,yD]
   refine wpAnyT_take 3 (some 64) ?_ rfl rfl (by kernel_rfl) (fun _ _ _ h=>h) hS0 (Or.inl ⟨by rfl,?_⟩) ?_
   rotate_left
   ·(intro w' hSw;go_simp;try with_reducible rfl)
   simp only [Act.put,yB,yC,yD]
   refine wpAnyT_take 4 (some 65) ?_ rfl rfl (by kernel_rfl) (fun _ _ _ h=>h) hS0 (Or.inl ⟨by rfl,?_⟩) ?_
   rotate_left
   ·(intro w' hSw;go_simp;try with_reducible rfl)
   simp only [Act.put,yB,yC,yD]
   refine wpAnyT_take 5 (some 66) ?_ rfl rfl (by kernel_rfl) (fun _ _ _ h=>h) hS0 (Or.inl ⟨by rfl,?_⟩) ?_
   rotate_left
   ·(intro w' hSw;go_simp;try with_reducible rfl)
   simp only [Act.put,yB,yC,yD]
   refine wpAnyT_take 6 (some 67) ?_ rfl rfl (by kernel_rfl) (fun _ _ _ h=>h) hS0 (Or.inl ⟨by rfl,?_⟩) ?_
   rotate_left
   ·(intro w' hSw;go_simp;try with_reducible rfl)
   simp only [Act.put,yB,yC,yD]
   refine wpAnyT_one 7 rfl (by kernel_rfl) rfl ?_
   intro K hK
   go_simp
   show K _ _
   refine hK.out _ _ (fun _=>hS0) ?_
   clear hK K
   refine wpAnyT_take 8 (some 69) ?_ rfl rfl (by kernel_rfl) (fun _ _ _ h=>h) hS0 (Or.inl ⟨by rfl,?_⟩) ?_
   rotate_left
   ·(intro w' hSw;go_simp;try with_reducible rfl)
   simp only [Act.put,yB,yC,yD]
   refine wpAnyT_one 9 rfl (by kernel_rfl) rfl ?_
   intro K hK
   go_simp
   show K _ _
   refine hK.out _ _ (fun h=>absurd rfl h) ?_
   clear hK K
   refine wpAnyT_done (by kernel_rfl) ?_ _
   rw [HWR.out]
   go_wp2_with fail
   go_roundg g
   case measure=>omega
   case rel=>exact ⟨g - 1,by omega,RFIN.out⟩
  ·have HST:=zh hstop
   clear hx1 hx2 hstop hm4 hm5 hz2' hz4 hplt hllt hl5 hp5
   go_wp2_with fail
   go_ret3
   refine fin hR ⟨p,ub,_,L,rfl,⟨HP5.out,HUB.out.keep MN.out (fun f=>f)⟩,HREC.out.stay MN.out,hLT,HCH.out,HST.out,HMOD.out.trans MN.out,HNE.out.2.1,HNE.out.1⟩
structure Recs (w:World) (X:Nat->Prop) (v:Value) (rs:List (List UInt8)):Prop where
 row:∃ vs:List Value,vs.length=rs.length/\Sl w X 41 v rs.length vs/\∀ (j:Nat) (u:Value) (r:List UInt8),vs[j]? = some u->rs[j]? = some r->Sl w X 5 u r.length (bv r)
theorem Recs.stay {w w':World} {X:Nat->Prop} {v:Value} {rs:List (List UInt8)} (h:Recs w X v rs) (hm:Mod No w w'):Recs w' X v rs:=by
 obtain ⟨vs,h1,h2,h3⟩:=h.row
 exact ⟨vs,h1,h2.kn hm,fun j u r hu hr=>(h3 j u r hu hr).kn hm⟩
theorem OwnRecs.recs {w:World} {X:Nat->Prop} {base:Nat} {v:Value} {rs:List (List UInt8)} (h:OwnRecs w base v rs) (hx:∀ k,base<=k->¬ X k):Recs w X v rs:=by
 obtain ⟨vs,h1,h2,h3⟩:=h.row
 exact ⟨vs,h1,Sl.of_own h2 hx,fun j u r hu hr=>(h3 j u r hu hr).shrink fun k _ e=>Nat.lt_of_not_le fun hle=>hx k hle e⟩
theorem Recs.at_ {w:World} {X:Nat->Prop} {v:Value} {rs:List (List UInt8)} (h:Recs w X v rs) {k:Nat} (hk:k < rs.length):∃ b o c u,v=.slice (some ⟨b,o,none⟩) rs.length c/\w.cell? ⟨b,o+k,none⟩=some u/\Sl w X 5 u rs[k].length (bv rs[k]):=by
 obtain ⟨vs,h1,h2,h3⟩:=h.row
 obtain ⟨b,o,c,rfl,_⟩:=h2.shape (by omega)
 have hu:vs[k]? = some (vs[k]'(by omega)):=List.getElem?_eq_getElem (by omega)
 have hc:=h2.cell (i:=k) (by omega)
 dsimp only at hc
 exact ⟨b,o,c,_,rfl,hc.trans hu,h3 k _ _ hu (List.getElem?_eq_getElem hk)⟩
theorem Recs.len {w:World} {X:Nat->Prop} {v:Value} {rs:List (List UInt8)} (h:Recs w X v rs):∃ a c,v=.slice a rs.length c:=by
 obtain ⟨vs,_,h2,_⟩:=h.row
 exact h2.len
def isLong (r:List UInt8):Bool:=decide ((1048576:Int) < (r.length:Int))
set_option maxRecDepth 100000 in
set_option maxHeartbeats 1000000 in
theorem index_any {X:Nat->Prop} {v:Value} {rs:List (List UInt8)} {w:World} (h:Recs w X v rs) (hl:rs.length<=1000000000) :
  Calls prog 197 #[v,.func (.func 144) #[] #[]] w fun e w'=>(∃ i:Int,e=.returned (.int .i64 i)/\decide (0<=i)=rs.any isLong)/\w'=w:=by
 refine calls_hide fun R hR=>?_
 obtain ⟨a,c,rfl⟩:=h.len
 have H:=zh h
 clear h
 go_enter func197,ntmps197
 go_wp2_with fail
 go_loopw [8] (fun i wr=>wr=w/\∃ k:Nat,k<=rs.length/\i=.int .i64 k/\(rs.take k).any isLong=false) (fun i _=>rs.length - (intOf i).toNat)
 case atStart=>exact ⟨rfl,0,by omega,rfl,rfl⟩
 case round =>
  obtain ⟨rfl,k,hk,rfl,hno⟩:=hrel
  have HNO:=zh hno
  clear hno
  have hk0:(0:Int)<=(k:Int):=Int.natCast_nonneg _
  by_cases hlt:k < rs.length
  ·have hk1:(k:Int) < (rs.length:Int):=by omega
   obtain ⟨b,o,c',u,hv,hu,hsl⟩:=H.out.at_ hlt
   cases hv
   obtain ⟨ua,uc,rfl⟩:=hsl.len
   have HLO:=zh (long_any (a:=ua) (n:=rs[k].length) (c:=uc) (w:=wr))
   have HT:=zh (show (rs.take (k+1)).any isLong=isLong rs[k] by rw [List.take_succ_eq_append_getElem hlt,List.any_append,HNO.out];simp)
   have HMEM:=zh (show isLong rs[k]=true->rs.any isLong=true from fun e=>List.any_eq_true.2 ⟨rs[k],List.getElem_mem hlt,e⟩)
   have HIS:=zh (show isLong rs[k]=decide ((1048576:Int) < (rs[k].length:Int)) from rfl)
   clear hsl
   generalize rs[k].length=n at *
   generalize isLong rs[k]=il at *
   go_wp2_with fail
   refine HLO.out.mono ?_
   rintro e w2 ⟨rfl,h2⟩
   subst h2
   rw [<- HIS.out]
   cases il with
   | true =>
    go_wp2_with fail
    exact fin hR ⟨⟨_,rfl,by rw [HMEM.out (by trivial)];exact decide_eq_true hk0⟩,rfl⟩
   | false =>
    go_wp2_with fail
    exact ⟨⟨trivial,k+1,by omega,by go_num,HT.out⟩,by go_light;simp only [intOf];omega⟩
  ·have hkn:k=rs.length:=by omega
   subst hkn
   go_wp2_with fail
   have hno:=HNO.out
   rw [List.take_length] at hno
   exact fin hR ⟨⟨_,rfl,by rw [hno];rfl⟩,rfl⟩
theorem contains_any {X:Nat->Prop} {v:Value} {rs:List (List UInt8)} {w:World} (h:Recs w X v rs) (hl:rs.length<=1000000000) :
  Calls prog 143 #[v,.func (.func 144) #[] #[]] w fun e w'=>e=.returned (.bool (rs.any isLong))/\w'=w:=by
 refine calls_hide fun R hR=>?_
 have HI:=zh (index_any h hl)
 obtain ⟨a,c,rfl⟩:=h.len
 clear h
 go_enter func143,ntmps143
 go_wp2_with fail
 refine HI.out.mono ?_
 rintro e w2 ⟨⟨i,rfl,hi⟩,h2⟩
 subst h2
 have HX:=zh hi
 clear hi
 go_wp2_with fail
 exact fin hR ⟨by rw [<- HX.out];rfl,rfl⟩
theorem bodyB_take (rs:List (List UInt8)) (k:Nat) (hk:k < rs.length):(bodyB (rs.take (k+1))).length=(bodyB (rs.take k)).length+4+rs[k].length:=by
 have e:bodyB (rs.take (k+1))=bodyB (rs.take k)++(be 4 rs[k].length++rs[k]):=by
  rw [List.take_succ_eq_append_getElem hk]
  unfold bodyB
  rw [List.flatMap_append]
  simp [recB]
 rw [e,List.length_append,List.length_append,be_len]
 omega
set_option maxRecDepth 100000 in
set_option maxHeartbeats 1000000 in
theorem bytes_any {X Y:Nat->Prop} {b sb mb p:Nat} {d:Dk} {v:Value} {rs:List (List UInt8)} {w:World} (h:Recs w X v rs) (hl:∀ r ∈ rs,r.length<=140737488355328) (hl2:rs.length<=1000000000) (hd:DkAt w Y b sb mb d) (c0:w.cell? ⟨p,0,none⟩=some (.pointer (some ⟨b,0,none⟩))) :
  Calls prog 145 #[.pointer (some ⟨p,0,none⟩),v] w fun e w'=>e=.returned (.int .i64 ((min (32+(bodyB rs).length) (d.n*d.sz+1):Nat):Int))/\Mod No w w':=by
 refine calls_hide fun R hR=>?_
 obtain ⟨a,c,rfl⟩:=h.len
 have HS:=zh (show ∀ nq,Calls prog 59 #[.pointer (some ⟨b,0,none⟩)] (w.drewN nq) fun e w'=>e=.returned (.int .i64 (d.n:Int))/\w'=w.drewN nq from fun nq =>
  (sectors_ok (hd.stay ((Mod.refl No w).drewN nq))).mono fun e w' ⟨h1,h2⟩=>⟨h1,h2.symm⟩)
 have HZ:=zh (show ∀ nq,Calls prog 60 #[.pointer (some ⟨b,0,none⟩)] (w.drewN nq) fun e w'=>e=.returned (.int .i64 (d.sz:Int))/\w'=w.drewN nq from fun nq =>
  (size_ok (hd.stay ((Mod.refl No w).drewN nq))).mono fun e w' ⟨h1,h2⟩=>⟨h1,h2.symm⟩)
 have hn2:d.n<=4096:=hd.n2
 have hz2:d.sz<=4096:=hd.s2
 have hn1:1<=d.n:=hd.n1
 have hz1:64<=d.sz:=hd.s1
 have hA:d.n*d.sz<=4096*4096:=Nat.mul_le_mul hn2 hz2
 have hA1:64<=d.n*d.sz:=Nat.le_trans hz1 (Nat.le_mul_of_pos_left d.sz hn1)
 obtain ⟨A,hAA⟩:∃ A,A=d.n*d.sz:=⟨_,rfl⟩
 have hc:(d.n:Int)*(d.sz:Int)=(A:Int):=by rw [hAA,Int.natCast_mul]
 rw [<- hAA] at hA hA1 hR
 have b1:(-9223372036854775808:Int)<=(d.n:Int)*(d.sz:Int):=by rw [hc];omega
 have b2:(d.n:Int)*(d.sz:Int)<=9223372036854775807:=by rw [hc];omega
 have HC:=zh hc
 have H:=zh h
 have HL:=zh hl
 clear h hl hd hn2 hz2 hn1 hz1 hAA hc
 go_enter func145,ntmps145
 go_upto_region 1 with fail
 go_quiet (first | (go_at_call 59;with_reducible refine Calls.quiet_of_same (HS.out _)) | (go_at_call 60;with_reducible refine Calls.quiet_of_same (HZ.out _)))
 generalize hw2:World.drewN w _=w2
 have M2:=zh (show Mod No w w2 by rw [<- hw2];exact (Mod.refl No w).drewN _)
 have H2:=zh (H.out.stay M2.out)
 clear hw2 H HS HZ c0
 rw [HC.out]
 go_wp2_with fail
 go_loopw [6,26] (fun x i wr=>wr=w2/\∃ k:Nat,k<=rs.length/\i=.int .i64 k/\x=.int .i64 ((min (32+(bodyB (rs.take k)).length) (A+1):Nat):Int)) (fun _ i _=>rs.length - (intOf i).toNat)
 case atStart=>exact ⟨rfl,0,by omega,rfl,by
  have:min (32+(bodyB (rs.take 0)).length) (A+1)=32:=by
   have:(bodyB (rs.take 0)).length=0:=by simp [bodyB]
   omega
  rw [this];rfl⟩
 case round =>
  obtain ⟨rfl,k,hk,rfl,rfl⟩:=hrel
  have hk0:(0:Int)<=(k:Int):=Int.natCast_nonneg _
  by_cases hlt:k < rs.length
  ·have hk1:(k:Int) < (rs.length:Int):=by omega
   obtain ⟨g,o,c',u,hv,hu,hsl⟩:=H2.out.at_ hlt
   cases hv
   obtain ⟨ua,uc,rfl⟩:=hsl.len
   have hrl:=HL.out rs[k] (List.getElem_mem hlt)
   have hbt:=bodyB_take rs k hlt
   clear hsl
   obtain ⟨B,hB⟩:∃ B,B=(bodyB (rs.take k)).length:=⟨_,rfl⟩
   rw [<- hB] at hbt
   have HBT:=zh hbt
   have HB:=zh hB
   rw [<- hB]
   generalize hQ:min (32+B) (A+1)=Q
   have HQ:=zh hQ
   have hQ2:Q<=16777217:=by omega
   clear hbt hB hQ
   generalize hn:rs[k].length=n at *
   clear hn
   go_wp2_with fail
   exact ⟨⟨trivial,k+1,by omega,by go_num,by
    have h1:=HBT.out
    have h2:=HQ.out
    rw [h1]
    have:min (32+(B+4+n)) (A+1)=min (Q+4+n) (A+1):=by omega
    rw [this];go_num⟩,by go_light;simp only [intOf];omega⟩
  ·have hkn:k=rs.length:=by omega
   subst hkn
   go_wp2_with fail
   exact fin hR ⟨by rw [List.take_length];rfl,M2.out⟩
end Go.Proofs.YtmppeipgjcjdkaaGreatDoor
