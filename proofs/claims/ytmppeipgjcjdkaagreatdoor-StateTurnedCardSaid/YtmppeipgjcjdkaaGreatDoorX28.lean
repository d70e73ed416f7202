/-
  Layers 0 to 14: helps of the laws of indexes. No statement is proved here; no condition.
-/
import Derived.Test.YtmppeipgjcjdkaaGreatDoorX27
import Derived.Test.YtmppeipgjcjdkaaGreatDoorX00
import Derived.Deep.LoopGhost
import Derived.Lib.BufferWrite
import Derived.Laws.CopyRow
namespace Go.Proofs.YtmppeipgjcjdkaaGreatDoor
open _root_.Go.Proofs.Tryz
open Go.RowKit
theorem parse_len:∀ (f:Nat) (l:List UInt8) (rs:List (List UInt8)),parse f l=some rs->4*rs.length<=l.length
 | f,[],rs,h=>by
  have:parse f []=some []:=by cases f <;> rfl
  rw [this] at h;cases h;simp
 | 0,x :: l,rs,h=>by cases h
 | f+1,x :: l,rs,h=>by
  unfold parse at h
  split at h
  ·cases h
  ·split at h
   ·obtain ⟨p,hp,rfl⟩:=Option.map_eq_some_iff.1 h
    have:=parse_len f _ p hp
    rw [List.length_drop] at this
    simp only [List.length_cons] at *
    omega
   ·cases h
theorem rd_len {S:Nat->List UInt8} {h size side at_ next t beh:Nat} {rs:List (List UInt8)} (hs:0 < size) (e:rd S h size side at_ next=some (t,rs,beh)):rs.length<=(beh - at_)*size:=by
 unfold rd at e
 split at e
 ·split at e
  ·obtain ⟨p,hp,hq⟩:=Option.map_eq_some_iff.1 e
   simp only [Prod.mk.injEq] at hq
   obtain ⟨_,q2,q3⟩:=hq
   have h1:=parse_len _ _ _ hp
   have h2:=secs_up (size:=size) (n:=32+getN ((((S (side*h+at_)).take size).drop 24).take 8)) hs
   rw [List.length_take] at h1
   rw [<- q3,<- q2,Nat.add_sub_cancel_left]
   omega
  ·cases e
 ·cases e
theorem Chain.bounds {S:Nat->List UInt8} {h size side turn at_ next:Nat} {all:List (List UInt8)} (hs:0 < size) (c:Chain S h size side turn at_ next all):next<=at_/\all.length<=at_*size:=by
 induction c with
 | zero=>simp
 | @step a n b al r _ e ih =>
  obtain ⟨_,h1,_⟩:=rd_some hs e
  have h2:=rd_len hs e
  refine ⟨by omega,?_⟩
  rw [List.length_append]
  have h3:b*size=a*size+(b - a)*size:=by rw [<- Nat.add_mul,Nat.add_sub_cancel' (by omega)]
  omega
theorem OwnRecs.lower {w:World} {base base':Nat} {v:Value} {rs:List (List UInt8)} (h:OwnRecs w base v rs) (hb:base'<=base):OwnRecs w base' v rs:=by
 obtain ⟨vs,h1,⟨hl,h2⟩,h3⟩:=h.row
 refine ⟨vs,h1,⟨hl,?_⟩,fun j u r hu hr=>(h3 j u r hu hr).shrink fun k _ e=>by omega⟩
 rcases h2 with h2 | ⟨g,cap,cur,hv,hg,rest⟩
 ·exact .inl h2
 ·exact .inr ⟨g,cap,cur,hv,by omega,rest⟩
theorem OwnRecs.keepO {S:Nat->Prop} {w w':World} {base:Nat} {v:Value} {rs:List (List UInt8)} (h:OwnRecs w base v rs) (hm:Mod S w w')
  (hs:∀ q,S q->¬ ((∃ cur,w.heap[q]? = some (.cells cur 41 (0,0)))\/∃ cur fz,w.heap[q]? = some (.cells cur 5 fz))):OwnRecs w' base v rs:=by
 obtain ⟨vs,h1,h2,h3⟩:=h.row
 exact ⟨vs,h1,own_keepM h2 hm (fun k hk hS=>hs k hS (.inl (own_heapM h2 hk))),fun j u r hu hr=>(h3 j u r hu hr).keep hm (fun k cur fz hS _ e=>hs k hS (.inr ⟨cur,fz,e⟩))⟩
theorem OwnRecs.app {w w':World} {base base2:Nat} {v v' x:Value} {rs ss:List (List UInt8)} {vs us:List Value} (h1:vs.length=rs.length) (h2:w.ownsRow base 41 1 v rs.length vs)
  (h3:∀ (j:Nat) (u:Value) (r:List UInt8),vs[j]? = some u->rs[j]? = some r->Sl w (fun k=>k < base) 5 u r.length (bv r)) (hb:base<=base2) (k1:us.length=ss.length) (_:w.ownsRow base2 41 1 x ss.length us)
  (k3:∀ (j:Nat) (u:Value) (r:List UInt8),us[j]? = some u->ss[j]? = some r->Sl w (fun k=>k < base2) 5 u r.length (bv r))
  (hg:w.grownBy w' v.ownBlock) (hown:w'.ownsRow base 41 1 v' (rs.length+ss.length) (vs++us)):OwnRecs w' base v' (rs++ss):=by
 have hm:=Mod.of_grown (S:=fun q=>v.ownBlock=some q) hg (fun q e _=>e)
 have hk:∀ {n:Nat} {xs:List Value} {x:Value},Sl w (fun k=>k < base) 5 x n xs->Sl w' (fun k=>k < base) 5 x n xs:=fun hs=>hs.keep hm fun k cur fz hk _ e=>by
  obtain ⟨cur',hc⟩:=own_heapM h2 hk
  rw [hc] at e
  cases e
 refine ⟨vs++us,by simp [h1,k1],by simpa using hown,fun j y z hy hz=>?_⟩
 rcases Nat.lt_or_ge j vs.length with g | g
 ·rw [List.getElem?_append_left g] at hy
  rw [List.getElem?_append_left (by omega)] at hz
  exact hk (h3 j y z hy hz)
 ·rw [List.getElem?_append_right g] at hy
  rw [List.getElem?_append_right (by omega),<- h1] at hz
  exact hk ((k3 _ y z hy hz).shrink fun k _ e=>by omega)
structure LogAt (w:World) (p b ub:Nat) (L:Lg):Prop where
 obj:w.heap[p]? = some (LgObj b ub L.turn L.next L.at_ L.all.length)
 undone:Mp w 3 ub (.map [])
def OpInv (w wr:World) (d:Dk) (b p ub lv T g:Nat) (out:Value):Prop :=
 ∃ L:Lg,L.turn=T/\d.n / 2 - L.at_<=g/\Chain d.last (d.n / 2) (d.sz - 16) (L.turn % 2) L.turn L.at_ L.next L.all/\wr.heap[p]? = some (LgObj b ub L.turn L.next L.at_ L.all.length) ∧
  wr.heap[lv]? = some (.cells #[.pointer (some ⟨p,0,none⟩)] 68 (0,0))/\Mp wr 3 ub (.map [])/\OwnRecs wr w.heap.size out L.all/\Mod No w wr
set_option maxRecDepth 100000 in
set_option maxHeartbeats 4000000 in
theorem wopen_any {b sb mb:Nat} {d:Dk} {w:World} (hn:16<=d.n) (hz:128<=d.sz) (hw:Well d) (h:DkAt w No b sb mb d) :
  Calls prog 22 #[.pointer (some ⟨b,0,none⟩)] w fun e w'=>∃ (p ub:Nat) (v:Value) (L:Lg),e=.returned (.tuple #[.pointer (some ⟨p,0,none⟩),v,.int .i64 0])/\LogAt w' p b ub L/\OwnRecs w' w.heap.size v L.all ∧
   L.turn=turnOf d.last (d.n / 2) (d.sz - 16)/\Chain d.last (d.n / 2) (d.sz - 16) (L.turn % 2) L.turn L.at_ L.next L.all/\Stop d.last (d.n / 2) (d.sz - 16) (L.turn % 2) L.turn L.at_ L.next/\Mod No w w'/\w.heap.size<=p/\w.heap.size<=ub:=by
 have hmm:=@run_makeMap prog
 refine calls_hide fun R hR=>?_
 have H1:=zh (sectors_ok h)
 have H2:=zh (size_ok h)
 have hmf:∀ (fn:Fn) (first cap:Array Value) (w:World),(Instr.makeFunc fn first cap).run prog w=.ok (.func fn first cap) w:=fun _ _ _ _=>rfl
 have hn1:(16:Int)<=(d.n:Int):=by omega
 have hz1:(128:Int)<=(d.sz:Int):=by omega
 have HD:=zh h
 have HW:=zh hw
 clear h hw
 go_enter func22,ntmps22
 go_wp2_with fail
 refine H1.out.mono ?_
 rintro e w' ⟨rfl,h2⟩
 subst h2
 go_wp2_with fail
 refine H2.out.mono ?_
 rintro e w' ⟨rfl,h2⟩
 subst h2
 go_wp2_with fail
 obtain ⟨w3,hw3⟩:∃ w3,w3=((w.alloc (.map #[] 0)).alloc (.cells #[.pointer (some ⟨b,0,none⟩),.int .u64 0,.int .u64 0,.int .i64 0,.int .i64 0,.map (some w.heap.size)] 132)).alloc (.cells #[.pointer (some ⟨w.heap.size+1,0,none⟩)] 68):=⟨_,rfl⟩
 rw [<- hw3]
 have m3:Mod No w w3:=by rw [hw3];exact (((Mod.refl No w).alloc _).alloc _).alloc _
 have hub:Mp w3 3 w.heap.size (.map []):=by
  rw [hw3];exact (Mp.made w 3).keep (S:=No) (((Mod.refl No _).alloc _).alloc _) (fun f=>f)
 have hp:w3.heap[w.heap.size+1]? = some (LgObj b w.heap.size 0 0 0 0):=by
  rw [hw3];exact heap_alloc_old _ (heap_at_new _ _ (by simp))
 have hl:w3.heap[w.heap.size+2]? = some (.cells #[.pointer (some ⟨w.heap.size+1,0,none⟩)] 68 (0,0)):=by
  rw [hw3];exact heap_at_new _ _ (by simp)
 have hbig:∀ k,Own3 b sb mb k->k < w.heap.size:=fun k e=>HD.out.lt e
 obtain ⟨ub,hubn⟩:∃ ub,ub=w.heap.size:=⟨_,rfl⟩
 obtain ⟨p,hpn⟩:∃ p,p=w.heap.size+1:=⟨_,rfl⟩
 obtain ⟨lv,hlvn⟩:∃ lv,lv=w.heap.size+2:=⟨_,rfl⟩
 rw [<- hubn] at hub
 rw [<- hpn,<- hubn] at hp
 rw [<- hlvn,<- hpn] at hl
 rw [<- hlvn,<- hpn]
 have hwub:w.heap.size<=ub:=by omega
 have hwp:w.heap.size<=p:=by omega
 have hup:ub ≠ p:=by omega
 have hlp:lv ≠ p:=by omega
 have hlu:w.heap.size<=lv:=by omega
 have HBG:=zh (begin_any (p:=p) (ub:=ub) hz HW.out (HD.out.stay m3) (fun e=>by have:=hbig p e;omega) hp)
 have HUB:=zh hub
 have HLL:=zh hl
 have M3:=zh m3
 have HNE:=zh (show w.heap.size<=ub/\w.heap.size<=p/\ub ≠ p/\lv ≠ p/\w.heap.size<=lv/\lv < w3.heap.size/\p < w3.heap.size/\ub < w3.heap.size from ⟨hwub,hwp,hup,hlp,hlu,lt_of_heap hl,lt_of_heap hp,by have:=lt_of_heap hp;omega⟩)
 have HBIG:=zh hbig
 clear hw3 m3 hub hp hl hbig hubn hpn hlvn hwub hwp hup hlp hlu H1 H2
 refine HBG.out.mono ?_
 clear HBG
 rintro e w4 ⟨rfl,hp4,hm4⟩
 have R0:=zh (show OpInv w w4 d b p ub lv (turnOf d.last (d.n / 2) (d.sz - 16)) (d.n / 2) (.slice none 0 0) from
  ⟨⟨turnOf d.last (d.n / 2) (d.sz - 16),0,0,[]⟩,rfl,by show d.n / 2 - 0<=d.n / 2;omega,.zero,hp4,hm4.keep HLL.out HNE.out.2.2.2.1,HUB.out.keep hm4 HNE.out.2.2.1,OwnRecs.nil _ _,M3.out.then hm4 fun i hi e=>by have:=HNE.out.2.1;omega⟩)
 generalize turnOf d.last (d.n / 2) (d.sz - 16)=T at *
 clear hp4 hm4 HLL HUB M3
 go_wp2_with fail
 go_loopg [7] (d.n / 2+1) (fun g out wr=>∃ g',g=g'+1/\OpInv w wr d b p ub lv T g' out)
 case atStart=>exact ⟨d.n / 2,rfl,R0.out⟩
 case round =>
  clear R0
  obtain ⟨g,rfl,hinv⟩:=hrel
  obtain ⟨L,hLT,hLg,hch,hp,hl,hub,hrec,hmod⟩:=hinv
  obtain ⟨vs0,-,e20,-⟩:=hrec.row
  obtain ⟨oa,oc,rfl⟩:=own_len e20
  have hbd:=hch.bounds (by omega)
  have hle:=hch.le (by omega)
  have hn2:d.n<=4096:=HD.out.n2
  have hz2:d.sz<=4096:=HD.out.s2
  have hall:L.all.length<=2048*4080:=Nat.le_trans hbd.2 (Nat.mul_le_mul (by omega) (by omega))
  have hplt:=lt_of_heap hp
  have hllt:=lt_of_heap hl
  obtain ⟨w2,hw2⟩:∃ w2,w2=(wr.alloc (.cells #[.slice none 0 0] 69)).alloc (.cells #[.int .i64 0] 3):=⟨_,rfl⟩
  have m2:Mod No wr w2:=by rw [hw2];exact ((Mod.refl No wr).alloc _).alloc _
  have hr2:w2.heap[wr.heap.size]? = some (.cells #[.slice none 0 0] 69 (0,0)):=by rw [hw2];exact heap_alloc_old _ (heap_alloc_new wr _)
  have hb2:w2.heap[wr.heap.size+1]? = some (.cells #[.int .i64 0] 3 (0,0)):=by rw [hw2];exact heap_at_new _ _ (by simp)
  have hz22:w2.heap.size=wr.heap.size+2:=by rw [hw2];simp
  have hwr:=hmod.size
  have HTRY:=try_open (.pointer (some ⟨lv,0,none⟩)) (.pointer (some ⟨wr.heap.size,0,none⟩)) (.pointer (some ⟨wr.heap.size+1,0,none⟩)) w2 (fun q=>q=wr.heap.size\/q=wr.heap.size+1)
   (fun w'=>∃ (rs:List (List UInt8)) (beh:Nat) (v:Value),rd d.last (d.n / 2) (d.sz - 16) (L.turn % 2) L.at_ L.next=some (L.turn,rs,beh)/\w'.heap[wr.heap.size]? = some (.cells #[v] 69 (0,0))/\OwnRecs w' w.heap.size v rs/\w'.heap[wr.heap.size+1]? = some (.cells #[.int .i64 (beh:Int)] 3 (0,0)))
   (fun _=>Stop d.last (d.n / 2) (d.sz - 16) (L.turn % 2) L.turn L.at_ L.next) (fun q e=>by omega)
   (fun w3' hm3'=>(open1_any lv wr.heap.size (wr.heap.size+1) L.all.length L _ _ (by omega) hz HW.out ((HD.out.stay (hmod.trans m2)).stay hm3') ((m2.trans hm3').keep hp (fun f=>f)) ((m2.trans hm3').keep hl (fun f=>f)) (hm3'.keep hr2 (fun f=>f)) (hm3'.keep hb2 (fun f=>f))).mono (by
    rintro e w' ⟨hm,⟨rfl,rs,beh,v,h1,h2,h3,h4⟩ | ⟨rfl,h1⟩⟩
    ·have:=hm3'.size
     exact ⟨hm,.inl ⟨rfl,rs,beh,v,h1,h2,h3.lower (by omega),h4⟩⟩
    ·exact ⟨hm,.inr ⟨rfl,h1⟩⟩))
  have HTRY:=zh HTRY
  have HW2:=zh hw2
  have HPP:=zh hp
  have HLL:=zh hl
  have HUB:=zh hub
  have HREC:=zh hrec
  have HMOD:=zh hmod
  have M2:=zh m2
  have HZ2:=zh hz22
  have HCH:=zh hch
  have HBD:=zh (And.intro hplt hllt)
  clear e20 vs0 hw2 m2 hr2 hb2 hz22 hp hl hub hrec hmod hch hplt hllt
  go_wp2_with fail
  rw [<- HW2.out]
  refine HTRY.out.mono ?_
  clear HTRY
  rintro e w5 ⟨w4',hm4,⟨hx1,hx2⟩,hm5,hcase⟩
  have hz2':=HZ2.out
  have hz4:=hm4.size
  have hplt:=HBD.out.1
  have hllt:=HBD.out.2
  have MN:=zh (show Mod No wr w5 from (M2.out.then hm4 fun i hi e=>by omega).then hm5 fun i hi e=>by omega)
  have hl5:=MN.out.keep HLL.out (fun f=>f)
  have hp5:=MN.out.keep HPP.out (fun f=>f)
  have l5:=cell_of (i:=0) hl5 rfl
  have HP5:=zh hp5
  have HL5:=zh hl5
  rcases hcase with ⟨rfl,rs,beh,v,hrd,hrv,hrecs,hbv⟩ | ⟨rfl,hstop⟩
  ·obtain ⟨us,k1,k2,k3⟩:=hrecs.row
   obtain ⟨sa,sc,rfl⟩:=own_len k2
   have hrl:=rd_len (by omega) hrd
   obtain ⟨hat1,hat2,hat3,_⟩:=rd_some (by omega) hrd
   have hrl2:rs.length<=2048*4080:=Nat.le_trans hrl (Nat.mul_le_mul (by omega) (by omega))
   obtain ⟨rv,hrvn⟩:∃ rv,rv=wr.heap.size:=⟨_,rfl⟩
   obtain ⟨bw,hbwn⟩:∃ bw,bw=wr.heap.size+1:=⟨_,rfl⟩
   rw [<- hrvn] at hrv
   rw [<- hbwn] at hbv
   rw [<- hbwn,<- hrvn]
   have hrv5:=hm5.keep hrv (by omega)
   have hbv5:=hm5.keep hbv (by omega)
   have hm5':Mod No w4' w4':=Mod.refl _ _
   have hsx:∀ (j:Nat) (u:Value) (r:List UInt8),us[j]? = some u->rs[j]? = some r->Sl w5 (fun k=>k < w.heap.size) 5 u r.length (bv r):=fun j u r hu hr=>(k3 j u r hu hr).keep hm5 (fun q cur fz e _ hx=>by
    rcases e with e | e
    ·subst e;rw [hx1] at hx;cases hx
    ·subst e;rw [hx2] at hx;cases hx)
   have hk25:w5.ownsRow w.heap.size 41 1 (.slice sa rs.length sc) rs.length us:=own_keepM k2 hm5 (fun q hq e=>by
    obtain ⟨cur,hx⟩:=own_heapM k2 hq
    rcases e with e | e
    ·subst e;rw [hx1] at hx;cases hx
    ·subst e;rw [hx2] at hx;cases hx)
   have hrc5:=HREC.out.stay MN.out
   obtain ⟨vs,e1,e2,e3⟩:=hrc5.row
   have hpo:∀ k,(Value.slice oa L.all.length oc).ownBlock=some k->k ≠ p/\k ≠ lv/\k ≠ rv/\k ≠ bw/\k ≠ ub:=fun k hk=>by
    obtain ⟨cur,hc⟩:=own_heapM e2 hk
    obtain ⟨es,clock,hmp⟩:=(HUB.out.keep MN.out (fun f=>f)).heap
    refine ⟨fun h=>?_,fun h=>?_,fun h=>?_,fun h=>?_,fun h=>?_⟩
    ·subst h;rw [hp5] at hc;cases hc
    ·subst h;rw [hl5] at hc;cases hc
    ·subst h;rw [hrv5] at hc;cases hc
    ·subst h;rw [hbv5] at hc;cases hc
    ·subst h;rw [hmp] at hc;cases hc
   have HPO:=zh hpo
   have HE:=zh (And.intro e1 (And.intro e2 e3))
   have HU:=zh (And.intro k1 (And.intro hk25 hsx))
   have HSU:=zh (Sl.of_own (X:=No) hk25 (fun _ _ f=>f))
   have H1C:=zh (show ∀ y ∈ us,y.oneCell'=true from fun y hy=>by
    obtain ⟨j,hj,rfl⟩:=List.mem_iff_getElem.1 hy
    obtain ⟨a1,c1,h1⟩:=(hsx j us[j] (rs[j]'(by omega)) (List.getElem?_eq_getElem hj) (List.getElem?_eq_getElem (by omega))).len
    rw [h1];rfl)
   have HRV5:=zh hrv5
   have HBV5:=zh hbv5
   have HRD:=zh hrd
   have HMW:=zh (HMOD.out.trans MN.out)
   have r5:=cell_of (i:=0) hrv5 rfl
   have HK1:=zh k1
   have hb5:w.heap.size<=w5.heap.size:=HMW.out.size
   have hnx1:(L.next:Int)+1<=18446744073709551615:=by omega
   have hc1:(L.all.length:Int)+(rs.length:Int)<=9223372036854775807:=by omega
   have hc0:(0:Int)<=(L.all.length:Int)+(rs.length:Int):=by omega
   obtain ⟨i0,hi0,hzz0,hzz1,hzz2⟩:=info_parts info_bs
   have HAT:=zh (And.intro hat2 hat3)
   clear hx1 hx2 hm4 hm5 hm5' hz2' hz4 hrv hrecs hbv hrvn hbwn hrv5 hbv5 hsx hk25 hrc5 e1 e2 e3 hpo k1 k2 k3 hl5 hp5 hrd hrl
   go_wp2_with (at_builtin;refine app_sl _ rfl _ _ 69 rfl w.heap.size 41 i0 (.slice none 0 0) 1 24 underlying69 hi0 hzz0 hzz1 hzz2 rfl (by decide) _ _ _ rfl HE.out.2.1 No 41 _ _ _ rfl HSU.out ?_ H1C.out ?_ ?_ hb5 ?_)
   ·rw [HK1.out,Nat.mul_one]
   ·unfold maxLen;omega
   ·omega
   intro v' w6 hown6 hg6 _
   have hr6:=OwnRecs.app HE.out.1 HE.out.2.1 HE.out.2.2 (Nat.le_refl _) HU.out.1 HU.out.2.1 HU.out.2.2 hg6 hown6
   have hm6:=Mod.of_grown (S:=fun q=>(Value.slice oa L.all.length oc).ownBlock=some q) hg6 (fun q e _=>e)
   have hp6:=hm6.keep HP5.out (fun e=>(HPO.out _ e).1 rfl)
   have hl6:=hm6.keep HL5.out (fun e=>(HPO.out _ e).2.1 rfl)
   have hrv6:=hm6.keep HRV5.out (fun e=>(HPO.out _ e).2.2.1 rfl)
   have hbv6:=hm6.keep HBV5.out (fun e=>(HPO.out _ e).2.2.2.1 rfl)
   have hub6:=(HUB.out.keep MN.out (fun f=>f)).keep hm6 (fun e=>(HPO.out _ e).2.2.2.2 rfl)
   have hMW6:Mod No w w6:=HMW.out.then hm6 fun i hi e=>by have:=(HE.out.2.1.lt i e).1;omega
   obtain ⟨na,nc,rfl⟩:=own_len hown6
   have hp6':w6.heap[p]? = some (.cells #[.pointer (some ⟨b,0,none⟩),.int .u64 (L.turn:Int),.int .u64 (L.next:Int),.int .i64 (L.at_:Int),.int .i64 (L.all.length:Int),.map (some ub)] 132 (0,0)):=hp6
   have l6:=cell_of (i:=0) hl6 rfl
   have b6:=cell_of (i:=0) hbv6 rfl
   have p63:=cell_of (i:=3) hp6' rfl
   have f63:=frozen_of 3 hp6'
   have m7:Mod (fun q=>q=p) w6 (w6.setCell ⟨p,3,none⟩ (.int .i64 (beh:Int))):=(Mod.refl (fun q=>q=p) w6).setCell (fun _=>rfl) _
   have q7:=heap_setCell hp6' (i:=3) (.int .i64 (beh:Int))
   have hl7:=m7.keep hl6 HNE.out.2.2.2.1
   have l7:=cell_of (i:=0) hl7 rfl
   have p72:=cell_of (i:=2) q7 rfl
   have f72:=frozen_of 2 q7
   have m8:Mod (fun q=>q=p) (w6.setCell ⟨p,3,none⟩ (.int .i64 (beh:Int))) ((w6.setCell ⟨p,3,none⟩ (.int .i64 (beh:Int))).setCell ⟨p,2,none⟩ (.int .u64 ((L.next:Int)+1))):=(Mod.refl (fun q=>q=p) _).setCell (fun _=>rfl) _
   have q8:=heap_setCell q7 (i:=2) (.int .u64 ((L.next:Int)+1))
   have hl8:=m8.keep hl7 HNE.out.2.2.2.1
   have hrp:rv ≠ p:=fun e=>by subst e;rw [hrv6] at hp6';cases hp6'
   have hrv8:=m8.keep (m7.keep hrv6 hrp) hrp
   have hub8:=(hub6.keep m7 HNE.out.2.2.1).keep m8 HNE.out.2.2.1
   have M8:=zh (show Mod No w ((w6.setCell ⟨p,3,none⟩ (.int .i64 (beh:Int))).setCell ⟨p,2,none⟩ (.int .u64 ((L.next:Int)+1))) from
    (hMW6.setCell (fun h=>absurd h (by have:=HNE.out.2.1;show ¬ p < w.heap.size;omega)) _).setCell (fun h=>absurd h (by have:=HNE.out.2.1;show ¬ p < w.heap.size;omega)) _)
   have hr8:=hr6.keepO (m7.trans m8) (fun q hq e=>by
    subst hq
    rcases e with ⟨cur,e⟩ | ⟨cur,fz,e⟩
    ·rw [hp6'] at e;cases e
    ·rw [hp6'] at e;cases e)
   generalize hw8:(w6.setCell ⟨p,3,none⟩ (.int .i64 (beh:Int))).setCell ⟨p,2,none⟩ (.int .u64 ((L.next:Int)+1))=w8 at *
   have LV8:=zh (cell_of (i:=0) hl8 rfl)
   have CT8:=zh (cell_of (i:=4) q8 rfl)
   have RV8:=zh (cell_of (i:=0) hrv8 rfl)
   have p84:=cell_of (i:=4) q8 rfl
   have f84:=frozen_of 4 q8
   have HW8:=zh hw8
   have m9:Mod (fun q=>q=p) w8.drew (w8.drew.setCell ⟨p,4,none⟩ (.int .i64 ((L.all.length:Int)+(rs.length:Int)))):=(Mod.refl (fun q=>q=p) _).setCell (fun _=>rfl) _
   have q9:=heap_setCell (w:=w8.drew) q8 (i:=4) (.int .i64 ((L.all.length:Int)+(rs.length:Int)))
   have hg0:1<=g:=by omega
   have HWR:=zh (show IntKind.i64.wrap ((L.all.length:Int)+(rs.length:Int))=(L.all.length:Int)+(rs.length:Int) by rw [IntKind.wrap_i64];omega)
   have RFIN:=zh (show OpInv w (w8.drew.setCell ⟨p,4,none⟩ (.int .i64 ((L.all.length:Int)+(rs.length:Int)))) d b p ub lv T (g - 1) (.slice na (L.all.length+rs.length) nc) from
    ⟨⟨L.turn,L.next+1,beh,L.all++rs⟩,hLT,by show d.n / 2 - beh<=g - 1;have:=HAT.out;omega,.step HCH.out HRD.out,
     by
      show (w8.drew.setCell ⟨p,4,none⟩ (.int .i64 ((L.all.length:Int)+(rs.length:Int)))).heap[p]? = some (LgObj b ub L.turn (L.next+1) beh (L.all++rs).length)
      rw [q9,List.length_append];rfl,
     m9.keep hl8 HNE.out.2.2.2.1,(hub8.keep (S:=No) (Mod.refl No w8).drew (fun f=>f)).keep m9 HNE.out.2.2.1,(hr8.stay (Mod.refl No w8).drew).keepO m9 (fun q hq e=>by
      subst hq
      rcases e with ⟨cur,e⟩ | ⟨cur,fz,e⟩
      ·have e:w8.heap[q]? = _:=e
       rw [q8] at e;cases e
      ·have e:w8.heap[q]? = _:=e
       rw [q8] at e;cases e),
     M8.out.drew.setCell (fun h=>absurd h (by have:=HNE.out.2.1;show ¬ p < w.heap.size;omega)) _⟩)
   clear m9 q9 hw8 m7 q7 hl7 m8 q8 hl8 hrp hrv8 hub8 hr8 hl6 hp6 hp6' hrv6 hbv6 hub6 hMW6 hm6 hr6 hown6 hg6
   clear HU HE HPO HSU HREC HBIG
   go_upto_region 18 with fail
   rw [HW8.out]
   have hS0:w8.drew.cell? ⟨lv,0,none⟩=some (.pointer (some ⟨p,0,none⟩))/\w8.drew.cell? ⟨p,4,none⟩=some (.int .i64 (L.all.length:Int))/\w8.drew.cell? ⟨rv,0,none⟩=some (.slice sa rs.length sc):=⟨LV8.out,CT8.out,RV8.out⟩
   refine wp_region_T (fun w'=>w'.cell? ⟨lv,0,none⟩=some (.pointer (some ⟨p,0,none⟩))/\w'.cell? ⟨p,4,none⟩=some (.int .i64 (L.all.length:Int))/\w'.cell? ⟨rv,0,none⟩=some (.slice sa rs.length sc)) 9 (by kernel_rfl) ?_
   refine yR 0 61 hS0 ?_
   refine yR 1 62 hS0 ?_
   refine yR 2 63 hS0 ?_
   refine yR 3 64 hS0 ?_
   refine yR 4 65 hS0 ?_
   refine yR 5 66 hS0 ?_
   refine yR 6 67 hS0 ?_
   refine wpAnyT_one 7 rfl (by kernel_rfl) rfl ?_
   intro K hK
   go_simp
   show K _ _
   refine hK.out _ _ (fun _=>hS0) ?_
   clear hK K
   refine yR 8 69 hS0 ?_
   refine wpAnyT_one 9 rfl (by kernel_rfl) rfl ?_
   intro K hK
   go_simp
   show K _ _
   refine hK.out _ _ (fun h=>absurd rfl h) ?_
   clear hK K
   refine wpAnyT_done (by kernel_rfl) ?_ _
   rw [HWR.out]
   go_wp2_with fail
   go_roundg g
   case measure=>omega
   case rel=>exact ⟨g - 1,by omega,RFIN.out⟩
  ·have HST:=zh hstop
   clear hx1 hx2 hstop hm4 hm5 hz2' hz4 hplt hllt hl5 hp5
   go_wp2_with fail
   go_ret3
   refine fin hR ⟨p,ub,_,L,rfl,⟨HP5.out,HUB.out.keep MN.out (fun f=>f)⟩,HREC.out.stay MN.out,hLT,HCH.out,HST.out,HMOD.out.trans MN.out,HNE.out.2.1,HNE.out.1⟩
structure Recs (w:World) (X:Nat->Prop) (v:Value) (rs:List (List UInt8)):Prop where
 row:∃ vs:List Value,vs.length=rs.length/\Sl w X 41 v rs.length vs/\∀ (j:Nat) (u:Value) (r:List UInt8),vs[j]? = some u->rs[j]? = some r->Sl w X 5 u r.length (bv r)
theorem Recs.stay {w w':World} {X:Nat->Prop} {v:Value} {rs:List (List UInt8)} (h:Recs w X v rs) (hm:Mod No w w'):Recs w' X v rs:=by
 obtain ⟨vs,h1,h2,h3⟩:=h.row
 exact ⟨vs,h1,h2.kn hm,fun j u r hu hr=>(h3 j u r hu hr).kn hm⟩
theorem OwnRecs.recs {w:World} {X:Nat->Prop} {base:Nat} {v:Value} {rs:List (List UInt8)} (h:OwnRecs w base v rs) (hx:∀ k,base<=k->¬ X k):Recs w X v rs:=by
 obtain ⟨vs,h1,h2,h3⟩:=h.row
 exact ⟨vs,h1,Sl.of_own h2 hx,fun j u r hu hr=>(h3 j u r hu hr).shrink fun k _ e=>Nat.lt_of_not_le fun hle=>hx k hle e⟩
theorem Recs.at_ {w:World} {X:Nat->Prop} {v:Value} {rs:List (List UInt8)} (h:Recs w X v rs) {k:Nat} (hk:k < rs.length):∃ b o c u,v=.slice (some ⟨b,o,none⟩) rs.length c/\w.cell? ⟨b,o+k,none⟩=some u/\Sl w X 5 u rs[k].length (bv rs[k]):=by
 obtain ⟨vs,h1,h2,h3⟩:=h.row
 obtain ⟨b,o,c,rfl,_⟩:=h2.shape (by omega)
 have hu:vs[k]? = some (vs[k]'(by omega)):=List.getElem?_eq_getElem (by omega)
 have hc:=h2.cell (i:=k) (by omega)
 dsimp only at hc
 exact ⟨b,o,c,_,rfl,hc.trans hu,h3 k _ _ hu (List.getElem?_eq_getElem hk)⟩
theorem Recs.len {w:World} {X:Nat->Prop} {v:Value} {rs:List (List UInt8)} (h:Recs w X v rs):∃ a c,v=.slice a rs.length c:=by
 obtain ⟨vs,_,h2,_⟩:=h.row
 exact h2.len
def isLong (r:List UInt8):Bool:=decide ((1048576:Int) < (r.length:Int))
set_option maxRecDepth 100000 in
set_option maxHeartbeats 1000000 in
theorem index_any {X:Nat->Prop} {v:Value} {rs:List (List UInt8)} {w:World} (h:Recs w X v rs) (hl:rs.length<=1000000000) :
  Calls prog 197 #[v,.func (.func 144) #[] #[]] w fun e w'=>(∃ i:Int,e=.returned (.int .i64 i)/\decide (0<=i)=rs.any isLong)/\w'=w:=by
 refine calls_hide fun R hR=>?_
 obtain ⟨a,c,rfl⟩:=h.len
 have H:=zh h
 clear h
 go_enter func197,ntmps197
 go_wp2_with fail
 go_loopw [8] (fun i wr=>wr=w/\∃ k:Nat,k<=rs.length/\i=.int .i64 k/\(rs.take k).any isLong=false) (fun i _=>rs.length - (intOf i).toNat)
 case atStart=>exact ⟨rfl,0,by omega,rfl,rfl⟩
 case round =>
  obtain ⟨rfl,k,hk,rfl,hno⟩:=hrel
  have HNO:=zh hno
  clear hno
  have hk0:(0:Int)<=(k:Int):=Int.natCast_nonneg _
  by_cases hlt:k < rs.length
  ·have hk1:(k:Int) < (rs.length:Int):=by omega
   obtain ⟨b,o,c',u,hv,hu,hsl⟩:=H.out.at_ hlt
   cases hv
   obtain ⟨ua,uc,rfl⟩:=hsl.len
   have HLO:=zh (long_any (a:=ua) (n:=rs[k].length) (c:=uc) (w:=wr))
   have HT:=zh (show (rs.take (k+1)).any isLong=isLong rs[k] by rw [List.take_succ_eq_append_getElem hlt,List.any_append,HNO.out];simp)
   have HMEM:=zh (show isLong rs[k]=true->rs.any isLong=true from fun e=>List.any_eq_true.2 ⟨rs[k],List.getElem_mem hlt,e⟩)
   have HIS:=zh (show isLong rs[k]=decide ((1048576:Int) < (rs[k].length:Int)) from rfl)
   clear hsl
   generalize rs[k].length=n at *
   generalize isLong rs[k]=il at *
   go_wp2_with fail
   refine HLO.out.mono ?_
   rintro e w2 ⟨rfl,h2⟩
   subst h2
   rw [<- HIS.out]
   cases il with
   | true =>
    go_wp2_with fail
    exact fin hR ⟨⟨_,rfl,by rw [HMEM.out (by trivial)];exact decide_eq_true hk0⟩,rfl⟩
   | false =>
    go_wp2_with fail
    exact ⟨⟨trivial,k+1,by omega,by go_num,HT.out⟩,by go_light;simp only [intOf];omega⟩
  ·have hkn:k=rs.length:=by omega
   subst hkn
   go_wp2_with fail
   have hno:=HNO.out
   rw [List.take_length] at hno
   exact fin hR ⟨⟨_,rfl,by rw [hno];rfl⟩,rfl⟩
theorem contains_any {X:Nat->Prop} {v:Value} {rs:List (List UInt8)} {w:World} (h:Recs w X v rs) (hl:rs.length<=1000000000) :
  Calls prog 143 #[v,.func (.func 144) #[] #[]] w fun e w'=>e=.returned (.bool (rs.any isLong))/\w'=w:=by
 refine calls_hide fun R hR=>?_
 have HI:=zh (index_any h hl)
 obtain ⟨a,c,rfl⟩:=h.len
 clear h
 go_enter func143,ntmps143
 go_wp2_with fail
 refine HI.out.mono ?_
 rintro e w2 ⟨⟨i,rfl,hi⟩,h2⟩
 subst h2
 have HX:=zh hi
 clear hi
 go_wp2_with fail
 exact fin hR ⟨by rw [<- HX.out];rfl,rfl⟩
theorem bodyB_take (rs:List (List UInt8)) (k:Nat) (hk:k < rs.length):(bodyB (rs.take (k+1))).length=(bodyB (rs.take k)).length+4+rs[k].length:=by
 have e:bodyB (rs.take (k+1))=bodyB (rs.take k)++(be 4 rs[k].length++rs[k]):=by
  rw [List.take_succ_eq_append_getElem hk]
  unfold bodyB
  rw [List.flatMap_append]
  simp [recB]
 rw [e,List.length_append,List.length_append,be_len]
 omega
set_option maxRecDepth 100000 in
set_option maxHeartbeats 1000000 in
theorem bytes_any {X Y:Nat->Prop} {b sb mb p:Nat} {d:Dk} {v:Value} {rs:List (List UInt8)} {w:World} (h:Recs w X v rs) (hl:∀ r ∈ rs,r.length<=140737488355328) (hl2:rs.length<=1000000000) (hd:DkAt w Y b sb mb d) (c0:w.cell? ⟨p,0,none⟩=some (.pointer (some ⟨b,0,none⟩))) :
  Calls prog 145 #[.pointer (some ⟨p,0,none⟩),v] w fun e w'=>e=.returned (.int .i64 ((min (32+(bodyB rs).length) (d.n*d.sz+1):Nat):Int))/\Mod No w w':=by
 refine calls_hide fun R hR=>?_
 obtain ⟨a,c,rfl⟩:=h.len
 have HS:=zh (show ∀ nq,Calls prog 59 #[.pointer (some ⟨b,0,none⟩)] (w.drewN nq) fun e w'=>e=.returned (.int .i64 (d.n:Int))/\w'=w.drewN nq from fun nq =>
  (sectors_ok (hd.stay ((Mod.refl No w).drewN nq))).mono fun e w' ⟨h1,h2⟩=>⟨h1,h2.symm⟩)
 have HZ:=zh (show ∀ nq,Calls prog 60 #[.pointer (some ⟨b,0,none⟩)] (w.drewN nq) fun e w'=>e=.returned (.int .i64 (d.sz:Int))/\w'=w.drewN nq from fun nq =>
  (size_ok (hd.stay ((Mod.refl No w).drewN nq))).mono fun e w' ⟨h1,h2⟩=>⟨h1,h2.symm⟩)
 have hn2:d.n<=4096:=hd.n2
 have hz2:d.sz<=4096:=hd.s2
 have hn1:1<=d.n:=hd.n1
 have hz1:64<=d.sz:=hd.s1
 have hA:d.n*d.sz<=4096*4096:=Nat.mul_le_mul hn2 hz2
 have hA1:64<=d.n*d.sz:=Nat.le_trans hz1 (Nat.le_mul_of_pos_left d.sz hn1)
 obtain ⟨A,hAA⟩:∃ A,A=d.n*d.sz:=⟨_,rfl⟩
 have hc:(d.n:Int)*(d.sz:Int)=(A:Int):=by rw [hAA,Int.natCast_mul]
 rw [<- hAA] at hA hA1 hR
 have b1:(-9223372036854775808:Int)<=(d.n:Int)*(d.sz:Int):=by rw [hc];omega
 have b2:(d.n:Int)*(d.sz:Int)<=9223372036854775807:=by rw [hc];omega
 have HC:=zh hc
 have H:=zh h
 have HL:=zh hl
 clear h hl hd hn2 hz2 hn1 hz1 hAA hc
 go_enter func145,ntmps145
 go_upto_region 1 with fail
 go_quiet (first | (go_at_call 59;with_reducible refine Calls.quiet_of_same (HS.out _)) | (go_at_call 60;with_reducible refine Calls.quiet_of_same (HZ.out _)))
 generalize hw2:World.drewN w _=w2
 have M2:=zh (show Mod No w w2 by rw [<- hw2];exact (Mod.refl No w).drewN _)
 have H2:=zh (H.out.stay M2.out)
 clear hw2 H HS HZ c0
 rw [HC.out]
 go_wp2_with fail
 go_loopw [6,26] (fun x i wr=>wr=w2/\∃ k:Nat,k<=rs.length/\i=.int .i64 k/\x=.int .i64 ((min (32+(bodyB (rs.take k)).length) (A+1):Nat):Int)) (fun _ i _=>rs.length - (intOf i).toNat)
 case atStart=>exact ⟨rfl,0,by omega,rfl,by
  have:min (32+(bodyB (rs.take 0)).length) (A+1)=32:=by
   have:(bodyB (rs.take 0)).length=0:=by simp [bodyB]
   omega
  rw [this];rfl⟩
 case round =>
  obtain ⟨rfl,k,hk,rfl,rfl⟩:=hrel
  have hk0:(0:Int)<=(k:Int):=Int.natCast_nonneg _
  by_cases hlt:k < rs.length
  ·have hk1:(k:Int) < (rs.length:Int):=by omega
   obtain ⟨g,o,c',u,hv,hu,hsl⟩:=H2.out.at_ hlt
   cases hv
   obtain ⟨ua,uc,rfl⟩:=hsl.len
   have hrl:=HL.out rs[k] (List.getElem_mem hlt)
   have hbt:=bodyB_take rs k hlt
   clear hsl
   obtain ⟨B,hB⟩:∃ B,B=(bodyB (rs.take k)).length:=⟨_,rfl⟩
   rw [<- hB] at hbt
   have HBT:=zh hbt
   have HB:=zh hB
   rw [<- hB]
   generalize hQ:min (32+B) (A+1)=Q
   have HQ:=zh hQ
   have hQ2:Q<=16777217:=by omega
   clear hbt hB hQ
   generalize hn:rs[k].length=n at *
   clear hn
   go_wp2_with fail
   exact ⟨⟨trivial,k+1,by omega,by go_num,by
    have h1:=HBT.out
    have h2:=HQ.out
    rw [h1]
    have:min (32+(B+4+n)) (A+1)=min (Q+4+n) (A+1):=by omega
    rw [this];go_num⟩,by go_light;simp only [intOf];omega⟩
  ·have hkn:k=rs.length:=by omega
   subst hkn
   go_wp2_with fail
   exact fin hR ⟨by rw [List.take_length];rfl,M2.out⟩
structure PutAt (cur cur':Array Value) (o m n k:Nat):Prop where
 size:cur'.size=cur.size
 here:∀ i,i < k->cur'[o+i]? = some (.int .u8 (((UInt8.ofNat (n / 2 ^ (8*(m - 1 - i)))).toNat:Nat):Int))
 else_:∀ i,i < o\/o+k<=i->cur'[i]? = cur[i]?
set_option maxRecDepth 100000 in
set_option maxHeartbeats 800000 in
theorem put_row (g o m c n:Nat) (cur:Array Value) (ty:TypeId) (w:World) (hg:w.heap[g]? = some (.cells cur ty (0,0))) (hm:m<=8) (ho:o+m<=cur.size) :
  Calls prog 199 #[.slice (some ⟨g,o,none⟩) m c,.int .u64 (n:Int)] w fun e w'=>e=.returned (.tuple #[])/\(∃ cur',w'.heap[g]? = some (.cells cur' ty (0,0))/\PutAt cur cur' o m n m)/\Mod (· = g) w w':=by
 refine calls_hide fun R hR=>?_
 have HG:=zh hg
 have HO:=zh ho
 clear hg ho
 go_enter func199,ntmps199
 go_wp2_with fail
 go_loopw [7] (fun i wr=>∃ k:Nat,k<=m/\i=.int .i64 k/\(∃ cur',wr.heap[g]? = some (.cells cur' ty (0,0))/\PutAt cur cur' o m n k)/\Mod (· = g) w wr) (fun i _=>m - (intOf i).toNat)
 case atStart=>exact ⟨0,by omega,rfl,⟨cur,HG.out,rfl,fun i hi=>by omega,fun _ _=>rfl⟩,Mod.refl _ _⟩
 case round =>
  obtain ⟨k,hk,rfl,⟨cur',hg,hpa⟩,hmm⟩:=hrel
  have hk0:(0:Int)<=(k:Int):=Int.natCast_nonneg _
  have HM:=zh hmm
  have HGK:=zh hg
  have HPA:=zh hpa
  by_cases hlt:k < m
  ·have hk1:(k:Int) < (m:Int):=by omega
   have hol:o+k < cur'.size:=by have:=HO.out;have:=hpa.size;omega
   have hv:cur'[o+k]? = some cur'[o+k]:=Array.getElem?_eq_getElem hol
   have cg:=cell_ofA hg hv
   have fg:=frozen_of (o+k) hg
   generalize cur'[o+k]=v0 at *
   have HOL:=zh hol
   have hm8:(m:Int)<=8:=by omega
   have HVL:=zh (show (((UInt8.ofNat (n / 2 ^ (8*(m - 1 - k)))).toNat:Nat):Int)=(n:Int) / 2 ^ (8*(m - 1 - k)) % 256 by simp)
   clear hv hg hmm hol hpa
   go_wp2_with fail
   rw [<- HVL.out]
   refine ⟨⟨k+1,by omega,by go_num,⟨_,heap_setCell HGK.out _,by rw [Array.size_setIfInBounds];exact HPA.out.size,fun i hi=>?_,fun i hi=>?_⟩,HM.out.setCell (fun _=>rfl) _⟩,by go_light;simp only [intOf];omega⟩
   ·by_cases e:i=k
    ·subst e;rw [Array.getElem?_setIfInBounds_self_of_lt HOL.out]
    ·rw [Array.getElem?_setIfInBounds_ne (by omega)];exact HPA.out.here i (by omega)
   ·rw [Array.getElem?_setIfInBounds_ne (by omega)];exact HPA.out.else_ i (by omega)
  ·have hkn:k=m:=by omega
   subst hkn
   clear hg hmm hpa
   go_wp2_with fail
   go_end0
   exact fin hR ⟨rfl,⟨cur',HGK.out,HPA.out⟩,HM.out⟩
theorem bodyB_le (rs:List (List UInt8)) (k:Nat):(bodyB (rs.take k)).length<=(bodyB rs).length:=by
 have e:bodyB rs=bodyB (rs.take k)++bodyB (rs.drop k):=by
  unfold bodyB
  rw [<- List.flatMap_append,List.take_append_drop]
 rw [e,List.length_append];omega
theorem PutAt.sl {X:Nat->Prop} {w:World} {g m n c:Nat} {cur cur':Array Value} {ty:TypeId} (h:PutAt cur cur' 0 m n m) (hg:w.heap[g]? = some (.cells cur' ty (0,0))) (hX:¬ X g) (hs:m<=cur.size) (hc:m<=c) (hc2:c<=maxLen) :
  Sl w X ty (.slice (some ⟨g,0,none⟩) m c) m (bv (be m n)):=by
 refine .inr ⟨g,0,c,cur',(0,0),rfl,hc,hc2,hX,hg,by rw [bv_length,be_len,h.size];omega,fun i hi=>?_⟩
 rw [bv_length,be_len] at hi
 rw [h.here i hi,bv_get _ _ (by rw [be_len];exact hi)]
 simp [be]
theorem bv_get? (l:List UInt8) (i:Nat):(bv l)[i]? = (l[i]?).map fun b=>Value.int .u8 ((b.toNat:Nat):Int):=by simp [bv]
theorem PutAt.get {cur cur':Array Value} {o m n i:Nat} (h:PutAt cur cur' o m n m) (h1:o<=i) (h2:i < o+m):cur'[i]? = (bv (be m n))[i - o]?:=by
 have:=h.here (i - o) (by omega)
 rw [show o+(i - o)=i by omega] at this
 rw [this,bv_get _ _ (by rw [be_len];omega)]
 simp [be]
theorem frame_cells {cur cur1 cur2 cur3 cur4:Array Value} {turn next:Nat} {rs:List (List UInt8)} (h0:∀ i,32<=i->i < 32+(bodyB rs).length->cur[i]? = (bv (bodyB rs))[i - 32]?)
  (h1:∀ i,i < 8->cur1[i]? = (bv sign)[i]?) (h1':∀ i,8<=i->cur1[i]? = cur[i]?) (h2:PutAt cur1 cur2 8 8 turn 8) (h3:PutAt cur2 cur3 16 8 next 8) (h4:PutAt cur3 cur4 24 8 (bodyB rs).length 8) :
  cur4.toList.take (32+(bodyB rs).length)=bv (frameB turn next rs):=by
 apply List.ext_getElem?
 intro i
 have e8:∀ n,(bv (be 8 n)).length=8:=fun n=>by rw [bv_length,be_len]
 have es:(bv sign).length=8:=rfl
 by_cases hi:i < 32+(bodyB rs).length
 ·rw [List.getElem?_take_of_lt hi,Array.getElem?_toList]
  unfold frameB
  rw [bv_append,bv_append,bv_append,bv_append]
  by_cases a1:i < 8
  ·rw [List.getElem?_append_left (by omega),h4.else_ i (.inl (by omega)),h3.else_ i (.inl (by omega)),h2.else_ i (.inl (by omega)),h1 i a1]
  ·rw [List.getElem?_append_right (by omega),es]
   by_cases a2:i < 16
   ·rw [List.getElem?_append_left (by rw [e8];omega),h4.else_ i (.inl (by omega)),h3.else_ i (.inl (by omega)),h2.get (by omega) (by omega)]
   ·rw [List.getElem?_append_right (by rw [e8];omega),e8]
    by_cases a3:i < 24
    ·rw [List.getElem?_append_left (by rw [e8];omega),h4.else_ i (.inl (by omega)),h3.get (by omega) (by omega)]
     congr 1
    ·rw [List.getElem?_append_right (by rw [e8];omega),e8]
     by_cases a4:i < 32
     ·rw [List.getElem?_append_left (by rw [e8];omega),h4.get (by omega) (by omega)]
      congr 1
     ·rw [List.getElem?_append_right (by rw [e8];omega),e8,h4.else_ i (.inr (by omega)),h3.else_ i (.inr (by omega)),h2.else_ i (.inr (by omega)),h1' i (by omega),h0 i (by omega) hi]
      congr 1
 ·rw [List.getElem?_eq_none (by rw [List.length_take];omega),List.getElem?_eq_none (by rw [bv_length,frameB_len];omega)]
set_option maxRecDepth 100000 in
set_option maxHeartbeats 4000000 in
theorem frame_any {X:Nat->Prop} {v:Value} {rs:List (List UInt8)} {w:World} (turn next:Nat) (h:Recs w X v rs) (hr:∀ r ∈ rs,r.length < 4294967296) (hb:(bodyB rs).length<=1000000000) (hl:rs.length<=1000000000) :
  Calls prog 147 #[.int .u64 (turn:Int),.int .u64 (next:Int),v] w fun e w'=>∃ v',e=.returned v'/\w'.ownsRow w.heap.size 5 1 v' (frameB turn next rs).length (bv (frameB turn next rs))/\Mod No w w':=by
 obtain ⟨i0,hi,hz0,hz1,hz2⟩:=info_parts info_u8
 refine calls_hide fun R hR=>?_
 obtain ⟨a,c,rfl⟩:=h.len
 obtain ⟨ZB,hZB⟩:∃ ZB:Array Value,ZB=(bv (List.replicate 32 0)).toArray:=⟨_,rfl⟩
 have hmk:∀ w,(Instr.makeSlice 41 (.int .i64 32) (.int .i64 32)).run prog w=.ok (.slice (some ⟨w.heap.size,0,none⟩) 32 32) (w.alloc (.cells ZB 5)):=fun w=>by
  rw [hZB,<- madeBytes]
  exact run_make_row' (P:=prog) 41 5 (.int .u8 0) 1 underlying41 info_u8 rfl .i64 .i64 32 (by omega) (by omega) w
 have hown:(w.alloc (.cells ZB 5)).ownsRow w.heap.size 5 1 (.slice (some ⟨w.heap.size,0,none⟩) 32 32) 32 ZB.toList:=by
  have hs:ZB.size=32*1:=by rw [hZB];simp
  exact World.ownsRow_lit w ZB 32 (Nat.le_refl _) (by unfold maxLen;omega) hs
 have HR:=zh hr
 have H:=zh h
 have HB:=zh hb
 have HO0:=zh (show (w.alloc (.cells ZB 5)).ownsRow w.heap.size 5 1 (.slice (some ⟨w.heap.size,0,none⟩) 32 32) (32+(bodyB (rs.take 0)).length) (bv (List.replicate 32 0++bodyB (rs.take 0))) by
  have e1:bodyB (rs.take 0)=[]:=rfl
  rw [e1,List.append_nil]
  have e2:bv (List.replicate 32 0)=ZB.toList:=by rw [hZB]
  rw [e2]
  exact hown)
 clear hr h hb hown hZB
 go_enter func147,ntmps147
 go_wp2_with fail
 go_loopw [7,14] (fun u i wr=>∃ k:Nat,k<=rs.length/\i=.int .i64 k/\wr.ownsRow w.heap.size 5 1 u (32+(bodyB (rs.take k)).length) (bv (List.replicate 32 0++bodyB (rs.take k)))/\Mod No w wr) (fun _ i _=>rs.length - (intOf i).toNat)
 case atStart=>exact ⟨0,by omega,rfl,HO0.out,(Mod.refl No w).alloc _⟩
 case round =>
  clear HO0
  obtain ⟨k,hk,rfl,hown,hmod⟩:=hrel
  obtain ⟨oa,oc,rfl⟩:=own_len hown
  have hk0:(0:Int)<=(k:Int):=Int.natCast_nonneg _
  by_cases hlt:k < rs.length
  ·have hk1:(k:Int) < (rs.length:Int):=by omega
   obtain ⟨g,o,c',u,hv,hu0,hsl0⟩:=H.out.at_ hlt
   cases hv
   obtain ⟨ua,uc,rfl⟩:=hsl0.len
   have hu:=hmod.cell hu0 (fun f=>f)
   have hsl:=hsl0.avoid.kn hmod
   clear hu0 hsl0
   have hbt:=bodyB_take rs k hlt
   have hble:=bodyB_le rs (k+1)
   have hbb:=HB.out
   have hlist:List.replicate 32 (0:UInt8)++bodyB (rs.take (k+1))=((List.replicate 32 (0:UInt8)++bodyB (rs.take k))++be 4 rs[k].length)++rs[k]:=by
    have e:bodyB (rs.take (k+1))=bodyB (rs.take k)++(be 4 rs[k].length++rs[k]):=by
     rw [List.take_succ_eq_append_getElem hlt]
     unfold bodyB
     rw [List.flatMap_append]
     simp [recB]
    rw [e];simp only [List.append_assoc]
   have hrk:=HR.out rs[k] (List.getElem_mem hlt)
   obtain ⟨N,hN⟩:∃ N,N=32+(bodyB (rs.take k)).length:=⟨_,rfl⟩
   obtain ⟨Z,hZ⟩:∃ Z,Z=List.replicate 32 (0:UInt8)++bodyB (rs.take k):=⟨_,rfl⟩
   have hNext:32+(bodyB (rs.take (k+1))).length=N+4+rs[k].length:=by omega
   have hNb:N+4+rs[k].length<=1000000032:=by omega
   rw [<- hN,<- hZ] at hown
   rw [<- hZ] at hlist
   rw [<- hN]
   have HNX:=zh (And.intro hNext hlist)
   clear hbt hble hbb hN hZ hNext hlist
   generalize rs[k]=r at *
   have m2:Mod No wr (wr.alloc (.cells #[.int .u8 0,.int .u8 0,.int .u8 0,.int .u8 0] 285)):=(Mod.refl No wr).alloc _
   have HPUT:=zh (put_row wr.heap.size 0 4 4 r.length #[.int .u8 0,.int .u8 0,.int .u8 0,.int .u8 0] 285 _ (heap_alloc_new wr _) (by omega) (by simp))
   have hwrap:IntKind.u64.wrap (r.length:Int)=(r.length:Int):=by rw [IntKind.wrap_u64];omega
   have HO:=zh hown
   have HSL:=zh hsl
   have HM:=zh hmod
   have M2:=zh m2
   clear hown hsl hmod m2
   go_wp2_with fail
   refine HPUT.out.mono ?_
   clear HPUT
   rintro e w3 ⟨rfl,⟨cur4,hg4,hpa⟩,hm3⟩
   have m23:Mod No wr w3:=M2.out.then hm3 fun i hi e=>by omega
   have HS4:=zh (hpa.sl (X:=No) (c:=4) hg4 (fun f=>f) (by simp) (by omega) (by unfold maxLen;omega))
   have HO3:=zh (own_keepM HO.out m23 (fun _ _ f=>f))
   have HSL3:=zh (HSL.out.kn m23)
   have HM3:=zh (HM.out.trans m23)
   have hb3:w.heap.size<=w3.heap.size:=HM3.out.size
   clear hg4 hpa hm3 m23 HO HSL HM M2
   go_wp2_with (at_builtin;refine app_sl _ rfl _ _ 41 rfl w.heap.size 5 i0 (.int .u8 0) 1 1 underlying41 hi hz0 hz1 hz2 rfl (by decide) _ _ _ rfl HO3.out No 285 _ _ _ rfl HS4.out ?_ (bv_one _) ?_ ?_ hb3 ?_)
   ·rw [bv_length,be_len]
   ·unfold maxLen;omega
   ·omega
   intro v4 w4 hown4 hg4 _
   have HO4:=zh hown4
   have HM4:=zh (HM3.out.then (Mod.of_grown (S:=fun q=>w.heap.size<=q) hg4 (fun q e _=>(HO3.out.lt _ e).1)) fun i hi e=>by omega)
   have HSL4:=zh (HSL3.out.keep (Mod.of_grown (S:=fun q=>w.heap.size<=q) hg4 (fun q e _=>(HO3.out.lt _ e).1)) (fun q cur fz e hX _=>hX (.inr e)))
   have hb4:w.heap.size<=w4.heap.size:=HM4.out.size
   obtain ⟨va4,vc4,rfl⟩:=own_len hown4
   clear hown4 hg4 HO3 HM3 HSL3 HS4
   go_wp2_with (at_builtin;refine app_sl _ rfl _ _ 41 rfl w.heap.size 5 i0 (.int .u8 0) 1 1 underlying41 hi hz0 hz1 hz2 rfl (by decide) _ _ _ rfl HO4.out _ 5 _ _ _ rfl HSL4.out ?_ (bv_one _) ?_ ?_ hb4 ?_)
   ·rw [bv_length,Nat.mul_one]
   ·unfold maxLen;omega
   ·omega
   intro v5 w5 hown5 hg5 _
   have HO5:=zh (show w5.ownsRow w.heap.size 5 1 v5 (32+(bodyB (rs.take (k+1))).length) (bv (List.replicate 32 0++bodyB (rs.take (k+1)))) by
    rw [HNX.out.1,HNX.out.2,bv_append,bv_append];rw [<- List.append_assoc] at hown5;exact hown5)
   have HM5:=zh (HM4.out.then (Mod.of_grown (S:=fun q=>w.heap.size<=q) hg5 (fun q e _=>(HO4.out.lt _ e).1)) fun i hi e=>by omega)
   clear hown5 hg5 HO4 HM4 HSL4
   go_wp2_with fail
   exact ⟨⟨k+1,by omega,by go_num,HO5.out,HM5.out⟩,by go_light;simp only [intOf];omega⟩
  ·have hkn:k=rs.length:=by omega
   subst hkn
   rw [List.take_length] at hown
   have hbb:=HB.out
   obtain ⟨B,hB⟩:∃ B,B=bodyB rs:=⟨_,rfl⟩
   rw [<- hB] at hown hbb
   have HBB:=zh hB
   rw [List.take_length,<- hB]
   clear hB HB
   obtain ⟨_,⟨_,h0⟩ | ⟨g,cap,cur,hsh,hgb,hh,hnc,hcm,hsz,htk⟩⟩:=hown
   ·omega
   cases hsh
   rw [Nat.mul_one] at hsz htk
   obtain ⟨cur1,hcur1⟩:∃ cur1,cur1=(bv sign++cur.toList.drop 8).toArray:=⟨_,rfl⟩
   have hcp:∀ ty,(Builtin.copy_ #[41,9] ty #[.slice (some ⟨g,0,none⟩) (32+B.length) oc,.string ⟨#[72,65,86,69,82,83,65,75]⟩]).run prog wr=.ok (goInt 8) (wr.setRow g cur1):=fun ty=>by
    rw [hcur1]
    exact Go.Lib.run_copy_row_string (P:=prog) wr 41 9 ty 5 g 0 (32+B.length) oc ⟨#[72,65,86,69,82,83,65,75]⟩ cur 5 underlying41 (by kernel_rfl) hh (by show 8<=32+B.length;omega) (by show 0+8<=cur.size;omega)
   have hg1:=setRow_heap wr g cur cur1 5 (0,0) hh
   have hz1':cur1.size=oc:=by
    have:(bv sign).length=8:=rfl
    simp only [hcur1,List.size_toArray,List.length_append,List.length_drop,Array.length_toList,this];omega
   have hlow:∀ i,i < 8->cur1[i]? = (bv sign)[i]?:=fun i hi=>by
    have:(bv sign).length=8:=rfl
    rw [hcur1,List.getElem?_toArray,List.getElem?_append_left (by omega)]
   have hhigh:∀ i,8<=i->cur1[i]? = cur[i]?:=fun i hi=>by
    have:(bv sign).length=8:=rfl
    rw [hcur1,List.getElem?_toArray,List.getElem?_append_right (by omega),List.getElem?_drop,<- Array.getElem?_toList]
    congr 1;omega
   have hbody:∀ i,32<=i->i < 32+B.length->cur[i]? = (bv B)[i - 32]?:=fun i h1 h2=>by
    have h3:(cur.toList.take (32+B.length))[i]? = cur[i]?:=by rw [List.getElem?_take_of_lt h2,Array.getElem?_toList]
    rw [<- h3,htk,bv_append,List.getElem?_append_right (by simp;omega)]
    simp
   have HG1:=zh hg1
   have HZ1:=zh hz1'
   have HLOW:=zh (And.intro hlow (And.intro hhigh hbody))
   have HM:=zh hmod
   have hm1:Mod (fun q=>q=g) wr (wr.setRow g cur1):=⟨rfl,rfl,rfl,by simp,fun k hk hn=>setRow_other wr g k cur1 hn⟩
   have HM1:=zh hm1
   have HST:=zh (And.intro hgb (And.intro hnc hcm))
   have k8:(8:Int)<=(oc:Int):=by omega
   have k16:(16:Int)<=(oc:Int):=by omega
   have k24:(24:Int)<=(oc:Int):=by omega
   have k32:(32:Int)<=(oc:Int):=by omega
   have n8:¬ oc=8:=by omega
   have n16:¬ oc=16:=by omega
   have n24:¬ oc=24:=by omega
   have hB1:(B.length:Int)<=1000000000:=by omega
   have hB0:(0:Int)<=(B.length:Int):=Int.natCast_nonneg _
   clear hcur1 hg1 hz1' hlow hhigh hbody hmod hm1 hgb hnc hcm hsz htk hh
   have HP2:=zh (put_row g 8 8 (oc - 8) turn cur1 5 (wr.setRow g cur1) HG1.out (by omega) (by rw [HZ1.out];omega))
   go_wp2_with fail
   with_reducible refine HP2.out.mono ?_
   clear HP2
   rintro e w2 ⟨rfl,⟨cur2,hg2,hpa2⟩,hm2⟩
   have HG2:=zh hg2
   have HPA2:=zh hpa2
   have hz2:cur2.size=oc:=by rw [hpa2.size,HZ1.out]
   have HZ2:=zh hz2
   have HM2:=zh hm2
   clear hg2 hpa2 hm2 hz2
   have HP3:=zh (put_row g 16 8 (oc - 16) next cur2 5 w2 HG2.out (by omega) (by rw [HZ2.out];omega))
   go_wp2_with fail
   with_reducible refine HP3.out.mono ?_
   clear HP3
   rintro e w3 ⟨rfl,⟨cur3,hg3,hpa3⟩,hm3⟩
   have HG3:=zh hg3
   have HPA3:=zh hpa3
   have hz3:cur3.size=oc:=by rw [hpa3.size,HZ2.out]
   have HZ3:=zh hz3
   have HM3:=zh hm3
   clear hg3 hpa3 hm3 hz3
   have HP4:=zh (put_row g 24 8 (oc - 24) B.length cur3 5 w3 HG3.out (by omega) (by rw [HZ3.out];omega))
   go_wp2_with fail
   have e32:(32:Int)+(B.length:Int) - 32=(B.length:Int):=by omega
   rw [<- e32] at HP4
   with_reducible refine HP4.out.mono ?_
   clear HP4
   rintro e w4 ⟨rfl,⟨cur4,hg4,hpa4⟩,hm4⟩
   have HG4:=zh hg4
   have HPA4:=zh hpa4
   have hz4:cur4.size=oc:=by rw [hpa4.size,HZ3.out]
   have HZ4:=zh hz4
   have HM4:=zh hm4
   clear hg4 hpa4 hm4 hz4
   go_wp2_with fail
   have hfin:=frame_cells (rs:=rs) (turn:=turn) (next:=next) (cur:=cur) (cur1:=cur1) (cur2:=cur2) (cur3:=cur3) (cur4:=cur4) (by rw [<- HBB.out];exact HLOW.out.2.2) HLOW.out.1 HLOW.out.2.1 HPA2.out HPA3.out (by rw [<- HBB.out];exact HPA4.out)
   have hmg:Mod (fun q=>q=g) wr w4:=((HM1.out.trans HM2.out).trans HM3.out).trans HM4.out
   refine fin hR ⟨_,rfl,⟨by rw [bv_length,Nat.mul_one],.inr ⟨g,oc,cur4,?_,HST.out.1,HG4.out,by rw [frameB_len,<- HBB.out];exact HST.out.2.1,HST.out.2.2,by rw [HZ4.out,Nat.mul_one],by rw [Nat.mul_one,frameB_len];exact hfin⟩⟩,HM.out.then hmg fun i hi e=>by have:=HST.out.1;omega⟩
   rw [frameB_len,<- HBB.out]
   rfl
end Go.Proofs.YtmppeipgjcjdkaaGreatDoor
namespace Go.Proofs.YtmppeipgjcjdkaaGreatDoor
open _root_.Go.Proofs.Tryz
open Go.RowKit Go.Maps
theorem Mp.len_nil {w:World} {k e t:TypeId} {b:Nat} (h:Mp w k b (.map [])) (ht:prog.underlying t=some (.map k e)) (ty:TypeId):(Builtin.len_ #[t] ty #[.map (some b)]).run prog w=.ok (.int .i64 0) w:=by
 have:=World.ownsMap.len h ht ty
 exact this
theorem undo_any {p ub:Nat} {w:World} (c5:w.cell? ⟨p,5,none⟩=some (.map (some ub))) (h:Mp w 3 ub (.map [])) :
  Calls prog 198 #[.pointer (some ⟨p,0,none⟩)] w fun e w'=>e=.returned (.int .i64 0)/\w'=w:=by
 refine calls_hide fun R hR=>?_
 have hlen:=h.len_nil (t:=129) underlying129
 clear h
 go_enter func198,ntmps198
 go_wp2_with fail
 exact fin hR ⟨rfl,rfl⟩
theorem Dk.flush_last (d:Dk) (hw:Well d) (i:Nat):d.flush.last i=d.last i:=by
 unfold Dk.flush
 rw [hw.1,hw.2]
 rw [if_neg (by decide),if_neg (by decide)]
 simp only [Dk.settle,Dk.last,Dk.power,Option.getD_none]
 cases d.dirty i <;> rfl
theorem Dk.flush_well (d:Dk) (hw:Well d):Well d.flush/\d.flush.n=d.n/\d.flush.sz=d.sz/\d.flushE=0:=by
 obtain ⟨h1,h2⟩:=hw
 unfold Dk.flush Dk.flushE Well
 simp [h1,h2,Dk.settle,Dk.power]
theorem Dk.write_well {d:Dk} {i:Nat} {l:List UInt8} (hw:Well d) (hi:i < d.n) (hl:l.length=d.sz) :
  Well (d.write (i:Int) l)/\(d.write (i:Int) l).n=d.n/\(d.write (i:Int) l).sz=d.sz/\d.writeE (i:Int) l.length=0/\∀ j,(d.write (i:Int) l).last j=if j=i then l else d.last j:=by
 obtain ⟨h1,h2⟩:=hw
 have hE:atE d.dead (i:Int) d.n=0:=by
  rw [h1];unfold atE
  rw [if_neg (by simp),if_neg (by omega)]
 obtain ⟨e1,e2⟩:=Dk.write_ok hE hl (by rw [h2];decide)
 rw [e1,e2]
 refine ⟨⟨?_,?_⟩,rfl,rfl,rfl,fun j=>?_⟩
 ·simp [Dk.put,Dk.power,h1,h2]
 ·simp [Dk.put,Dk.power,h2]
 ·show Option.getD (if j=((i:Int)).toNat then some l else d.dirty j) (d.sure j)=_
  rw [Int.toNat_natCast]
  by_cases e:j=i
  ·rw [if_pos e,if_pos e];rfl
  ·rw [if_neg e,if_neg e];rfl
theorem laid_cells0 {size turn next i:Nat} {B:List UInt8} (hi:i ≠ 0):bv ((B.drop (i*size)).take size)++bv (List.replicate (size+16 - ((B.drop (i*size)).take size).length) 0)=bv (laidAt size turn next B i):=by
 unfold laidAt
 rw [if_neg hi,<- bv_append,List.append_assoc,List.replicate_append_replicate]
 have:=List.length_take_le size (B.drop (i*size))
 rw [show size - (List.take size (List.drop (i*size) B)).length+16=size+16 - (List.take size (List.drop (i*size) B)).length by omega]
theorem laid_cells1 {size turn next:Nat} {B:List UInt8} {c1 c2 c3:Array Value} (h1:c1.toList=bv ((B.drop (0*size)).take size)++bv (List.replicate (size+16 - ((B.drop (0*size)).take size).length) 0))
  (h2:PutAt c1 c2 size 8 turn 8) (h3:PutAt c2 c3 (size+8) 8 (next+1) 8):c3.toList=bv (laidAt size turn next B 0):=by
 have hs:=List.length_take_le size (B.drop (0*size))
 have hl1:c1.size=size+16:=by
  rw [<- Array.length_toList,h1,List.length_append,bv_length,bv_length,List.length_replicate];omega
 have e8:∀ n,(bv (be 8 n)).length=8:=fun n=>by rw [bv_length,be_len]
 apply List.ext_getElem?
 intro i
 rw [Array.getElem?_toList]
 unfold laidAt
 rw [if_pos rfl,bv_append,bv_append (be 8 turn)]
 have hA:(bv ((B.drop (0*size)).take size++List.replicate (size - ((B.drop (0*size)).take size).length) 0)).length=size:=by
  rw [bv_length,List.length_append,List.length_replicate];omega
 by_cases a1:i < size
 ·rw [List.getElem?_append_left (by omega),h3.else_ i (.inl (by omega)),h2.else_ i (.inl (by omega)),<- Array.getElem?_toList,h1,bv_append]
  by_cases a0:i < ((B.drop (0*size)).take size).length
  ·rw [List.getElem?_append_left (by rw [bv_length];exact a0),List.getElem?_append_left (by rw [bv_length];exact a0)]
  ·rw [List.getElem?_append_right (by rw [bv_length];omega),List.getElem?_append_right (by rw [bv_length];omega),bv_get?,bv_get?,List.getElem?_replicate,List.getElem?_replicate,bv_length,if_pos (by omega),if_pos (by omega)]
 ·rw [List.getElem?_append_right (by omega),hA]
  by_cases a2:i < size+8
  ·rw [List.getElem?_append_left (by rw [e8];omega),h3.else_ i (.inl (by omega)),h2.get (by omega) (by omega)]
  ·rw [List.getElem?_append_right (by rw [e8];omega),e8]
   by_cases a3:i < size+16
   ·rw [h3.get (by omega) (by omega)]
    congr 1
   ·rw [List.getElem?_eq_none (by rw [e8];omega),Array.getElem?_eq_none (by rw [h3.size,h2.size];omega)]
end Go.Proofs.YtmppeipgjcjdkaaGreatDoor
namespace Go.Proofs.YtmppeipgjcjdkaaGreatDoor
open _root_.Go.Proofs.Tryz
open Go.RowKit
structure LayInv (w wr:World) (b sb mb ub F K m turn next:Nat) (B:List UInt8) (d:Dk) (k:Nat):Prop where
 disk:∃ d',d'.n=d.n/\d'.sz=d.sz/\Well d'/\DkAt wr No b sb mb d'/\(∀ j,k<=j->j < K->d'.last (F+j)=laidAt m turn next B j)/\∀ q,q < F+k\/F+K<=q->d'.last q=d.last q
 undone:∃ D,Mp wr 3 ub D/\(0 < k->D=.map [])
 mod:Mod (fun q=>Own3 b sb mb q\/q=ub) w wr
theorem mp_not_cells {w:World} {k:TypeId} {b:Nat} {D:DataW Value} (h:Mp w k b D) (cur:Array Value) (t:TypeId) (fz:Nat × Nat):w.heap[b]? ≠ some (.cells cur t fz):=fun e=>by
 obtain ⟨es,c,hb⟩:=h.heap
 rw [hb] at e;cases e
theorem obj_not_own {w:World} {p b sb mb:Nat} {d:Dk} {X:Nat->Prop} {cur:Array Value} {t:TypeId} (h:DkAt w X b sb mb d) (hp:w.heap[p]? = some (.cells cur t (0,0))) (h1:t ≠ 83) (h2:t ≠ 41):¬ Own3 b sb mb p:=by
 obtain ⟨sc,ho,_⟩:=h.obj
 obtain ⟨cur',hc⟩:=h.sure
 obtain ⟨D,hD⟩:=h.dirty
 obtain ⟨es,clock,hm⟩:=hD.mp.heap
 rintro (e | e | e)
 ·subst e;rw [ho] at hp;cases hp;exact h1 rfl
 ·subst e;rw [hc.heap] at hp;cases hp;exact h2 rfl
 ·subst e;rw [hm] at hp;cases hp
theorem LayInv.next {w0 wr:World} {b sb mb ub F K m turn next k:Nat} {B:List UInt8} {d d2:Dk} (hk:k < K) (n2:d2.n=d.n) (s2:d2.sz=d.sz) (w2:Well d2) (hFK:F+K<=d.n) (hl:d.sz=m+16) (hd:DkAt wr No b sb mb (d2.write ((F+k:Nat):Int) (laidAt m turn next B k)))
  (h1:∀ j,k+1<=j->j < K->d2.last (F+j)=laidAt m turn next B j) (h2:∀ q,q < F+(k+1)\/F+K<=q->d2.last q=d.last q) (hmp:∃ D,Mp wr 3 ub D/\(0 < k->D=.map [])) (hmod:Mod (fun q=>Own3 b sb mb q\/q=ub) w0 wr):LayInv w0 wr b sb mb ub F K m turn next B d k:=by
 obtain ⟨e1,e2,e3,-,e5⟩:=Dk.write_well (i:=F+k) (l:=laidAt m turn next B k) w2 (by omega) (by rw [laidAt_len,s2,hl])
 refine ⟨⟨_,e2.trans n2,e3.trans s2,e1,hd,fun j a1 a2=>?_,fun q a=>?_⟩,hmp,hmod⟩
 ·rw [e5]
  by_cases e:j=k
  ·subst e;rw [if_pos rfl]
  ·rw [if_neg (by omega)];exact h1 j (by omega) a2
 ·rw [e5,if_neg (by omega)];exact h2 q (by omega)
theorem Sl.of_cells {w:World} {g n:Nat} {cur:Array Value} {t:TypeId} {l:List UInt8} (hg:w.heap[g]? = some (.cells cur t (0,0))) (h:cur.toList=bv l) (_:l.length=n) (hc:n<=maxLen):Sl w No t (.slice (some ⟨g,0,none⟩) n n) n (bv l):=by
 refine .inr ⟨g,0,n,cur,(0,0),rfl,Nat.le_refl _,hc,fun f=>f,hg,?_,fun i hi=>?_⟩
 ·rw [<- h,Array.length_toList];omega
 ·rw [Nat.zero_add,<- Array.getElem?_toList,h]
set_option maxRecDepth 100000 in
set_option maxHeartbeats 4000000 in
theorem lay_any {b sb mb p ub:Nat} {d:Dk} {w:World} {v:Value} {B:List UInt8} {turn0 next0 at0 c0:Nat} (turn next at_ m H F K Z:Nat) (hZ:d.sz=Z) (hm:Z=m+16) (hH:d.n / 2=H) (hF:F=turn % 2*H+at_) (hK:K=secs m B.length) (hz:112<=m) (hw:Well d) (h:DkAt w No b sb mb d)
  (hp:w.heap[p]? = some (LgObj b ub turn0 next0 at0 c0)) (hub:Mp w 3 ub (.map [])) (hne:ub ≠ mb) (hB:Sl w No 5 v B.length (bv B)) (hB1:0 < B.length) (hB2:B.length<=1000000000) (hk:at_+K<=H) (ht:turn < 4611686018427387904) (hn:next+1 < 4611686018427387904) :
  Calls prog 146 #[.pointer (some ⟨p,0,none⟩),.int .u64 (turn:Int),.int .u64 (next:Int),.int .i64 (at_:Int),v] w fun e w'=>e=.returned (.int .i64 0) ∧
   (∃ d',d'.n=d.n/\d'.sz=d.sz/\Well d'/\DkAt w' No b sb mb d'/\Laid d.last d'.last m turn next F K B)/\Mp w' 3 ub (.map [])/\Mod (fun q=>Own3 b sb mb q\/q=ub) w w':=by
 refine calls_hide fun R hR=>?_
 obtain ⟨blk,o,c,rfl,hcl,hcm,-⟩:=hB.shape hB1
 have hn2:d.n<=4096:=h.n2
 have hz2:d.sz<=4096:=h.s2
 have hH2:H<=2048:=by omega
 have hm2:m<=4080:=by omega
 have ht2:turn % 2 < 2:=Nat.mod_lt _ (by omega)
 have c00:=cell_of (i:=0) hp rfl
 have c05:=cell_of (i:=5) hp rfl
 have HH:=half_any h c00
 rw [hH] at HH
 have HU:=undo_any c05 hub
 have HS:=lsecs_any B.length (by omega) h c00
 rw [show d.sz - 16=m by omega,<- hK] at HS
 have hpo:¬ Own3 b sb mb p:=obj_not_own h hp (by decide) (by decide)
 have hbo:¬ Own3 b sb mb ub:=fun e=>by
  rcases e with e | e | e
  ·obtain ⟨sc,ho,_⟩:=h.obj
   exact mp_not_cells hub _ _ _ (by rw [e];exact ho)
  ·obtain ⟨cur,hc⟩:=h.sure
   exact mp_not_cells hub _ _ _ (by rw [e];exact hc.heap)
  ·exact hne e
 have hpu:p ≠ ub:=fun e=>by subst e;exact mp_not_cells hub _ _ _ hp
 have hFb:F+K<=d.n:=by
  have h1:turn % 2=0\/turn % 2=1:=by omega
  rcases h1 with g | g
  ·rw [g,Nat.zero_mul] at hF;omega
  ·rw [g,Nat.one_mul] at hF;omega
 have hK1:0 < K:=by rw [hK];exact secs_pos hB1
 have hKup:(K - 1)*m < B.length:=by
  rcases Nat.lt_or_ge ((K - 1)*m) B.length with g | g
  ·exact g
  ·have:=secs_le (size:=m) (by omega) g
   omega
 have e1:(turn:Int) % 2=((turn % 2:Nat):Int):=(Int.natCast_emod turn 2).symm
 have e2:(turn:Int) % 2*(H:Int)=((turn % 2*H:Nat):Int):=by rw [e1,Int.natCast_mul]
 have e3:(turn:Int) % 2*(H:Int)+(at_:Int)=(F:Int):=by rw [e2,hF,Int.natCast_add]
 have HE3:=zh e3
 have r0:(0:Int)<=(turn:Int) % 2:=by rw [e1];exact Int.natCast_nonneg _
 have r1:(turn:Int) % 2<=1:=by rw [e1];omega
 have r2:(0:Int)<=(turn:Int) % 2*(H:Int):=by rw [e2];exact Int.natCast_nonneg _
 have r3:(turn:Int) % 2*(H:Int)<=4096:=by omega
 have hat:(at_:Int)<=2048:=by omega
 have HH:=zh HH
 have HU:=zh HU
 have HS:=zh HS
 have HST:=zh (show LayInv w w b sb mb ub F K m turn next B d K from ⟨⟨d,rfl,rfl,hw,h,fun j h1 h2=>by omega,fun _ _=>rfl⟩,⟨_,hub,fun _=>rfl⟩,Mod.refl _ _⟩)
 have HP:=zh hp
 have HUB:=zh hub
 have HSL:=zh hB
 have HNO:=zh (And.intro hpo (And.intro hbo hpu))
 have HZ:=zh (And.intro hZ (And.intro hm (And.intro hH hFb)))
 have HKU:=zh hKup
 have HDN:=zh (fun q (e:Own3 b sb mb q) (cur:Array Value) (fz:Nat × Nat)=>h.not_bytes e cur fz)
 have HUN:=zh (fun (cur:Array Value) (t:TypeId) (fz:Nat × Nat)=>mp_not_cells hub cur t fz)
 clear hw h hp hub hB c00 c05 hpo hbo hpu hKup e1 e2 e3 hF hm hH hK hZ hFb ht2
 go_enter func146,ntmps146
 go_wp2_with fail
 with_reducible refine HH.out.mono ?_
 rintro e w' ⟨rfl,h2⟩
 subst h2
 clear HH
 go_wp2_with fail
 rw [HE3.out]
 with_reducible refine HU.out.mono ?_
 rintro e w' ⟨rfl,h2⟩
 subst h2
 clear HU
 go_wp2_with fail
 with_reducible refine HS.out.mono ?_
 rintro e w1 ⟨rfl,hm1⟩
 clear HS
 have HST1:=zh (show LayInv w' w1 b sb mb ub F K m turn next B d K from by
  obtain ⟨⟨d',q1,q2,q3,q4,q5,q6⟩,⟨D,q7,q8⟩,q9⟩:=HST.out
  exact ⟨⟨d',q1,q2,q3,q4.stay hm1,q5,q6⟩,⟨D,q7.keep hm1 (fun f=>f),q8⟩,q9.then hm1 fun _ _ f=>f.elim⟩)
 clear HST hm1
 go_wp2_with fail
 go_loopw [13] (fun x wr=>∃ i:Int,-1<=i/\i < K/\x=.int .i64 i/\LayInv w' wr b sb mb ub F K m turn next B d (i+1).toNat) (fun x _=>(intOf x+1).toNat)
 case atStart=>exact ⟨(K:Int) - 1,by omega,by omega,rfl,by rw [show ((K:Int) - 1+1).toNat=K by omega];exact HST1.out⟩
 case round =>
  clear HST1
  obtain ⟨i,hi1,hi2,rfl,hinv⟩:=hrel
  by_cases hi0:0<=i
  ·obtain ⟨k,rfl⟩:=Int.eq_ofNat_of_zero_le hi0
   rw [show ((k:Int)+1).toNat=k+1 by omega] at hinv
   obtain ⟨⟨d',q1,q2,q3,q4,q5,q6⟩,⟨D,q7,q8⟩,q9⟩:=hinv
   obtain rfl:=q8 (by omega)
   have hkm:k*m < B.length:=Nat.lt_of_le_of_lt (Nat.mul_le_mul_right m (show k<=K - 1 by omega)) HKU.out
   obtain ⟨Q,hQ⟩:∃ Q,Q=k*m:=⟨_,rfl⟩
   rw [<- hQ] at hkm
   have hmul:(k:Int)*(m:Int)=(Q:Int):=by rw [hQ,Int.natCast_mul]
   have b1:(-9223372036854775808:Int)<=(k:Int)*(m:Int):=by rw [hmul];omega
   have b2:(k:Int)*(m:Int)<=9223372036854775807:=by rw [hmul];omega
   have HMUL:=zh hmul
   have hpr:=q9.keep HP.out (fun e=>e.elim HNO.out.1 HNO.out.2.2)
   have c00:=cell_of (i:=0) hpr rfl
   have c05:=cell_of (i:=5) hpr rfl
   have HPR:=zh hpr
   have HSZ:=size_ok q4
   rw [q2,HZ.out.1] at HSZ
   have HSZ:=zh HSZ
   have HSL1:=zh (HSL.out.keep q9 (fun q cur fz e _=>e.elim (fun e=>HDN.out q e cur fz) (fun e=>by subst e;exact HUN.out cur _ fz)))
   obtain ⟨ZB,hZB⟩:∃ ZB:Array Value,ZB=(bv (List.replicate Z 0)).toArray:=⟨_,rfl⟩
   have hZ4:Z<=4096:=by have:=HZ.out.2.1;omega
   have hmk:∀ w,(Instr.makeSlice 41 (.int .i64 (Z:Int)) (.int .i64 (Z:Int))).run prog w=.ok (.slice (some ⟨w.heap.size,0,none⟩) Z Z) (w.alloc (.cells ZB 5)):=fun w=>by
    rw [hZB,<- madeBytes]
    exact run_make_row' (P:=prog) 41 5 (.int .u8 0) 1 underlying41 info_u8 rfl .i64 .i64 Z (by omega) (by omega) w
   have HDK:=zh (show (d'.n=d.n/\d'.sz=d.sz/\Well d'/\DkAt wr No b sb mb d'/\(∀ j,k+1<=j->j < K->d'.last (F+j)=laidAt m turn next B j)/\∀ q,q < F+(k+1)\/F+K<=q->d'.last q=d.last q)/\Mp wr 3 ub (.map [])/\Mod (fun q=>Own3 b sb mb q\/q=ub) w' wr from ⟨⟨q1,q2,q3,q4,q5,q6⟩,q7,q9⟩)
   have HZB:=zh hZB
   have HQ:=zh hQ
   clear q1 q2 q3 q4 q5 q6 q7 q8 q9 hmul hpr hZB hQ
   go_wp2_with fail
   with_reducible refine HSZ.out.mono ?_
   rintro e w3 ⟨rfl,h2⟩
   subst h2
   clear HSZ
   go_upto_region 9 with fail
   obtain ⟨g,hg⟩:∃ g,g=wr.heap.size:=⟨_,rfl⟩
   obtain ⟨w2,hw2⟩:∃ w2,w2=wr.alloc (.cells ZB 5):=⟨_,rfl⟩
   rw [<- hg,<- hw2]
   have m2:Mod No wr w2:=by rw [hw2];exact (Mod.refl No wr).alloc _
   have hg2:w2.heap[g]? = some (.cells ZB 5 (0,0)):=by rw [hw2,hg];exact heap_alloc_new wr _
   have HLS:=lsize_any ((HDK.out.1.2.2.2.1.stay m2).stay (Mod.refl No w2).drew) ((Mod.refl No w2).drew.cell (m2.cell c00 (fun f=>f)) (fun f=>f))
   rw [HDK.out.1.2.1,show d.sz - 16=m by have:=HZ.out;omega] at HLS
   have HLS:=zh HLS
   have hsl2:=(HSL1.out.kn m2).keep (Mod.refl No w2).drew (fun _ _ _ f=>f.elim)
   obtain ⟨N,hN⟩:∃ N,N=((B.drop Q).take m).length:=⟨_,rfl⟩
   have hN2:=hN
   rw [List.length_take,List.length_drop] at hN2
   obtain ⟨cur1,hcur1⟩:∃ cur1:Array Value,cur1=(bv ((B.drop Q).take m)++bv (List.replicate (Z - N) 0)).toArray:=⟨_,rfl⟩
   have hcp:∀ ty,(Builtin.copy_ #[41,41] ty #[.slice (some ⟨g,0,none⟩) m Z,.slice (some ⟨blk,o+Q,none⟩) (B.length - Q) (c - Q)]).run prog w2.drew=.ok (goInt N) (w2.drew.setRow g cur1):=fun ty=>by
    have h:=run_copy_row (P:=prog) w2.drew 41 41 ty 5 g 0 m Z ⟨blk,o+Q,none⟩ (B.length - Q) (c - Q) ZB 5 (bv ((B.drop Q).take m)) underlying41 (by kernel_rfl) hg2
     (by rw [bv_length,List.length_take,List.length_drop];exact Nat.min_comm _ _) (fun j u hu=>by
      have hj:=(List.getElem?_eq_some_iff.1 hu).1
      rw [bv_length,List.length_take,List.length_drop] at hj
      have hc:=hsl2.cell (i:=Q+j) (by rw [bv_length];omega)
      rw [Addr.add_lit]
      dsimp only at hc
      rw [show o+Q+j=o+(Q+j) by omega,hc,<- hu,bv_get?,bv_get?,List.getElem?_take,if_pos (by omega),List.getElem?_drop]) (by
      rw [bv_length,List.length_take,List.length_drop,HZB.out];simp;have:=HZ.out;omega) (bv_one _)
    rw [h,bv_length,<- hN,hcur1,HZB.out]
    simp [bv]
   have HG2:=zh hg2
   have HC1:=zh hcur1
   have HNN:=zh (And.intro hN hN2)
   have M2:=zh m2
   have HGG:=zh (And.intro hg hw2)
   have hmZ:(m:Int)<=(Z:Int):=by have:=HZ.out;omega
   clear hg2 hcur1 hN hN2 m2 hg hw2 hsl2 hmk
   have hQle:Q<=B.length:=by omega
   have hcQ:¬ c=Q:=by omega
   refine wp_region_T (fun _=>True) 0 (by kernel_rfl) ?_
   refine wpAnyT_takeU 0 (some 48) ?_ rfl rfl (by kernel_rfl) (fun _ _ _ h=>h) (Or.inl ⟨by rfl,?_⟩) ?_
   rotate_left
   ·(intro w' hSw;go_simp;try with_reducible rfl)
   simp only [Act.put,yB,yC,yD]
   refine wpAnyT_takeU 1 (some 49) ?_ rfl rfl (by kernel_rfl) (fun _ _ _ h=>h) (Or.inl ⟨by rfl,?_⟩) ?_
   rotate_left
   ·(intro w' hSw;go_simp;try with_reducible rfl)
   simp only [Act.put,yB,yC,yD]
   refine wpAnyT_takeU 4 (some 52) ?_ rfl rfl (by kernel_rfl) (fun _ _ _ h=>h) (Or.inl ⟨by rfl,?_⟩) ?_
   rotate_left
   ·(intro w' hSw;go_simp;try with_reducible rfl)
   simp only [Act.put,yB,yC,yD]
   refine wpAnyT_takeU 5 (some 53) ?_ rfl rfl (by kernel_rfl) (fun _ _ _ h=>h) (Or.inl ⟨by rfl,?_⟩) ?_
   rotate_left
   ·(intro w' hSw;go_simp;try with_reducible rfl)
   simp only [Act.put,yB,yC,yD]
   refine wpAnyT_takeU 6 (some 54) ?_ rfl rfl (by kernel_rfl) (fun _ _ _ h=>h) (Or.inl ⟨by rfl,?_⟩) ?_
   rotate_left
   ·(intro w' hSw;go_simp;try with_reducible rfl)
   simp only [Act.put,yB,yC,yD]
   refine wpAnyT_one 2 rfl (by kernel_rfl) rfl ?_
   intro K hK
   go_simp
   (go_at_call 125;with_reducible refine HLS.out.mono ?_;rintro e w' ⟨rfl,rfl⟩)
   show K _ _
   refine hK.out _ _ (fun _=>trivial) ?_
   clear hK K
   refine wpAnyT_takeU 3 (some 51) ?_ rfl rfl (by kernel_rfl) (fun _ _ _ h=>h) (Or.inl ⟨by rfl,?_⟩) ?_
   rotate_left
   ·(intro w' hSw;go_simp;try with_reducible rfl)
   simp only [Act.put,yB,yC,yD]
   refine wpAnyT_one 7 rfl (by kernel_rfl) rfl ?_
   intro K hK
   go_simp
   (go_at_call 125;with_reducible refine HLS.out.mono ?_;rintro e w' ⟨rfl,rfl⟩)
   show K _ _
   refine hK.out _ _ (fun _=>trivial) ?_
   clear hK K
   refine wpAnyT_takeU 8 (some 56) (.int .i64 (Q:Int)) rfl rfl (by kernel_rfl) (fun _ _ _ h=>h) (Or.inl ⟨by rfl,?_⟩) ?_
   ·(intro w' hSw;go_simp;rw [HMUL.out,IntKind.wrap_i64];omega)
   simp only [Act.put,yB,yC,yD]
   refine wpAnyT_takeU 9 (some 57) (.slice (some ⟨blk,o+Q,none⟩) (B.length - Q) (c - Q)) rfl rfl (by kernel_rfl) (fun _ _ _ h=>h) (Or.inl ⟨by rfl,?_⟩) ?_
   ·(intro w' hSw;go_simp)
   simp only [Act.put,yB,yC,yD]
   refine wpAnyT_one 10 rfl (by kernel_rfl) rfl ?_
   intro K hK
   go_simp
   show K _ _
   refine hK.out _ _ (fun _=>trivial) ?_
   clear hK K
   refine wpAnyT_done (by kernel_rfl) ?_ _
   obtain ⟨w4,hw4⟩:∃ w4,w4=w2.drew.setRow g cur1:=⟨_,rfl⟩
   rw [<- hw4]
   have hg4:w4.heap[g]? = some (.cells cur1 5 (0,0)):=by rw [hw4];exact setRow_heap w2.drew g ZB cur1 5 (0,0) HG2.out
   have m4:Mod No wr w4:=by
    refine M2.out.drew.then (T:=fun q=>q=g) ?_ (fun q hq e=>by have:=HGG.out.1;omega)
    rw [hw4]
    exact ⟨rfl,rfl,rfl,by simp,fun j hj hn=>setRow_other w2.drew g j cur1 hn⟩
   have hc1l:cur1.toList=bv ((B.drop (k*m)).take m)++bv (List.replicate (m+16 - ((B.drop (k*m)).take m).length) 0):=by
    rw [HC1.out,<- HQ.out,<- HNN.out.1,<- HZ.out.2.1]
   have hc1s:cur1.size=Z:=by
    rw [<- Array.length_toList,hc1l,List.length_append,bv_length,bv_length,List.length_replicate,List.length_take,List.length_drop]
    have:=HZ.out;omega
   have hgo:¬ Own3 b sb mb g:=fun e=>by have:=HDK.out.1.2.2.2.1.lt e;have:=HGG.out.1;omega
   have hgu:g ≠ ub:=fun e=>by
    obtain ⟨es,cc,hx⟩:=HDK.out.2.1.heap
    have:=lt_of_heap hx;have:=HGG.out.1;omega
   have HGO:=zh (And.intro hgo hgu)
   have HG4:=zh hg4
   have M4:=zh m4
   have HCL:=zh hc1l
   have HCS:=zh hc1s
   have c04:=m4.cell c00 (fun f=>f)
   have c54:=m4.cell c05 (fun f=>f)
   clear hw4 hg4 m4 hc1l hc1s hgo hgu c00 c05 hcp HLS HG2 HC1 HNN M2 HSL1 HZB
   by_cases hk0:k=0
   ·subst hk0
    have HLS:=lsize_any (HDK.out.1.2.2.2.1.stay M4.out) c04
    rw [HDK.out.1.2.1,show d.sz - 16=m by have:=HZ.out;omega] at HLS
    have HLS:=zh HLS
    have HP1:=zh (put_row g m 8 (Z - m) turn cur1 5 w4 HG4.out (by omega) (by rw [HCS.out];have:=HZ.out;omega))
    have hm8:(m:Int)+8<=(Z:Int):=by have:=HZ.out;omega
    go_wp2_with fail
    with_reducible refine HLS.out.mono ?_
    rintro e w' ⟨rfl,h2⟩
    subst h2
    go_wp2_with fail
    with_reducible refine HLS.out.mono ?_
    rintro e w' ⟨rfl,h2⟩
    subst h2
    clear HLS
    go_wp2_with fail
    with_reducible refine HP1.out.mono ?_
    clear HP1
    rintro e w5 ⟨rfl,⟨cur2,hg5,hpa2⟩,hm5⟩
    have m5:Mod No wr w5:=M4.out.then hm5 fun i hi e=>by have:=HGG.out.1;omega
    have HLS:=lsize_any (HDK.out.1.2.2.2.1.stay m5) (m5.cell (cell_of (i:=0) HPR.out rfl) (fun f=>f))
    rw [HDK.out.1.2.1,show d.sz - 16=m by have:=HZ.out;omega] at HLS
    have HLS:=zh HLS
    have hz5:cur2.size=Z:=by rw [hpa2.size,HCS.out]
    have HP2:=put_row g (m+8) 8 (Z - (m+8)) (next+1) cur2 5 w5 hg5 (by omega) (by rw [hz5];have:=HZ.out;omega)
    rw [show ((next+1:Nat):Int)=(next:Int)+1 from rfl] at HP2
    have HP2:=zh HP2
    have HPA2:=zh hpa2
    have HZ5:=zh hz5
    clear hg5 hpa2 hm5 hz5 M4 c04 c54
    have c05:=cell_of (i:=5) HPR.out rfl
    have c05:=m5.cell c05 (fun f=>f)
    have M5:=zh m5
    clear m5
    have hzm:¬ Z=m+8:=by have:=HZ.out;omega
    have HE8:=zh (show Z - (m+8)=8 by have:=HZ.out;omega)
    rw [HE8.out] at HP2
    go_wp2_with fail
    with_reducible refine HLS.out.mono ?_
    rintro e w' ⟨rfl,h2⟩
    subst h2
    clear HLS
    go_wp2_with fail
    rw [HE8.out]
    with_reducible refine HP2.out.mono ?_
    clear HP2
    rintro e w6 ⟨rfl,⟨cur3,hg6,hpa3⟩,hm6⟩
    have m6:Mod No wr w6:=M5.out.then hm6 fun i hi e=>by have:=HGG.out.1;omega
    have hlc:=laid_cells1 (turn:=turn) (next:=next) HCL.out HPA2.out hpa3
    have HFL:=zh (flush_any No b sb mb d' w6 (HDK.out.1.2.2.2.1.stay m6))
    have c06:=m6.cell (cell_of (i:=0) HPR.out rfl) (fun f=>f)
    have HLC:=zh hlc
    have HG6:=zh hg6
    have M6:=zh m6
    clear hg6 hpa3 hm6 m6 hlc c05
    go_wp2_with fail
    with_reducible refine HFL.out.mono ?_
    clear HFL
    rintro e w7 ⟨rfl,hd7,hm7⟩
    have f:=Dk.flush_well d' HDK.out.1.2.2.1
    rw [f.2.2.2]
    have hp7:=hm7.keep (M6.out.keep HPR.out (fun f=>f)) HNO.out.1
    have c07:=cell_of (i:=0) hp7 rfl
    have c57:=cell_of (i:=5) hp7 rfl
    have hmp7:=(HDK.out.2.1.keep M6.out (fun f=>f)).keep hm7 HNO.out.2.1
    obtain ⟨w8,hst,hmp8,hm8,-⟩:=hmp7.store (t:=129) (val:=.int .u64 (turn:Int)) key_int underlying129 (by show (0:Nat) < maxLen;unfold maxLen;omega) (keyOf_nat F (by have:=HZ.out;omega))
    have c08:=hm8.cell c07 HNO.out.2.2
    have hd8:=hd7.keep hm8 (fun e=>HNO.out.2.1 (.inl e.symm)) (fun e=>HNO.out.2.1 (.inr (.inl e.symm))) (fun e=>HNO.out.2.1 (.inr (.inr e.symm))) (fun q e=>.inr fun cur fz=>by
     subst e
     exact fun hx=>mp_not_cells hmp7 _ _ _ hx)
    have hll:(laidAt m turn next B 0).length=Z:=by rw [laidAt_len,<- HZ.out.2.1]
    have hg8:=hm8.keep (hm7.keep HG6.out HGO.out.1) HGO.out.2
    have HWR:=write_any No No b sb mb d'.flush (F:Int) (.slice (some ⟨g,0,none⟩) Z Z) (laidAt m turn next B 0) w8 hd8 (by rw [hll];exact Sl.of_cells hg8 HLC.out hll (by unfold maxLen;omega)) (by rw [hll];omega) (fun _ f=>f.elim)
    have hwe:=Dk.write_well (i:=F) (l:=laidAt m turn next B 0) f.1 (by rw [f.2.1,HDK.out.1.1];have:=HZ.out;omega) (by rw [hll,f.2.2.1,HDK.out.1.2.1,HZ.out.1])
    rw [hwe.2.2.2.1] at HWR
    have HWR:=zh HWR
    have HEND:=zh (And.intro f (And.intro hmp8 (((M6.out.weaken fun _ _ f=>f.elim:Mod (fun q=>Own3 b sb mb q\/q=ub) wr w6).trans (hm7.weaken fun _ _ e=>.inl e)).trans (hm8.weaken fun _ _ e=>.inr e))))
    have hF4:(F:Int)<=4096:=by have:=HZ.out;omega
    clear hd7 hm7 hp7 hmp7 hmp8 hm8 hd8 hll hg8 hwe f c07
    go_wp2_with fail
    with_reducible refine HWR.out.mono ?_
    clear HWR
    rintro e w9 ⟨rfl,hd9,hm9⟩
    have HFIN:=zh (LayInv.next (k:=0) hK1 (HEND.out.1.2.1.trans HDK.out.1.1) (HEND.out.1.2.2.1.trans HDK.out.1.2.1) HEND.out.1.1 HZ.out.2.2.2 (by rw [HZ.out.1,HZ.out.2.1]) hd9 (fun j h1 h2=>by rw [Dk.flush_last _ HDK.out.1.2.2.1];exact HDK.out.1.2.2.2.2.1 j h1 h2) (fun q h=>by rw [Dk.flush_last _ HDK.out.1.2.2.1];exact HDK.out.1.2.2.2.2.2 q h) ⟨_,HEND.out.2.1.keep hm9 (fun e=>HNO.out.2.1 (e.elim .inl fun e=>.inr (.inr e))),fun h=>by omega⟩
     ((HDK.out.2.2.trans HEND.out.2.2).trans (hm9.weaken fun _ _ e=>.inl (e.elim .inl fun e=>.inr (.inr e)))))
    clear hd9 hm9
    go_wp2_with fail
    exact ⟨⟨-1,by omega,by omega,rfl,HFIN.out⟩,by go_light;simp only [intOf];omega⟩
   ·have hk1:¬ (k:Int)=0:=by omega
    have hFk:(F:Int)+(k:Int)<=4096:=by have:=HZ.out;omega
    have hll:(laidAt m turn next B k).length=Z:=by rw [laidAt_len,<- HZ.out.2.1]
    have HWR:=write_any No No b sb mb d' ((F+k:Nat):Int) (.slice (some ⟨g,0,none⟩) Z Z) (laidAt m turn next B k) w4 (HDK.out.1.2.2.2.1.stay M4.out) (by rw [hll];exact Sl.of_cells HG4.out (by rw [HCL.out,laid_cells0 hk0]) hll (by unfold maxLen;omega)) (by rw [hll];omega) (fun _ f=>f.elim)
    have hwe:=Dk.write_well (i:=F+k) (l:=laidAt m turn next B k) HDK.out.1.2.2.1 (by rw [HDK.out.1.1];have:=HZ.out;omega) (by rw [hll,HDK.out.1.2.1,HZ.out.1])
    rw [hwe.2.2.2.1,Int.natCast_add] at HWR
    have HWR:=zh HWR
    clear hwe hll
    go_wp2_with fail
    with_reducible refine HWR.out.mono ?_
    clear HWR
    rintro e w9 ⟨rfl,hd9,hm9⟩
    rw [<- Int.natCast_add] at hd9
    have HFIN:=zh (LayInv.next (k:=k) (by omega) HDK.out.1.1 HDK.out.1.2.1 HDK.out.1.2.2.1 HZ.out.2.2.2 (by rw [HZ.out.1,HZ.out.2.1]) hd9 HDK.out.1.2.2.2.2.1 HDK.out.1.2.2.2.2.2 ⟨_,(HDK.out.2.1.keep M4.out (fun f=>f)).keep hm9 (fun e=>HNO.out.2.1 (e.elim .inl fun e=>.inr (.inr e))),fun _=>rfl⟩
     ((HDK.out.2.2.trans (M4.out.weaken fun _ _ f=>f.elim)).trans (hm9.weaken fun _ _ e=>.inl (e.elim .inl fun e=>.inr (.inr e)))))
    clear hd9 hm9
    go_wp2_with fail
    exact ⟨⟨(k:Int) - 1,by omega,by omega,rfl,by rw [show ((k:Int) - 1+1).toNat=k by omega];exact HFIN.out⟩,by go_light;simp only [intOf];omega⟩
  ·have him:i = -1:=by omega
   subst him
   obtain ⟨⟨d',q1,q2,q3,q4,q5,q6⟩,⟨D,q7,q8⟩,q9⟩:=hinv
   have hpr:=q9.keep HP.out (fun e=>e.elim HNO.out.1 HNO.out.2.2)
   have c00:=cell_of (i:=0) hpr rfl
   have HFL:=zh (flush_any No b sb mb d' wr q4)
   have HPR:=zh hpr
   have HDK:=zh (And.intro (show d'.n=d.n/\d'.sz=d.sz/\Well d'/\(∀ j,((-1:Int)+1).toNat<=j->j < K->d'.last (F+j)=laidAt m turn next B j)/\(∀ q,q < F+((-1:Int)+1).toNat\/F+K<=q->d'.last q=d.last q) from ⟨q1,q2,q3,q5,q6⟩) (And.intro q7 q9))
   clear q1 q2 q3 q4 q5 q6 q7 q8 q9 hpr
   go_wp2_with fail
   with_reducible refine HFL.out.mono ?_
   clear HFL
   rintro e w5 ⟨rfl,hd5,hm5⟩
   obtain ⟨f1,f2,f3,f4⟩:=Dk.flush_well d' HDK.out.1.2.2.1
   rw [f4]
   have c05:=cell_of (i:=5) (hm5.keep HPR.out HNO.out.1) rfl
   obtain ⟨w6,hclr,hmp6,hm6,-⟩:=(HDK.out.2.1.keep hm5 HNO.out.2.1).clear (t:=129) underlying129
   have HEND:=zh (And.intro hd5 (And.intro hm5 (And.intro hmp6 hm6)))
   clear hd5 hm5 hmp6 hm6 f1 f2 f3 f4
   go_wp2_with fail
   have hd5:=HEND.out.1
   have f:=Dk.flush_well d' HDK.out.1.2.2.1
   have hm6:=HEND.out.2.2.2
   refine fin hR ⟨rfl,⟨d'.flush,f.2.1.trans HDK.out.1.1,f.2.2.1.trans HDK.out.1.2.1,f.1,hd5.keep hm6 (fun e=>HNO.out.2.1 (.inl e.symm)) (fun e=>HNO.out.2.1 (.inr (.inl e.symm))) (fun e=>HNO.out.2.1 (.inr (.inr e.symm))) (fun q e=>.inr fun cur fz=>by
    subst e
    exact fun hx=>mp_not_cells (HDK.out.2.1.keep HEND.out.2.1 HNO.out.2.1) _ _ _ hx),⟨fun j hj=>?_,fun j hj=>?_⟩⟩,HEND.out.2.2.1,(HDK.out.2.2.trans (HEND.out.2.1.weaken fun _ _ e=>.inl e)).trans (hm6.weaken fun _ _ e=>.inr e)⟩
   ·rw [Dk.flush_last _ HDK.out.1.2.2.1];exact HDK.out.1.2.2.2.1 j (by omega) hj
   ·rw [Dk.flush_last _ HDK.out.1.2.2.1];exact HDK.out.1.2.2.2.2 j (by omega)
end Go.Proofs.YtmppeipgjcjdkaaGreatDoor
