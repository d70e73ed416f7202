/-
  Layers 0 to 14: helps of the laws of indexes. No statement is proved here; no condition.
-/
import Derived.Test.YtmppeipgjcjdkaaGreatDoorX21
import Derived.Test.YtmppeipgjcjdkaaGreatDoorX07
import Derived.Test.YtmppeipgjcjdkaaGreatDoorX00
import Derived.Test.YtmppeipgjcjdkaaGreatDoorX05
import Derived.Test.YtmppeipgjcjdkaaGreatDoorX03
import Derived.StringKeys
import Derived.Deep.OwnRows
import Derived.Lib.Strings
namespace Go.Proofs.YtmppeipgjcjdkaaGreatDoor
open _root_.Go.Proofs.Tryz
open Go.RowKit Go.Maps
abbrev Mt:=List UInt8->Option (List UInt8)
def Mt.put (M:Mt) (k v:List UInt8):Mt:=fun x=>if x=k then some v else M x
def Mt.del (M:Mt) (k:List UInt8):Mt:=fun x=>if x=k then none else M x
def Mt.change (M:Mt) (p:Pr):Mt:=if p.gone then M.del p.key else M.put p.key p.value
def Mt.changes (M:Mt) (l:List Pr):Mt:=l.foldl Mt.change M
structure SMp (w:World) (b n:Nat) (M:Mt):Prop where
 row:∃ D,Mp w 9 b D/\Maps.size D<=n/\∀ k,(M k=none->Maps.has D (.string k)=false)/\∀ v,M k=some v->Maps.has D (.string k)=true/\∀ zd,D.atKey (.string k) zd=.held (.string ⟨v.toArray⟩)
theorem key_str:Keyed prog 9:=string_keyed underlying9
theorem keyOf_str (k:List UInt8) (h:k.length<=1000000000):keyOf prog 9 (.string ⟨k.toArray⟩)=some (.string k):=by
 rw [Go.WideMaps.keyOf_string_mk underlying9 (by rw [str_size_list];unfold maxLen;omega)]
theorem isKey_str (k:List UInt8):WideAt.IsKeyLit (.string k):=trivial
theorem lit_str_ne {i j:List UInt8} (h:j ≠ i):Lit.string j ≠ .string i:=fun e=>h (by cases e;rfl)
theorem SMp.keep {S:Nat->Prop} {w w':World} {b n:Nat} {M:Mt} (h:SMp w b n M) (hm:Mod S w w') (hs:¬ S b):SMp w' b n M:=by
 obtain ⟨D,h1,h2,h3⟩:=h.row
 exact ⟨D,h1.keep hm hs,h2,h3⟩
theorem SMp.more {w:World} {b n m:Nat} {M:Mt} (h:SMp w b n M) (hn:n<=m):SMp w b m M:=by
 obtain ⟨D,h1,h2,h3⟩:=h.row
 exact ⟨D,h1,by omega,h3⟩
theorem SMp.lt {w:World} {b n:Nat} {M:Mt} (h:SMp w b n M):b < w.heap.size:=by
 obtain ⟨D,h1,-⟩:=h.row
 obtain ⟨es,c,hb⟩:=h1.heap
 exact lt_of_heap hb
theorem SMp.made (w:World):SMp (w.alloc (.map #[] 0)) w.heap.size 0 (fun _=>none) :=
 ⟨.map [],Mp.made w _,Nat.le_refl _,fun k=>⟨fun _=>by simp [Maps.has_eq],fun v h=>by cases h⟩⟩
theorem SMp.not_cells {w:World} {b n:Nat} {M:Mt} (h:SMp w b n M) (cur:Array Value) (t:TypeId) (fz:Nat × Nat):w.heap[b]? ≠ some (.cells cur t fz):=by
 obtain ⟨D,h1,-⟩:=h.row
 exact fun e=>by
  obtain ⟨es,c,hb⟩:=h1.heap
  rw [hb] at e;cases e
theorem SMp.putD {w':World} {b n:Nat} {M:Mt} {k v:List UInt8} {D:DataW Value} (hT:Tidy D) (h2:Maps.size D<=n) (h3:∀ k,(M k=none->Maps.has D (.string k)=false)/\∀ v,M k=some v->Maps.has D (.string k)=true/\∀ zd,D.atKey (.string k) zd=.held (.string ⟨v.toArray⟩))
  (hm:Mp w' 9 b (D.put (.string k) (.held (.string ⟨v.toArray⟩)))):SMp w' b (n+1) (M.put k v):=by
 have hD:IsMap D:=hT.isMap
 refine ⟨_,hm,?_,fun x=>⟨fun hx=>?_,fun u hx=>?_⟩⟩
 ·rw [size_put hT];split <;> omega
 ·by_cases e:x=k
  ·simp [Mt.put,e] at hx
  ·simp only [Mt.put,if_neg e] at hx
   rw [has_put_other (lit_str_ne e)]
   exact (h3 x).1 hx
 ·by_cases e:x=k
  ·subst e
   simp only [Mt.put,if_true] at hx
   cases hx
   exact ⟨has_put_same hD (isKey_str _) _,fun zd=>atKey_put_same hD (isKey_str _) _ zd⟩
  ·simp only [Mt.put,if_neg e] at hx
   rw [has_put_other (lit_str_ne e)]
   refine ⟨((h3 x).2 u hx).1,fun zd=>?_⟩
   rw [atKey_put_other (lit_str_ne e)]
   exact ((h3 x).2 u hx).2 zd
theorem SMp.delD {w':World} {b n:Nat} {M:Mt} {k:List UInt8} {D:DataW Value} (hT:Tidy D) (h2:Maps.size D<=n) (h3:∀ k,(M k=none->Maps.has D (.string k)=false)/\∀ v,M k=some v->Maps.has D (.string k)=true/\∀ zd,D.atKey (.string k) zd=.held (.string ⟨v.toArray⟩))
  (hm:Mp w' 9 b (D.del (.string k))):SMp w' b n (M.del k):=by
 refine ⟨_,hm,?_,fun x=>⟨fun hx=>?_,fun u hx=>?_⟩⟩
 ·have:=size_del hT (k:=.string k);omega
 ·by_cases e:x=k
  ·subst e;exact has_del_same
  ·simp only [Mt.del,if_neg e] at hx
   rw [has_del_other (lit_str_ne e)]
   exact (h3 x).1 hx
 ·by_cases e:x=k
  ·simp [Mt.del,e] at hx
  ·simp only [Mt.del,if_neg e] at hx
   rw [has_del_other (lit_str_ne e)]
   refine ⟨((h3 x).2 u hx).1,fun zd=>?_⟩
   rw [atKey_del_other (lit_str_ne e)]
   exact ((h3 x).2 u hx).2 zd
def prCells (l:List Pr):List Value:=l.flatMap fun p=>[.string ⟨p.key.toArray⟩,.string ⟨p.value.toArray⟩,.bool p.gone]
structure Prs (w:World) (X:Nat->Prop) (a:Option Addr) (l:List Pr):Prop where
 at_:∀ i (hi:i < l.length),∃ b o,a=some ⟨b,o,none⟩/\¬ X b/\w.cell? ⟨b,o+i*3,none⟩=some (.string ⟨l[i].key.toArray⟩)/\w.cell? ⟨b,o+i*3+1,none⟩=some (.string ⟨l[i].value.toArray⟩)/\w.cell? ⟨b,o+i*3+2,none⟩=some (.bool l[i].gone)
theorem Prs.keep {S X:Nat->Prop} {w w':World} {a:Option Addr} {l:List Pr} (h:Prs w X a l) (hm:Mod S w w') (hs:∀ k,S k->X k):Prs w' X a l :=
 ⟨fun i hi=>by
  obtain ⟨b,o,h1,hx,h2,h3,h4⟩:=h.at_ i hi
  have hn:¬ S b:=fun s=>hx (hs b s)
  exact ⟨b,o,h1,hx,hm.cell h2 hn,hm.cell h3 hn,hm.cell h4 hn⟩⟩
def ShortP (l:List Pr):Prop:=∀ p ∈ l,p.key.length<=10000000/\p.value.length<=10000000
set_option maxRecDepth 100000 in
set_option maxHeartbeats 4000000 in
theorem change_any {w:World} {b n:Nat} {M:Mt} {a:Option Addr} {c:Nat} {l:List Pr} (h:SMp w b n M) (hl:Prs w (fun k=>k=b) a l) (hsh:ShortP l) (hn:n+l.length<=1000000000) :
  Calls prog 24 #[.map (some b),.slice a l.length c] w fun e w'=>e=.returned (.tuple #[])/\SMp w' b (n+l.length) (M.changes l)/\Mod (fun k=>k=b) w w':=by
 refine calls_hide fun R hR=>?_
 have H:=zh h
 have HL:=zh hl
 have HS:=zh hsh
 clear h hl hsh
 go_enter func24,ntmps24
 go_wp2_with fail
 go_loopw [8] (fun q wr=>∃ i:Nat,i<=l.length/\q=.int .i64 i/\SMp wr b (n+i) (M.changes (l.take i))/\Mod (fun k=>k=b) w wr) (fun q _=>l.length - (intOf q).toNat)
 case atStart=>exact ⟨0,by omega,rfl,H.out,Mod.refl _ _⟩
 case round =>
  obtain ⟨i,hi,rfl,hs,hm⟩:=hrel
  have hi0:(0:Int)<=(i:Int):=Int.natCast_nonneg _
  by_cases hlt:i < l.length
  ·have hi1:(i:Int) < (l.length:Int):=by omega
   obtain ⟨g,o,rfl,hx,c0,c1,c2⟩:=(HL.out.keep hm (fun _ e=>e)).at_ i hlt
   have hsp:=HS.out l[i] (List.getElem_mem hlt)
   have HCH:=zh (show M.changes (l.take (i+1))=(M.changes (l.take i)).change l[i] by
    rw [List.take_succ_eq_append_getElem hlt];unfold Mt.changes;rw [List.foldl_append];rfl)
   generalize l[i]=pr at *
   obtain ⟨k,v,gn⟩:=pr
   dsimp only at c0 c1 c2 hsp
   obtain ⟨w2,hw2⟩:∃ w2,w2=wr.alloc (.cells #[.string ⟨k.toArray⟩,.string ⟨v.toArray⟩,.bool gn] 33):=⟨_,rfl⟩
   have m2:Mod No wr w2:=by rw [hw2];exact (Mod.refl No wr).alloc _
   have hb2:w2.heap[wr.heap.size]? = some (.cells #[.string ⟨k.toArray⟩,.string ⟨v.toArray⟩,.bool gn] 33 (0,0)):=by rw [hw2];exact heap_alloc_new wr _
   have p0:=cell_of (i:=0) hb2 rfl
   have p1:=cell_of (i:=1) hb2 rfl
   have p2:=cell_of (i:=2) hb2 rfl
   clear hb2
   obtain ⟨D,d1,d2,d3⟩:=(hs.keep m2 (fun f=>f)).row
   have hkey:=keyOf_str k (by omega)
   have hT:=d1.tidy key_str
   have HD:=zh (And.intro d1 (And.intro d2 (And.intro d3 hT)))
   have HM2:=zh (show Mod (fun k=>k=b) w w2 from hm.trans (m2.weaken fun _ _ f=>f.elim))
   have HW2:=zh hw2
   have HX:=zh hx
   have hsz:Maps.size D < maxLen:=by unfold maxLen;omega
   have hkl:k.length<=10000000:=hsp.1
   clear d1 d2 d3 hT m2 hw2 hs hm hx hsp
   have HK:=zh hkey
   clear hkey
   generalize hKK:(⟨k.toArray⟩:ByteArray)=K at *
   generalize hVV:(⟨v.toArray⟩:ByteArray)=V at *
   have HVV:=zh hVV
   have HKK:=zh hKK
   clear hKK hVV
   cases gn with
   | true =>
    go_upto_region 4 with fail
    rw [<- HW2.out]
    obtain ⟨w3,hdr0,hmp,hm3,-⟩:=HD.out.1.drop key_str (t:=72) underlying72 HK.out 0
    have hdr:∀ ty,(Builtin.delete_ #[72,9] ty #[.map (some b),.string K]).run prog w2=.ok (.tuple #[]) w3:=fun ty=>hdr0
    clear hdr0
    have HE:=zh (SMp.delD HD.out.2.2.2 HD.out.2.1 HD.out.2.2.1 hmp)
    have HM3:=zh (HM2.out.trans hm3)
    clear hmp hm3
    go_wp2_with fail
    exact ⟨⟨i+1,by omega,by go_num,by rw [HCH.out];exact HE.out.more (by omega),HM3.out⟩,by go_light;simp only [intOf];omega⟩
   | false =>
    go_upto_region 5 with fail
    rw [<- HW2.out]
    obtain ⟨w3,hst,hmp,hm3,-⟩:=HD.out.1.store key_str (t:=72) (val:=.string V) underlying72 hsz HK.out
    have HE:=zh (SMp.putD (v:=v) HD.out.2.2.2 HD.out.2.1 HD.out.2.2.1 (by rw [HVV.out];exact hmp))
    have HM3:=zh (HM2.out.trans hm3)
    clear hmp hm3
    go_wp2_with fail
    exact ⟨⟨i+1,by omega,by go_num,by rw [HCH.out];exact HE.out,HM3.out⟩,by go_light;simp only [intOf];omega⟩
  ·have hil:i=l.length:=by omega
   subst hil
   rw [List.take_length] at hs
   have HSS:=zh hs
   have HM:=zh hm
   clear hs hm
   go_wp2_with fail
   go_end0
   exact fin hR ⟨rfl,HSS.out,HM.out⟩
abbrev Vt:=List UInt8->Option Value
def vPut (F:Vt) (k:List UInt8) (v:Value):Vt:=fun x=>if x=k then some v else F x
structure VMp (w:World) (b n:Nat) (F:Vt):Prop where
 row:∃ D,Mp w 9 b D/\Maps.size D=n/\∀ k,(F k=none->Maps.has D (.string k)=false)/\∀ v,F k=some v->Maps.has D (.string k)=true/\∀ zd,D.atKey (.string k) zd=.held v
theorem VMp.keep {S:Nat->Prop} {w w':World} {b n:Nat} {F:Vt} (h:VMp w b n F) (hm:Mod S w w') (hs:¬ S b):VMp w' b n F:=by
 obtain ⟨D,h1,h2,h3⟩:=h.row
 exact ⟨D,h1.keep hm hs,h2,h3⟩
theorem VMp.lt {w:World} {b n:Nat} {F:Vt} (h:VMp w b n F):b < w.heap.size:=by
 obtain ⟨D,h1,-⟩:=h.row
 obtain ⟨es,c,hb⟩:=h1.heap
 exact lt_of_heap hb
theorem VMp.made (w:World):VMp (w.alloc (.map #[] 0)) w.heap.size 0 (fun _=>none) :=
 ⟨.map [],Mp.made w _,rfl,fun k=>⟨fun _=>by simp [Maps.has_eq],fun v h=>by cases h⟩⟩
theorem VMp.not_cells {w:World} {b n:Nat} {F:Vt} (h:VMp w b n F) (cur:Array Value) (t:TypeId) (fz:Nat × Nat):w.heap[b]? ≠ some (.cells cur t fz):=by
 obtain ⟨D,h1,-⟩:=h.row
 exact fun e=>by
  obtain ⟨es,c,hb⟩:=h1.heap
  rw [hb] at e;cases e
theorem VMp.get {w:World} {b n:Nat} {F:Vt} (h:VMp w b n F) {t e:TypeId} {z:Value} (ht:prog.underlying t=some (.map 9 e)) (hz:(zeroValue e).run prog w=.ok z w) (k:List UInt8) (hk:k.length<=1000000000) :
  (Instr.lookup t (.map (some b)) (.string ⟨k.toArray⟩) false).run prog w=.ok ((F k).getD z) w:=by
 obtain ⟨D,d1,d2,d3⟩:=h.row
 cases hM:F k with
 | none=>exact d1.get_miss key_str ht hz (keyOf_str k hk) ((d3 k).1 hM)
 | some v=>exact d1.get_hit key_str ht hz (keyOf_str k hk) ((d3 k).2 v hM).2
theorem VMp.len {w:World} {b n:Nat} {F:Vt} (h:VMp w b n F) {t e:TypeId} (ht:prog.underlying t=some (.map 9 e)) (ty:TypeId):(Builtin.len_ #[t] ty #[.map (some b)]).run prog w=.ok (.int .i64 (n:Int)) w:=by
 obtain ⟨D,d1,d2,-⟩:=h.row
 rw [World.ownsMap.len d1 ht ty,d2]
theorem VMp.putD {w':World} {b n:Nat} {F:Vt} {k:List UInt8} {v:Value} {D:DataW Value} (hT:Tidy D) (h2:Maps.size D=n) (h3:∀ k,(F k=none->Maps.has D (.string k)=false)/\∀ v,F k=some v->Maps.has D (.string k)=true/\∀ zd,D.atKey (.string k) zd=.held v)
  (hm:Mp w' 9 b (D.put (.string k) (.held v))):VMp w' b (if F k=none then n+1 else n) (vPut F k v):=by
 have hD:IsMap D:=hT.isMap
 refine ⟨_,hm,?_,fun x=>⟨fun hx=>?_,fun u hx=>?_⟩⟩
 ·rw [size_put hT]
  cases hF:F k with
  | none=>rw [(h3 k).1 hF];simp;omega
  | some u=>rw [((h3 k).2 u hF).1];simp;omega
 ·by_cases e:x=k
  ·simp [vPut,e] at hx
  ·simp only [vPut,if_neg e] at hx
   rw [has_put_other (lit_str_ne e)]
   exact (h3 x).1 hx
 ·by_cases e:x=k
  ·subst e
   simp only [vPut,if_true] at hx
   cases hx
   exact ⟨has_put_same hD (isKey_str _) _,fun zd=>atKey_put_same hD (isKey_str _) _ zd⟩
  ·simp only [vPut,if_neg e] at hx
   rw [has_put_other (lit_str_ne e)]
   refine ⟨((h3 x).2 u hx).1,fun zd=>?_⟩
   rw [atKey_put_other (lit_str_ne e)]
   exact ((h3 x).2 u hx).2 zd
theorem VMp.put {w:World} {b n:Nat} {F:Vt} (h:VMp w b n F) {t e:TypeId} (ht:prog.underlying t=some (.map 9 e)) (hn:n < maxLen) (k:List UInt8) (hk:k.length<=1000000000) (v:Value) :
  ∃ w',(Instr.mapUpdate t (.map (some b)) (.string ⟨k.toArray⟩) v).run prog w=.ok () w'/\VMp w' b (if F k=none then n+1 else n) (vPut F k v)/\Mod (· = b) w w'/\w'.heap.size=w.heap.size:=by
 obtain ⟨D,d1,d2,d3⟩:=h.row
 have hT:Tidy D:=d1.tidy key_str
 obtain ⟨w',hrun,hm,hmod,hsz⟩:=d1.store key_str ht (by omega) (val:=v) (keyOf_str k hk)
 exact ⟨w',hrun,VMp.putD hT d2 d3 hm,hmod,hsz⟩
def NewInv (w0:World) (m:Nat) (wr:World) (k:Nat):Prop :=
 ∃ v xs,wr.heap[w0.heap.size+1]? = some (.cells #[v,.map (some w0.heap.size),.int .i64 (-1),.bool false] 83 (0,0))/\wr.ownsRow (w0.heap.size+2) 41 1 v k xs ∧
  Mp wr 3 w0.heap.size (.map [])/\(∀ j,j < k->∃ u,xs[j]? = some u/\Sl wr (fun q=>q < w0.heap.size) 5 u m (bv (List.replicate m 0)))/\Mod No w0 wr/\w0.heap.size+2<=wr.heap.size
theorem madeBytes (m:Nat):madeCells #[.int .u8 0] m=(bv (List.replicate m 0)).toArray:=by
 apply Array.toList_inj.1
 rw [toList_madeCells_one]
 simp [bv]
theorem NewInv.start (w:World) (m:Nat) :
  NewInv w m ((w.alloc (.map #[] 0)).alloc (.cells #[.slice none 0 0,.map (some w.heap.size),.int .i64 (-1),.bool false] 83)) 0:=by
 refine ⟨.slice none 0 0,[],?_,World.ownsRow_nil _ _ _ _,?_,fun j hj=>by omega,((Mod.refl No w).alloc _).alloc _,by simp⟩
 ·have:=heap_alloc_new (w.alloc (.map #[] 0)) (.cells #[.slice none 0 0,.map (some w.heap.size),.int .i64 (-1),.bool false] 83)
  simpa using this
 ·exact (Mp.made w _).keep (S:=No) ((Mod.refl No _).alloc _) (fun f=>f)
set_option maxRecDepth 100000 in
set_option maxHeartbeats 2000000 in
theorem new_any (n size:Int) (w:World) :
  Calls prog 9 #[.int .i64 n,.int .i64 size] w fun e w'=>∃ N m:Nat,e=.returned (.pointer (some ⟨w.heap.size+1,0,none⟩))/\(N:Int)=min (max n 1) 4096/\(m:Int)=min (max size 64) 4096/\NewInv w m w' N:=by
 have hmm:=@run_makeMap prog
 obtain ⟨N,hN⟩:∃ N:Nat,min (max n 1) 4096=(N:Int):=Int.eq_ofNat_of_zero_le (by omega)
 obtain ⟨m,hm⟩:∃ m:Nat,min (max size 64) 4096=(m:Int):=Int.eq_ofNat_of_zero_le (by omega)
 have hN1:N<=4096:=by omega
 have hm1:m<=4096:=by omega
 have HW:∀ w,Calls prog 25 #[.int .i64 n,.int .i64 1,.int .i64 4096] w fun e w'=>e=.returned (.int .i64 (N:Int))/\w=w':=fun w=>by rw [<- hN];exact within_any n 1 4096 w
 have HZ:∀ w,Calls prog 25 #[.int .i64 size,.int .i64 64,.int .i64 4096] w fun e w'=>e=.returned (.int .i64 (m:Int))/\w=w':=fun w=>by rw [<- hm];exact within_any size 64 4096 w
 have HWH:=zh HW
 have HZH:=zh HZ
 have HN:=zh hN
 have HM:=zh hm
 have hmk:=fun w=>run_make_row' (P:=prog) 41 5 (.int .u8 0) 1 underlying41 info_u8 rfl .i64 .i64 m (by omega) (by omega) w
 clear HW HZ hN hm
 obtain ⟨i0,hi,hz0,hz1,hz2⟩:=info_parts info_bs
 refine calls_hide fun R hR=>?_
 go_enter func9,ntmps9
 go_wp2_with (go_at_call 25;refine (HWH.out _).mono ?_;rintro e w' ⟨rfl,rfl⟩)
 go_loopw [12] (fun i wr=>∃ k:Nat,k<=N/\i=.int .i64 k/\NewInv w m wr k) (fun i _=>N - (intOf i).toNat)
 case atStart=>exact ⟨0,Nat.zero_le _,rfl,NewInv.start w m⟩
 case round =>
  obtain ⟨k,hk,rfl,hinv⟩:=hrel
  by_cases hlt:k < N
  ·obtain ⟨v,xs,hb,hown,hmp,hxs,hmod,hsz⟩:=hinv
   have c0:=cell_of (i:=0) hb rfl
   have f0:=frozen_of 0 hb
   have HB:=zh hb
   have HO:=zh hown
   have HMp:=zh hmp
   have HX:=zh hxs
   have HMod:=zh hmod
   clear hb hown hmp hxs hmod
   go_wp2_with fail
   have hS0:wr.drew.cell? ⟨w.heap.size+1,0,none⟩=some v:=c0
   have m1:Mod No wr (wr.alloc (.cells (madeCells #[.int .u8 0] m) 5)).drew:=((Mod.refl No wr).alloc _).drew
   have m2:Mod No wr ((wr.alloc (.cells (madeCells #[.int .u8 0] m) 5)).alloc (.cells #[.slice (some ⟨wr.heap.size,0,none⟩) m m] 41)).drew:=(((Mod.refl No wr).alloc _).alloc _).drew
   have hS1:=m1.cell c0 (fun f=>f)
   have hS2:=m2.cell c0 (fun f=>f)
   have hown2:(((wr.alloc (.cells (madeCells #[.int .u8 0] m) 5)).alloc (.cells #[.slice (some ⟨wr.heap.size,0,none⟩) m m] 41)).drew).ownsRow (w.heap.size+2) 41 1 v k xs:=((HO.out.alloc _).alloc _).drew
   have hslU:Sl (((wr.alloc (.cells (madeCells #[.int .u8 0] m) 5)).alloc (.cells #[.slice (some ⟨wr.heap.size,0,none⟩) m m] 41)).drew) No 41 (.slice (some ⟨wr.heap.size+1,0,none⟩) 1 1) 1 [.slice (some ⟨wr.heap.size,0,none⟩) m m]:=by
    refine .inr ⟨wr.heap.size+1,0,1,#[.slice (some ⟨wr.heap.size,0,none⟩) m m],(0,0),rfl,Nat.le_refl _,by unfold maxLen;omega,fun f=>f,?_,by simp,fun i hi=>by simp at hi;subst hi;rfl⟩
    exact heap_at_new _ _ (by simp)
   have hbase:w.heap.size+2<=(((wr.alloc (.cells (madeCells #[.int .u8 0] m) 5)).alloc (.cells #[.slice (some ⟨wr.heap.size,0,none⟩) m m] 41)).drew).heap.size:=by simp;omega
   have HS:=zh hslU
   have HO2:=zh hown2
   have HM2:=zh m2
   have HBa:=zh hbase
   clear hslU hown2 m1 m2 hbase
   refine wp_region_T (fun w'=>w'.cell? ⟨w.heap.size+1,0,none⟩=some v) 14 (by kernel_rfl) ?_
   refine yR 0 14 hS0 ?_
   refine yR 1 15 hS0 ?_
   refine yR 2 16 hS0 ?_
   refine yR 3 17 hS0 ?_
   refine yR 4 18 hS0 ?_
   refine yR 5 19 hS0 ?_
   refine yR 6 20 hS0 ?_
   refine wpAnyT_one 7 rfl (by kernel_rfl) rfl ?_
   intro K hK
   go_simp
   (go_at_call 25;refine (HZH.out _).mono ?_;rintro e w' ⟨rfl,rfl⟩)
   show K _ _
   refine hK.out _ _ (fun _=>hS0) ?_
   clear hK K
   refine wpAnyT_one 8 rfl (by kernel_rfl) rfl ?_
   intro K hK
   go_simp
   show K _ _
   refine hK.out _ _ (fun _=>hS1) ?_
   clear hK K
   refine wpAnyT_one 9 rfl (by kernel_rfl) rfl ?_
   intro K hK
   go_simp
   show K _ _
   refine hK.out _ _ (fun _=>hS2) ?_
   clear hK K
   refine wpAnyT_one 10 rfl (by kernel_rfl) rfl ?_
   intro K hK
   refine wp_app_sl _ (.tmp 19) (.tmp 23) 69 (by rfl) (w.heap.size+2) 41 i0 (.slice none 0 0) 1 24 underlying69 hi hz0 hz1 hz2 rfl (by decide) v k xs (by rfl) HO2.out No 41 _ 1 [.slice (some ⟨wr.heap.size,0,none⟩) m m] (by rfl) HS.out rfl (by simp [Value.oneCell']) (by unfold maxLen;omega) (by omega) HBa.out ?_
   intro v' w4 hown4 hgr4 _
   obtain ⟨g4,cap4,rfl,hg4⟩:=own_shape hown4 (by omega)
   have hne4:v.ownBlock ≠ some (w.heap.size+1):=fun e=>by have:=(HO.out.lt _ e).1;omega
   have h4:=HM2.out.keep HB.out (fun f=>f)
   have m4:Mod (fun q=>v.ownBlock=some q) wr w4:=(HM2.out.weaken (fun _ _ f=>f.elim)).trans (Mod.of_grown hgr4 (fun q e _=>e))
   have h4:=m4.keep HB.out hne4
   have c4:=cell_of (i:=0) h4 rfl
   have f4:=frozen_of 0 h4
   have H4:=zh h4
   have HM4:=zh m4
   have HO4:=zh hown4
   have HG4:=zh hgr4
   clear h4 m4 hown4 hgr4 hne4
   refine hK.out _ _ (fun _=>c4) ?_
   clear hK K
   refine wpAnyT_one 11 rfl (by kernel_rfl) rfl ?_
   intro K hK
   go_simp
   show K _ _
   refine hK.out _ _ (fun _=>c4) ?_
   clear hK K
   refine wpAnyT_one 12 rfl (by kernel_rfl) rfl ?_
   intro K hK
   go_simp
   show K _ _
   refine hK.out _ _ (fun _=>c4) ?_
   clear hK K
   refine wpAnyT_one 13 rfl (by kernel_rfl) rfl ?_
   intro K hK
   go_simp
   show K _ _
   refine hK.out _ _ (fun _=>c4) ?_
   clear hK K
   refine wpAnyT_one 14 rfl (by kernel_rfl) rfl ?_
   intro K hK
   go_simp
   show K _ _
   refine hK.out _ _ (fun h=>absurd rfl h) ?_
   clear hK K
   refine wpAnyT_done (by kernel_rfl) ?_ _
   go_wp2
   refine ⟨⟨k+1,by omega,by go_num,?_⟩,by simp [intOf];omega⟩
   have hne4:(Value.slice (some ⟨g4,0,none⟩) (k+1) cap4).ownBlock ≠ some (w.heap.size+1):=fun e=>by
    have:=(HO4.out.lt _ e).1;omega
   have hother:∀ q,q < wr.heap.size->v.ownBlock ≠ some q->q ≠ w.heap.size+1->(w4.setCell ⟨w.heap.size+1,0,none⟩ (.slice (some ⟨g4,0,none⟩) (k+1) cap4)).heap[q]? = wr.heap[q]?:=fun q hq h1 h2=>by
    rw [heap_setCell_ne _ h2,HM4.out.block q hq h1]
   have hmodS:Mod (fun q=>v.ownBlock=some q\/q=w.heap.size+1) wr (w4.setCell ⟨w.heap.size+1,0,none⟩ (.slice (some ⟨g4,0,none⟩) (k+1) cap4)) :=
    (HM4.out.weaken fun _ _ e=>.inl e).setCell (fun _=>.inr rfl) _
   have hvB:∀ q,v.ownBlock=some q->w.heap.size+2<=q:=fun q e=>(HO.out.lt _ e).1
   have hnb:Beside wr (fun q=>q < w.heap.size) (fun q=>v.ownBlock=some q\/q=w.heap.size+1):=fun q hq=>.inr fun cur fz e=>by
    rcases hq with hq | hq
    ·obtain ⟨_,⟨rfl,_⟩ | ⟨g,cap,cur',rfl,_,hh,_⟩⟩:=HO.out
     ·simp [Value.ownBlock] at hq
     ·simp [Value.ownBlock] at hq
      subst hq;rw [hh] at e;cases e
    ·have:=HB.out
     subst hq;rw [this] at e;cases e
   refine ⟨.slice (some ⟨g4,0,none⟩) (k+1) cap4,xs++[.slice (some ⟨wr.heap.size,0,none⟩) m m],?_,?_,?_,fun j hj=>?_,?_,?_⟩
   ·rw [heap_setCell H4.out];rfl
   ·exact ownsRow_setCell_other HO4.out hne4 _
   ·exact HMp.out.keep hmodS (fun e=>e.elim (fun e=>by have:=hvB _ e;omega) (fun e=>by omega))
   ·have hxl:xs.length=k:=by have:=HO.out.1;simpa using this
    by_cases e:k=j
    ·subst e
     refine ⟨.slice (some ⟨wr.heap.size,0,none⟩) m m,by rw [List.getElem?_append_right (by omega)];simp [hxl],?_⟩
     have hU:Sl (((wr.alloc (.cells (madeCells #[.int .u8 0] m) 5)).alloc (.cells #[.slice (some ⟨wr.heap.size,0,none⟩) m m] 41)).drew) (fun q=>q < w.heap.size) 5 (.slice (some ⟨wr.heap.size,0,none⟩) m m) m (bv (List.replicate m 0)):=by
      refine .inr ⟨wr.heap.size,0,m,(bv (List.replicate m 0)).toArray,(0,0),rfl,Nat.le_refl _,by unfold maxLen;omega,by omega,?_,by simp,fun i hi=>by simp⟩
      show ((wr.alloc _).alloc _).heap[wr.heap.size]? = _
      rw [<- madeBytes]
      exact heap_alloc_old _ (heap_alloc_new _ _)
     have hm5:Mod (fun q=>v.ownBlock=some q\/q=w.heap.size+1) (((wr.alloc (.cells (madeCells #[.int .u8 0] m) 5)).alloc (.cells #[.slice (some ⟨wr.heap.size,0,none⟩) m m] 41)).drew) (w4.setCell ⟨w.heap.size+1,0,none⟩ (.slice (some ⟨g4,0,none⟩) (k+1) cap4)) :=
      (Mod.of_grown HG4.out (fun q e _=>.inl e)).setCell (fun _=>.inr rfl) _
     refine hU.keep hm5 fun q cur fz hq _ e=>?_
     rcases hq with hq | hq
     ·obtain ⟨_,⟨rfl,_⟩ | ⟨g,cap,cur',rfl,_,hh,_⟩⟩:=HO2.out
      ·simp [Value.ownBlock] at hq
      ·simp [Value.ownBlock] at hq
       subst hq;rw [hh] at e;cases e
     ·have hb2:=HM2.out.keep HB.out (fun f=>f)
      subst hq;rw [hb2] at e;cases e
    ·obtain ⟨u,hu,hsl⟩:=HX.out j (by omega)
     exact ⟨u,by rw [List.getElem?_append_left (by omega)];exact hu,hsl.beside hmodS hnb⟩
   ·exact HMod.out.then hmodS (fun q hq e=>e.elim (fun e=>by have:=hvB _ e;omega) (fun e=>by omega))
   ·have:=hmodS.size;omega
  ·have hk2:k=N:=by omega
   have HI:=zh hinv
   have HK:=zh hk2
   clear hinv hk2
   go_wp2
   refine fin hR ⟨N,m,rfl,HN.out.symm,HM.out.symm,?_⟩
   rw [<- HK.out]
   exact HI.out
def Dk.new (n size:Int):Dk:={ n:=(min (max n 1) 4096).toNat,sz:=(min (max size 64) 4096).toNat,sure:=fun _=>List.replicate (min (max size 64) 4096).toNat 0,dirty:=fun _=>none,cut:=-1,dead:=false }
theorem disk_new (X:Nat->Prop) (n size:Int) (w:World) (hX:∀ k,X k->k < w.heap.size) :
  Calls prog 9 #[.int .i64 n,.int .i64 size] w fun e w'=>∃ b sb mb,e=.returned (.pointer (some ⟨b,0,none⟩))/\w.heap.size<=b/\w.heap.size<=sb/\w.heap.size<=mb/\DkAt w' X b sb mb (Dk.new n size)/\Mod No w w':=by
 refine (new_any n size w).mono ?_
 rintro e w' ⟨N,m,rfl,hN,hm,v,xs,hb,hown,hmp,hxs,hmod,hsz⟩
 have e1:(min (max n 1) 4096).toNat=N:=by omega
 have e2:(min (max size 64) 4096).toNat=m:=by omega
 have hN0:0 < N:=by omega
 have hN2:N<=4096:=by omega
 have hm1:64<=m:=by omega
 have hm2:m<=4096:=by omega
 clear hN hm
 obtain ⟨hlen,⟨_,h0⟩ | ⟨g,cap,cur,rfl,hg,hh,hcap,hmax,hcur,htake⟩⟩:=hown
 ·omega
 refine ⟨w.heap.size+1,g,w.heap.size,rfl,by omega,by omega,Nat.le_refl _,?_,hmod⟩
 unfold Dk.new
 rw [e1,e2]
 refine ⟨⟨cap,hb,hcap,hmax⟩,⟨cur,hh,by rw [hcur];show N<=cap*1;omega,fun i hi=>?_⟩,⟨.map [],hmp,(fun kl h=>by simp [Maps.has_eq] at h),(fun _ _ _=>by simp [Maps.has_eq]),(fun _ _ _ h=>by cases h)⟩,(fun _ _=>by simp),
  (fun _ _ _ h=>by cases h),hN0,hN2,hm1,hm2,by simp,by simp⟩
 obtain ⟨u,hu,hsl⟩:=hxs i hi
 refine ⟨u,?_,hsl.shrink fun k _ hk=>hX k hk⟩
 rw [<- htake,List.getElem?_take] at hu
 split at hu
 ·simpa using hu
 ·cases hu
def pref (q l:List UInt8):Bool:=decide (l.take q.length=q)
theorem slice_str (l:List UInt8) (n:Nat) (hn:n<=l.length) (W:World):(Instr.slice 9 (.string ⟨l.toArray⟩) none (some (.int .i64 (n:Int))) none).run prog W=.ok (.string ⟨(l.take n).toArray⟩) W:=by
 rw [run_slice_string_h W 9 _ underlying9 .i64 (n:Int) (by omega) (by rw [str_size_list];omega)]
 congr 2
 apply ByteArray.ext
 apply Array.toList_inj.1
 rw [Lib.extract_data]
 simp
set_option maxRecDepth 100000 in
theorem lpref_any (q l:List UInt8) (w:World) :
  Calls prog 172 #[.string ⟨l.toArray⟩,.string ⟨q.toArray⟩] w fun e w'=>e=.returned (.bool (pref q l))/\w'=w:=by
 refine calls_hide fun R hR=>?_
 have h1:=str_size_list l
 have h2:=str_size_list q
 by_cases h:q.length<=l.length
 ·have hs:=slice_str l q.length h w
  have HP:=zh (show pref q l=((⟨(l.take q.length).toArray⟩:ByteArray).toList == (⟨q.toArray⟩:ByteArray).toList) by
   unfold pref
   rw [ByteArray.toList_eq,ByteArray.toList_eq,Bool.eq_iff_iff]
   simp)
  generalize hL:(⟨l.toArray⟩:ByteArray)=L at *
  generalize hQ:(⟨q.toArray⟩:ByteArray)=Q at *
  generalize hT:(⟨(l.take q.length).toArray⟩:ByteArray)=T at *
  rw [<- h2] at hs
  have hle:(Q.size:Int)<=(L.size:Int):=by omega
  clear hL hQ hT h1 h2 h
  go_enter func172,ntmps172
  go_wp2_with fail
  exact fin hR ⟨by rw [HP.out];rfl,rfl⟩
 ·have HP:=zh (show pref q l=false by
   unfold pref
   refine decide_eq_false fun e=>h ?_
   have:=congrArg List.length e
   rw [List.length_take] at this;omega)
  generalize hL:(⟨l.toArray⟩:ByteArray)=L at *
  generalize hQ:(⟨q.toArray⟩:ByteArray)=Q at *
  have hle:(L.size:Int) < (Q.size:Int):=by omega
  clear hL hQ h1 h2 h
  go_enter func172,ntmps172
  go_wp2_with fail
  exact fin hR ⟨by rw [HP.out];rfl,rfl⟩
theorem pref_any (q l:List UInt8) (w:World) :
  Calls prog 113 #[.string ⟨l.toArray⟩,.string ⟨q.toArray⟩] w fun e w'=>e=.returned (.bool (pref q l))/\w'=w:=by
 refine calls_hide fun R hR=>?_
 have HC:=zh (lpref_any q l w)
 generalize (⟨l.toArray⟩:ByteArray)=L at *
 generalize (⟨q.toArray⟩:ByteArray)=Q at *
 go_enter func113,ntmps113
 go_wp2_with fail
 with_reducible refine HC.out.mono ?_
 rintro e w' ⟨rfl,h2⟩
 subst h2
 go_wp2_with fail
 exact fin hR ⟨rfl,rfl⟩
end Go.Proofs.YtmppeipgjcjdkaaGreatDoor
namespace Go.Proofs.YtmppeipgjcjdkaaGreatDoor
open _root_.Go.Proofs.Tryz
open Go.RowKit
set_option maxRecDepth 100000 in
set_option maxHeartbeats 1000000 in
theorem rtry_num_failed {q:Nat} {v c1 c2:Value} {L:List UInt8} {w:World} (h:RdAt w q v L true) :
  Calls prog 129 #[.pointer (some ⟨q,0,none⟩),.func (.func 153) #[] #[c1,c2]] w fun e w'=>e=.returned (.bool false)/\Mod No w w':=by
 refine calls_hide fun R hR=>?_
 have hmf:∀ (fn:Fn) (first cap:Array Value) (w:World),(Instr.makeFunc fn first cap).run prog w=.ok (.func fn first cap) w:=fun _ _ _ _=>rfl
 have hql:=lt_of_heap h.obj
 obtain ⟨w1,hw1⟩:∃ w1,w1=(w.alloc (.cells #[.pointer (some ⟨q,0,none⟩)] 139)).alloc (.cells #[.bool false] 4):=⟨_,rfl⟩
 have m1:Mod No w w1:=by rw [hw1];exact ((Mod.refl No w).alloc _).alloc _
 have cq:=cell_of (i:=1) h.obj rfl
 have R3:=zh m1
 clear m1 h
 go_enter_defers func129,ntmps129
 subst hw1
 go_wp2_with fail
 refine ⟨.bool false,?_,?_⟩
 ·simp [results,results129,go_sem]
 ·exact fin hR ⟨rfl,R3.out⟩
set_option maxRecDepth 100000 in
set_option maxHeartbeats 1000000 in
theorem rtry_num {q:Nat} {v c1 c2:Value} {L:List UInt8} {w:World} (h:RdAt w q v L false) (S:Nat->Prop) (Yes:World->Prop) (Nay:Prop) (hS:∀ i,S i->i < w.heap.size)
  (hf:∀ w1,Mod No w w1->Calls prog 153 #[c1,c2] w1 fun e w'=>Mod S w1 w'/\((e=.returned (.tuple #[])/\Yes w')\/(e=StoppedC/\Nay/\∃ v L',RdAt w' q v L' false))) :
  Calls prog 129 #[.pointer (some ⟨q,0,none⟩),.func (.func 153) #[] #[c1,c2]] w fun e w'=>∃ wy,Mod S w wy ∧
   ((e=.returned (.bool true)/\Yes wy/\wy.heap[w.heap.size+1]? = some (.cells #[.bool false] 4 (0,0))/\Mod (fun i=>i=w.heap.size+1) wy w')\/(e=.returned (.bool false)/\Nay/\(∃ v L',RdAt w' q v L' true)/\Mod (fun i=>i=w.heap.size+1\/i=q) wy w')):=by
 refine calls_hide fun R hR=>?_
 have hmf:∀ (fn:Fn) (first cap:Array Value) (w:World),(Instr.makeFunc fn first cap).run prog w=.ok (.func fn first cap) w:=fun _ _ _ _=>rfl
 have hql:=lt_of_heap h.obj
 obtain ⟨w1,hw1⟩:∃ w1,w1=(w.alloc (.cells #[.pointer (some ⟨q,0,none⟩)] 139)).alloc (.cells #[.bool false] 4):=⟨_,rfl⟩
 have m1:Mod No w w1:=by rw [hw1];exact ((Mod.refl No w).alloc _).alloc _
 have hp:w1.heap[w.heap.size]? = some (.cells #[.pointer (some ⟨q,0,none⟩)] 139 (0,0)):=by
  rw [hw1];exact heap_alloc_old _ (heap_alloc_new w _)
 have hk:w1.heap[w.heap.size+1]? = some (.cells #[.bool false] 4 (0,0)):=by
  rw [hw1];exact heap_at_new _ _ (by simp)
 have cq:=cell_of (i:=1) h.obj rfl
 have HF:=zh (hf w1 m1)
 have HW1:=zh hw1
 have M1:=zh m1
 have HP:=zh hp
 have HK:=zh hk
 have HS:=zh hS
 clear hf hw1 m1 hp hk hS h
 go_enter_defers func129,ntmps129
 go_wp2_with fail
 rw [<- HW1.out]
 refine HF.out.mono ?_
 clear HF
 rintro e wy ⟨hmy,hcase⟩
 have hpy:=hmy.keep HP.out (fun e=>by have:=HS.out _ e;omega)
 have hky:=hmy.keep HK.out (fun e=>by have:=HS.out _ e;omega)
 have MY:=zh (show Mod S w wy from (M1.out.weaken fun _ _ f=>f.elim).trans hmy)
 have HPY:=zh hpy
 clear HW1
 rcases hcase with ⟨rfl,hy⟩ | ⟨rfl,hna,v',L',hn⟩
 ·have HY:=zh (And.intro hy hky)
  have k0:=cell_of (i:=0) hky rfl
  have kf:=frozen_of 0 hky
  have R2:=zh (cell_of (i:=0) (heap_setCell hky (i:=0) (.bool true)) rfl)
  have R3:=zh (show Mod (fun i=>i=w.heap.size+1) wy (wy.setCell ⟨w.heap.size+1,0,none⟩ (.bool true)) from (Mod.refl (fun i=>i=w.heap.size+1) wy).setCell (fun _=>rfl) _)
  clear hy hpy hky
  go_wp2_with fail
  refine leaves_cons (f:=180) (args:=#[.pointer (some ⟨w.heap.size,0,none⟩),.pointer (some ⟨w.heap.size+1,0,none⟩)]) (by simp) (by simp [go_sem]) ?_
  refine (rstop_idle _ _ _).mono ?_
  rintro e u' w'' ⟨rfl,rfl,rfl⟩
  have r2:=R2.out
  refine ⟨.bool true,?_,?_⟩
  ·simp [results,results129,go_sem,r2]
  ·exact fin hR ⟨wy,MY.out,.inl ⟨rfl,HY.out.1,HY.out.2,R3.out⟩⟩
 ·have HN:=zh hn
  have HNA:=zh hna
  have HKY:=zh hky
  clear hn hna hky hpy
  go_wp2_with fail
  refine leaves_cons (f:=180) (args:=#[.pointer (some ⟨w.heap.size,0,none⟩),.pointer (some ⟨w.heap.size+1,0,none⟩)]) (by simp) (by simp [go_sem]) ?_
  refine (rstop_caught _ _ q _ _ _ _ HPY.out HKY.out HN.out.obj).mono ?_
  rintro e u' w'' ⟨rfl,rfl,r1,r2,hm⟩
  have hrd:=rtry_set HN.out r2 hm (fun i cur fz s e=>by
   rcases s with s | s
   ·subst s;have h:=HKY.out;rw [h] at e;cases e
   ·subst s;have h:=HN.out.obj;rw [h] at e;cases e)
  have r1:=cell_of (i:=0) r1 rfl
  refine ⟨.bool false,?_,?_⟩
  ·simp [results,results129,go_sem,r1]
  ·exact fin hR ⟨wy,MY.out,.inr ⟨rfl,HNA.out,⟨_,_,hrd⟩,hm⟩⟩
def RnumPost (w:World) (q:Nat) (L:List UInt8) (e:Ending) (w':World):Prop :=
 Mod (fun k=>k=q) w w'/\((∃ (o:Nat) (L':List UInt8) (v:Value),rdNum L=some (o,L')/\e=.returned (.int .u64 ((o:Nat):Int))/\RdAt w' q v L' false)\/(rdNum L=none/\e=.returned (.int .u64 0)/\∃ v L',RdAt w' q v L' true))
set_option maxRecDepth 100000 in
set_option maxHeartbeats 1000000 in
theorem cnum_any {w:World} {q p k:Nat} {v0 x:Value} {L:List UInt8} (h:RdAt w q v0 L false) (hL:L.length<=1000000000) (hp:w.heap[p]? = some (.cells #[.pointer (some ⟨q,0,none⟩)] 139 (0,0))) (hk:w.heap[k]? = some (.cells #[x] 130 (0,0))) (hx:∃ o:Nat,x=.int .u64 ((o:Nat):Int)) :
  Calls prog 153 #[.pointer (some ⟨p,0,none⟩),.pointer (some ⟨k,0,none⟩)] w fun e w'=>Mod (fun i=>i=q\/i=k) w w' ∧
   ((e=.returned (.tuple #[])/\∃ (o:Nat) (L':List UInt8) (v:Value),rdNum L=some (o,L')/\RdAt w' q v L' false/\w'.heap[k]? = some (.cells #[.int .u64 ((o:Nat):Int)] 130 (0,0)))\/(e=StoppedC/\rdNum L=none/\∃ v L',RdAt w' q v L' false)):=by
 refine calls_hide fun R hR=>?_
 obtain ⟨o0,rfl⟩:=hx
 have pc:=cell_of (i:=0) hp rfl
 have HI:=zh (num_any h hL)
 have HK:=zh hk
 have hqk:k ≠ q:=fun e=>by subst e;rw [h.obj] at hk;cases hk
 clear h hp hk hL
 go_enter func153,ntmps153
 go_wp2_with fail
 with_reducible refine HI.out.mono ?_
 clear HI
 rintro e w1 ⟨hm,v,L',hrd,⟨o,hn,rfl,-⟩ | ⟨hn,rfl⟩⟩
 ·have hk1:=hm.keep HK.out hqk
  have kc:=cell_of (i:=0) hk1 rfl
  have kf:=frozen_of 0 hk1
  have hms:Mod (fun i=>i=k) w1 (w1.setCell ⟨k,0,none⟩ (.int .u64 ((o:Nat):Int))):=(Mod.refl (fun i=>i=k) w1).setCell (fun _=>rfl) _
  have R1:=zh (show Mod (fun i=>i=q\/i=k) w (w1.setCell ⟨k,0,none⟩ (.int .u64 ((o:Nat):Int))) from (hm.weaken fun _ _ e=>.inl e).trans (hms.weaken fun _ _ e=>.inr e))
  have R2:=zh (And.intro hn (And.intro (hrd.keep hms (fun e=>hqk e.symm) (fun i cur fz s e=>by subst s;rw [hk1] at e;cases e)) (heap_setCell hk1 (i:=0) (.int .u64 ((o:Nat):Int)))))
  clear hm hrd hk1 hms hn
  go_wp2_with fail
  go_end0
  exact fin hR ⟨R1.out,.inl ⟨rfl,_,_,_,R2.out.1,R2.out.2.1,R2.out.2.2⟩⟩
 ·have HX:=zh (And.intro hm (And.intro hn hrd))
  clear hm hn hrd
  go_wp2_with fail
  exact ⟨rfl,fin hR ⟨HX.out.1.weaken fun _ _ e=>.inl e,.inr ⟨rfl,HX.out.2.1,_,_,HX.out.2.2⟩⟩⟩
set_option maxRecDepth 100000 in
set_option maxHeartbeats 1000000 in
theorem rnum_ok {w:World} {q:Nat} {v0:Value} {L:List UInt8} (h:RdAt w q v0 L false) (hL:L.length<=1000000000) :
  Calls prog 94 #[.pointer (some ⟨q,0,none⟩)] w (RnumPost w q L):=by
 refine calls_hide fun R hR=>?_
 have hmf:∀ (fn:Fn) (first cap:Array Value) (w:World),(Instr.makeFunc fn first cap).run prog w=.ok (.func fn first cap) w:=fun _ _ _ _=>rfl
 have hql:=lt_of_heap h.obj
 obtain ⟨w1,hw1⟩:∃ w1,w1=(w.alloc (.cells #[.pointer (some ⟨q,0,none⟩)] 139)).alloc (.cells #[.int .u64 0] 130):=⟨_,rfl⟩
 have m1:Mod No w w1:=by rw [hw1];exact ((Mod.refl No w).alloc _).alloc _
 have hz1:w1.heap.size=w.heap.size+2:=by rw [hw1];simp
 have hp:w1.heap[w.heap.size]? = some (.cells #[.pointer (some ⟨q,0,none⟩)] 139 (0,0)):=by
  rw [hw1];exact heap_alloc_old _ (heap_alloc_new w _)
 have hk:w1.heap[w.heap.size+1]? = some (.cells #[.int .u64 0] 130 (0,0)):=by
  rw [hw1];exact heap_at_new _ _ (by simp)
 have HT:=zh (rtry_num (c1:=.pointer (some ⟨w.heap.size,0,none⟩)) (c2:=.pointer (some ⟨w.heap.size+1,0,none⟩)) (h.stay m1) (fun i=>i=q\/i=w.heap.size+1) (fun wy=>∃ (o:Nat) (L':List UInt8) (v:Value),rdNum L=some (o,L')/\RdAt wy q v L' false/\wy.heap[w.heap.size+1]? = some (.cells #[.int .u64 ((o:Nat):Int)] 130 (0,0))) (rdNum L=none) (fun i e=>by omega)
  (fun w2 hm2=>cnum_any ((h.stay m1).stay hm2) hL (hm2.keep hp (fun f=>f)) (hm2.keep hk (fun f=>f)) ⟨0,rfl⟩))
 have pc:=cell_of (i:=0) hp rfl
 have M1:=zh m1
 have HW1:=zh hw1
 have HZ:=zh hz1
 have HL2:=zh h
 clear hw1 m1 hz1 hp hk h hL
 go_enter func94,ntmps94
 go_wp2_with fail
 rw [<- HW1.out]
 with_reducible refine HT.out.mono ?_
 clear HT
 rintro e w2 ⟨wy,hmy,⟨rfl,⟨o,L',v,hn,hrd,hk⟩,hok,hm2⟩ | ⟨rfl,hn,⟨v,L',hrd⟩,hm2⟩⟩
 ·have hk2:=hm2.keep hk (by have:=HZ.out;omega)
  have kc:=cell_of (i:=0) hk2 rfl
  have HX:=zh (show Mod (fun i=>i=q) w w2/\rdNum L=some (o,L')/\RdAt w2 q v L' false from ⟨((M1.out.weaken fun _ _ f=>f.elim:Mod (fun i=>i=q) w w1).then hmy (fun i hi e=>by omega)).then hm2 (fun i hi e=>by have:=HZ.out;omega),hn,hrd.keep hm2 (fun e=>by have:=HZ.out;omega) (fun i cur fz s e=>by subst s;rw [hok] at e;cases e)⟩)
  clear hmy hm2 hn hrd hk hk2 hok HW1
  go_wp2_with fail
  exact fin hR ⟨HX.out.1,.inl ⟨_,_,_,HX.out.2.1,rfl,HX.out.2.2⟩⟩
 ·have HX:=zh (show Mod (fun i=>i=q) w w2/\rdNum L=none/\RdAt w2 q v L' true from ⟨((M1.out.weaken fun _ _ f=>f.elim:Mod (fun i=>i=q) w w1).then hmy (fun i hi e=>by omega)).then hm2 (fun i hi e=>by have:=HZ.out;omega),hn,hrd⟩)
  clear hmy hm2 hn hrd HW1
  go_wp2_with fail
  exact fin hR ⟨HX.out.1,.inr ⟨HX.out.2.1,rfl,_,_,HX.out.2.2⟩⟩
set_option maxRecDepth 100000 in
theorem rnum_failed {w:World} {q:Nat} {v0:Value} {L:List UInt8} (h:RdAt w q v0 L true) :
  Calls prog 94 #[.pointer (some ⟨q,0,none⟩)] w fun e w'=>e=.returned (.int .u64 0)/\Mod No w w':=by
 refine calls_hide fun R hR=>?_
 have hmf:∀ (fn:Fn) (first cap:Array Value) (w:World),(Instr.makeFunc fn first cap).run prog w=.ok (.func fn first cap) w:=fun _ _ _ _=>rfl
 have hql:=lt_of_heap h.obj
 obtain ⟨w1,hw1⟩:∃ w1,w1=(w.alloc (.cells #[.pointer (some ⟨q,0,none⟩)] 139)).alloc (.cells #[.int .u64 0] 130):=⟨_,rfl⟩
 have m1:Mod No w w1:=by rw [hw1];exact ((Mod.refl No w).alloc _).alloc _
 have HT:=zh (rtry_num_failed (c1:=.pointer (some ⟨w.heap.size,0,none⟩)) (c2:=.pointer (some ⟨w.heap.size+1,0,none⟩)) (h.stay m1))
 have M1:=zh m1
 have HW1:=zh hw1
 clear hw1 m1 h
 go_enter func94,ntmps94
 go_wp2_with fail
 rw [<- HW1.out]
 with_reducible refine HT.out.mono ?_
 clear HT
 rintro e w2 ⟨rfl,hm2⟩
 have M2:=zh (M1.out.trans hm2)
 clear hm2 HW1
 go_wp2_with fail
 exact fin hR ⟨rfl,M2.out⟩
end Go.Proofs.YtmppeipgjcjdkaaGreatDoor
namespace Go.Proofs.YtmppeipgjcjdkaaGreatDoor
open _root_.Go.Proofs.Tryz
open Go.RowKit Go.Maps
theorem SvX.keepM {S X:Nat->Prop} {w w':World} {v:Value} {n:Nat} {xs:List Value} (h:SvX w X v n xs) (hm:Mod S w w') (hs:∀ (k:Nat) (cur:Array Value) (e:TypeId) (fz:Nat × Nat),S k->w.heap[k]? ≠ some (.cells cur e fz)):SvX w' X v n xs :=
 ⟨h.1,h.2.imp id fun ⟨e,h⟩=>⟨e,h.keep hm fun k cur fz a _ hc=>hs k cur e fz a hc⟩⟩
set_option maxRecDepth 100000 in
set_option maxHeartbeats 1000000 in
theorem clone_sv (v:Value) (l:List Value) (w:World) (h:SvX w No v l.length l) (h1:∀ u ∈ l,u.oneCell'=true) (hsz:l.length<=140737488355328) :
  Calls prog 81 #[v] w fun e w'=>(∃ v',e=.returned v'/\w'.ownsRow w.heap.size 5 1 v' l.length l)/\Mod No w w':=by
 obtain ⟨i0,hi,hz0,hz1,hz2⟩:=info_parts info_u8
 refine calls_hide fun R hR=>?_
 obtain ⟨⟨a,c,rfl⟩,h⟩:=h
 have e1:=Lib.run_eql_slice_nil (P:=prog)
 cases a with
 | none =>
  have hl:l=[]:=by
   rcases h with ⟨_,h⟩ | ⟨e,⟨_,_,h⟩ | ⟨blk,o,c,cur,fz,hv,_⟩⟩
   ·exact h
   ·exact h
   ·cases hv
  subst hl
  clear h
  go_enter func81,ntmps81
  go_wp2
  exact fin hR ⟨⟨.slice none 0 0,rfl,World.ownsRow_nil _ _ _ _⟩,Mod.refl _ _⟩
 | some ad =>
  have hown:(w.alloc (.cells #[] 5)).ownsRow w.heap.size 5 1 (.slice (some ⟨w.heap.size,0,none⟩) 0 0) 0 []:=World.ownsRow_lit w #[] 0 (Nat.le_refl _) (by unfold maxLen;omega) rfl
  have HO:=zh hown
  clear hown
  have key:∀ (u:Value) (W:World),W.ownsRow w.heap.size 5 1 u l.length l->(w.alloc (.cells #[] 5)).grownBy W (some w.heap.size)->R (.returned u) W:=fun u W h1 h2 =>
   fin hR ⟨⟨u,rfl,h1⟩,((Mod.refl No w).alloc _).then (Mod.of_grown (S:=fun k=>k=w.heap.size) h2 (by rintro k ⟨⟩ _;rfl)) (fun i hi e=>by subst e;omega)⟩
  have HK:=zh key
  clear key
  rcases h with ⟨hn,h⟩ | ⟨e,h⟩
  ·subst h
   go_enter func81,ntmps81
   go_wp2_with (at_builtin;refine wpList_append_own _ rfl _ _ 41 rfl w.heap.size 5 i0 (.int .u8 0) 1 1 underlying41 hi hz0 hz1 hz2 rfl (by decide) _ _ _ rfl HO.out ad 0 c [] rfl rfl (fun j u hu=>by simp at hu) (fun u hu=>by cases hu) ?_ ?_ ?_ ?_)
   ·unfold maxLen;omega
   ·omega
   ·simp
   intro v' w1 hown' hg _
   have HO':=zh hown'
   have HG:=zh hg
   clear hown' hg
   go_wp2
   exact HK.out _ _ HO'.out HG.out
  ·have hsl:Sl (w.alloc (.cells #[] 5)) No e (.slice (some ad) l.length c) l.length l:=h.keep (S:=No) ((Mod.refl No w).alloc _) (fun _ _ _ f=>f.elim)
   have HS:=zh hsl
   clear hsl h
   go_enter func81,ntmps81
   go_wp2_with (at_builtin;refine app_sl _ rfl _ _ 41 rfl w.heap.size 5 i0 (.int .u8 0) 1 1 underlying41 hi hz0 hz1 hz2 rfl (by decide) _ _ _ rfl HO.out No e _ _ _ rfl HS.out ?_ h1 ?_ ?_ ?_ ?_)
   ·simp
   ·unfold maxLen;omega
   ·omega
   ·simp
   intro v' w1 hown' hg _
   have HO':=zh (show w1.ownsRow w.heap.size 5 1 v' l.length l by simpa using hown')
   have HG:=zh hg
   clear hown' hg
   go_wp2
   exact HK.out _ _ HO'.out HG.out
end Go.Proofs.YtmppeipgjcjdkaaGreatDoor
