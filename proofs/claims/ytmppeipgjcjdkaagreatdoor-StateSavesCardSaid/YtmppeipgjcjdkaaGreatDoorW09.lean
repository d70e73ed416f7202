/-
  Layers 0 to 14: helps of the laws of indexes. No statement is proved here; no condition.
-/
import Derived.Test.YtmppeipgjcjdkaaGreatDoorW07
import Derived.Test.YtmppeipgjcjdkaaGreatDoorW01
import Derived.Test.YtmppeipgjcjdkaaGreatDoorW05
import Derived.StringKeys
namespace Go.Proofs.YtmppeipgjcjdkaaGreatDoor
open _root_.Go.Proofs.Tryz
open Go.RowKit Go.Maps
abbrev Mt:=List UInt8->Option (List UInt8)
def Mt.put (M:Mt) (k v:List UInt8):Mt:=fun x=>if x=k then some v else M x
def Mt.del (M:Mt) (k:List UInt8):Mt:=fun x=>if x=k then none else M x
def Mt.change (M:Mt) (p:Pr):Mt:=if p.gone then M.del p.key else M.put p.key p.value
def Mt.changes (M:Mt) (l:List Pr):Mt:=l.foldl Mt.change M
structure SMp (w:World) (b n:Nat) (M:Mt):Prop where
 row:∃ D,Mp w 9 b D/\Maps.size D<=n/\∀ k,(M k=none->Maps.has D (.string k)=false)/\∀ v,M k=some v->Maps.has D (.string k)=true/\∀ zd,D.atKey (.string k) zd=.held (.string ⟨v.toArray⟩)
theorem key_str:Keyed prog 9:=string_keyed underlying9
theorem keyOf_str (k:List UInt8) (h:k.length<=1000000000):keyOf prog 9 (.string ⟨k.toArray⟩)=some (.string k):=by
 rw [Go.WideMaps.keyOf_string_mk underlying9 (by rw [str_size_list];unfold maxLen;omega)]
theorem isKey_str (k:List UInt8):WideAt.IsKeyLit (.string k):=trivial
theorem lit_str_ne {i j:List UInt8} (h:j ≠ i):Lit.string j ≠ .string i:=fun e=>h (by cases e;rfl)
theorem SMp.keep {S:Nat->Prop} {w w':World} {b n:Nat} {M:Mt} (h:SMp w b n M) (hm:Mod S w w') (hs:¬ S b):SMp w' b n M:=by
 obtain ⟨D,h1,h2,h3⟩:=h.row
 exact ⟨D,h1.keep hm hs,h2,h3⟩
theorem SMp.more {w:World} {b n m:Nat} {M:Mt} (h:SMp w b n M) (hn:n<=m):SMp w b m M:=by
 obtain ⟨D,h1,h2,h3⟩:=h.row
 exact ⟨D,h1,by omega,h3⟩
theorem SMp.lt {w:World} {b n:Nat} {M:Mt} (h:SMp w b n M):b < w.heap.size:=by
 obtain ⟨D,h1,-⟩:=h.row
 obtain ⟨es,c,hb⟩:=h1.heap
 exact lt_of_heap hb
theorem SMp.made (w:World):SMp (w.alloc (.map #[] 0)) w.heap.size 0 (fun _=>none) :=
 ⟨.map [],Mp.made w _,Nat.le_refl _,fun k=>⟨fun _=>by simp [Maps.has_eq],fun v h=>by cases h⟩⟩
theorem SMp.not_cells {w:World} {b n:Nat} {M:Mt} (h:SMp w b n M) (cur:Array Value) (t:TypeId) (fz:Nat × Nat):w.heap[b]? ≠ some (.cells cur t fz):=by
 obtain ⟨D,h1,-⟩:=h.row
 exact fun e=>by
  obtain ⟨es,c,hb⟩:=h1.heap
  rw [hb] at e;cases e
theorem SMp.putD {w':World} {b n:Nat} {M:Mt} {k v:List UInt8} {D:DataW Value} (hT:Tidy D) (h2:Maps.size D<=n) (h3:∀ k,(M k=none->Maps.has D (.string k)=false)/\∀ v,M k=some v->Maps.has D (.string k)=true/\∀ zd,D.atKey (.string k) zd=.held (.string ⟨v.toArray⟩))
  (hm:Mp w' 9 b (D.put (.string k) (.held (.string ⟨v.toArray⟩)))):SMp w' b (n+1) (M.put k v):=by
 have hD:IsMap D:=hT.isMap
 refine ⟨_,hm,?_,fun x=>⟨fun hx=>?_,fun u hx=>?_⟩⟩
 ·rw [size_put hT];split <;> omega
 ·by_cases e:x=k
  ·simp [Mt.put,e] at hx
  ·simp only [Mt.put,if_neg e] at hx
   rw [has_put_other (lit_str_ne e)]
   exact (h3 x).1 hx
 ·by_cases e:x=k
  ·subst e
   simp only [Mt.put,if_true] at hx
   cases hx
   exact ⟨has_put_same hD (isKey_str _) _,fun zd=>atKey_put_same hD (isKey_str _) _ zd⟩
  ·simp only [Mt.put,if_neg e] at hx
   rw [has_put_other (lit_str_ne e)]
   refine ⟨((h3 x).2 u hx).1,fun zd=>?_⟩
   rw [atKey_put_other (lit_str_ne e)]
   exact ((h3 x).2 u hx).2 zd
theorem SMp.delD {w':World} {b n:Nat} {M:Mt} {k:List UInt8} {D:DataW Value} (hT:Tidy D) (h2:Maps.size D<=n) (h3:∀ k,(M k=none->Maps.has D (.string k)=false)/\∀ v,M k=some v->Maps.has D (.string k)=true/\∀ zd,D.atKey (.string k) zd=.held (.string ⟨v.toArray⟩))
  (hm:Mp w' 9 b (D.del (.string k))):SMp w' b n (M.del k):=by
 refine ⟨_,hm,?_,fun x=>⟨fun hx=>?_,fun u hx=>?_⟩⟩
 ·have:=size_del hT (k:=.string k);omega
 ·by_cases e:x=k
  ·subst e;exact has_del_same
  ·simp only [Mt.del,if_neg e] at hx
   rw [has_del_other (lit_str_ne e)]
   exact (h3 x).1 hx
 ·by_cases e:x=k
  ·simp [Mt.del,e] at hx
  ·simp only [Mt.del,if_neg e] at hx
   rw [has_del_other (lit_str_ne e)]
   refine ⟨((h3 x).2 u hx).1,fun zd=>?_⟩
   rw [atKey_del_other (lit_str_ne e)]
   exact ((h3 x).2 u hx).2 zd
def prCells (l:List Pr):List Value:=l.flatMap fun p=>[.string ⟨p.key.toArray⟩,.string ⟨p.value.toArray⟩,.bool p.gone]
structure Prs (w:World) (X:Nat->Prop) (a:Option Addr) (l:List Pr):Prop where
 at_:∀ i (hi:i < l.length),∃ b o,a=some ⟨b,o,none⟩/\¬ X b/\w.cell? ⟨b,o+i*3,none⟩=some (.string ⟨l[i].key.toArray⟩)/\w.cell? ⟨b,o+i*3+1,none⟩=some (.string ⟨l[i].value.toArray⟩)/\w.cell? ⟨b,o+i*3+2,none⟩=some (.bool l[i].gone)
theorem Prs.keep {S X:Nat->Prop} {w w':World} {a:Option Addr} {l:List Pr} (h:Prs w X a l) (hm:Mod S w w') (hs:∀ k,S k->X k):Prs w' X a l :=
 ⟨fun i hi=>by
  obtain ⟨b,o,h1,hx,h2,h3,h4⟩:=h.at_ i hi
  have hn:¬ S b:=fun s=>hx (hs b s)
  exact ⟨b,o,h1,hx,hm.cell h2 hn,hm.cell h3 hn,hm.cell h4 hn⟩⟩
def ShortP (l:List Pr):Prop:=∀ p ∈ l,p.key.length<=10000000/\p.value.length<=10000000
set_option maxRecDepth 100000 in
set_option maxHeartbeats 4000000 in
theorem change_any {w:World} {b n:Nat} {M:Mt} {a:Option Addr} {c:Nat} {l:List Pr} (h:SMp w b n M) (hl:Prs w (fun k=>k=b) a l) (hsh:ShortP l) (hn:n+l.length<=1000000000) :
  Calls prog 24 #[.map (some b),.slice a l.length c] w fun e w'=>e=.returned (.tuple #[])/\SMp w' b (n+l.length) (M.changes l)/\Mod (fun k=>k=b) w w':=by
 refine calls_hide fun R hR=>?_
 have H:=zh h
 have HL:=zh hl
 have HS:=zh hsh
 clear h hl hsh
 go_enter func24,ntmps24
 go_wp2_with fail
 go_loopw [8] (fun q wr=>∃ i:Nat,i<=l.length/\q=.int .i64 i/\SMp wr b (n+i) (M.changes (l.take i))/\Mod (fun k=>k=b) w wr) (fun q _=>l.length - (intOf q).toNat)
 case atStart=>exact ⟨0,by omega,rfl,H.out,Mod.refl _ _⟩
 case round =>
  obtain ⟨i,hi,rfl,hs,hm⟩:=hrel
  have hi0:(0:Int)<=(i:Int):=Int.natCast_nonneg _
  by_cases hlt:i < l.length
  ·have hi1:(i:Int) < (l.length:Int):=by omega
   obtain ⟨g,o,rfl,hx,c0,c1,c2⟩:=(HL.out.keep hm (fun _ e=>e)).at_ i hlt
   have hsp:=HS.out l[i] (List.getElem_mem hlt)
   have HCH:=zh (show M.changes (l.take (i+1))=(M.changes (l.take i)).change l[i] by
    rw [List.take_succ_eq_append_getElem hlt];unfold Mt.changes;rw [List.foldl_append];rfl)
   generalize l[i]=pr at *
   obtain ⟨k,v,gn⟩:=pr
   dsimp only at c0 c1 c2 hsp
   obtain ⟨w2,hw2⟩:∃ w2,w2=wr.alloc (.cells #[.string ⟨k.toArray⟩,.string ⟨v.toArray⟩,.bool gn] 33):=⟨_,rfl⟩
   have m2:Mod No wr w2:=by rw [hw2];exact (Mod.refl No wr).alloc _
   have hb2:w2.heap[wr.heap.size]? = some (.cells #[.string ⟨k.toArray⟩,.string ⟨v.toArray⟩,.bool gn] 33 (0,0)):=by rw [hw2];exact heap_alloc_new wr _
   have p0:=cell_of (i:=0) hb2 rfl
   have p1:=cell_of (i:=1) hb2 rfl
   have p2:=cell_of (i:=2) hb2 rfl
   clear hb2
   obtain ⟨D,d1,d2,d3⟩:=(hs.keep m2 (fun f=>f)).row
   have hkey:=keyOf_str k (by omega)
   have hT:=d1.tidy key_str
   have HD:=zh (And.intro d1 (And.intro d2 (And.intro d3 hT)))
   have HM2:=zh (show Mod (fun k=>k=b) w w2 from hm.trans (m2.weaken fun _ _ f=>f.elim))
   have HW2:=zh hw2
   have HX:=zh hx
   have hsz:Maps.size D < maxLen:=by unfold maxLen;omega
   have hkl:k.length<=10000000:=hsp.1
   clear d1 d2 d3 hT m2 hw2 hs hm hx hsp
   have HK:=zh hkey
   clear hkey
   generalize hKK:(⟨k.toArray⟩:ByteArray)=K at *
   generalize hVV:(⟨v.toArray⟩:ByteArray)=V at *
   have HVV:=zh hVV
   have HKK:=zh hKK
   clear hKK hVV
   cases gn with
   | true =>
    go_upto_region 4 with fail
    rw [<- HW2.out]
    obtain ⟨w3,hdr0,hmp,hm3,-⟩:=HD.out.1.drop key_str (t:=72) underlying72 HK.out 0
    have hdr:∀ ty,(Builtin.delete_ #[72,9] ty #[.map (some b),.string K]).run prog w2=.ok (.tuple #[]) w3:=fun ty=>hdr0
    clear hdr0
    have HE:=zh (SMp.delD HD.out.2.2.2 HD.out.2.1 HD.out.2.2.1 hmp)
    have HM3:=zh (HM2.out.trans hm3)
    clear hmp hm3
    go_wp2_with fail
    exact ⟨⟨i+1,by omega,by go_num,by rw [HCH.out];exact HE.out.more (by omega),HM3.out⟩,by go_light;simp only [intOf];omega⟩
   | false =>
    go_upto_region 5 with fail
    rw [<- HW2.out]
    obtain ⟨w3,hst,hmp,hm3,-⟩:=HD.out.1.store key_str (t:=72) (val:=.string V) underlying72 hsz HK.out
    have HE:=zh (SMp.putD (v:=v) HD.out.2.2.2 HD.out.2.1 HD.out.2.2.1 (by rw [HVV.out];exact hmp))
    have HM3:=zh (HM2.out.trans hm3)
    clear hmp hm3
    go_wp2_with fail
    exact ⟨⟨i+1,by omega,by go_num,by rw [HCH.out];exact HE.out,HM3.out⟩,by go_light;simp only [intOf];omega⟩
  ·have hil:i=l.length:=by omega
   subst hil
   rw [List.take_length] at hs
   have HSS:=zh hs
   have HM:=zh hm
   clear hs hm
   go_wp2_with fail
   go_end0
   exact fin hR ⟨rfl,HSS.out,HM.out⟩
abbrev Vt:=List UInt8->Option Value
def vPut (F:Vt) (k:List UInt8) (v:Value):Vt:=fun x=>if x=k then some v else F x
structure VMp (w:World) (b n:Nat) (F:Vt):Prop where
 row:∃ D,Mp w 9 b D/\Maps.size D=n/\∀ k,(F k=none->Maps.has D (.string k)=false)/\∀ v,F k=some v->Maps.has D (.string k)=true/\∀ zd,D.atKey (.string k) zd=.held v
theorem VMp.keep {S:Nat->Prop} {w w':World} {b n:Nat} {F:Vt} (h:VMp w b n F) (hm:Mod S w w') (hs:¬ S b):VMp w' b n F:=by
 obtain ⟨D,h1,h2,h3⟩:=h.row
 exact ⟨D,h1.keep hm hs,h2,h3⟩
theorem VMp.lt {w:World} {b n:Nat} {F:Vt} (h:VMp w b n F):b < w.heap.size:=by
 obtain ⟨D,h1,-⟩:=h.row
 obtain ⟨es,c,hb⟩:=h1.heap
 exact lt_of_heap hb
theorem VMp.made (w:World):VMp (w.alloc (.map #[] 0)) w.heap.size 0 (fun _=>none) :=
 ⟨.map [],Mp.made w _,rfl,fun k=>⟨fun _=>by simp [Maps.has_eq],fun v h=>by cases h⟩⟩
theorem VMp.not_cells {w:World} {b n:Nat} {F:Vt} (h:VMp w b n F) (cur:Array Value) (t:TypeId) (fz:Nat × Nat):w.heap[b]? ≠ some (.cells cur t fz):=by
 obtain ⟨D,h1,-⟩:=h.row
 exact fun e=>by
  obtain ⟨es,c,hb⟩:=h1.heap
  rw [hb] at e;cases e
theorem VMp.get {w:World} {b n:Nat} {F:Vt} (h:VMp w b n F) {t e:TypeId} {z:Value} (ht:prog.underlying t=some (.map 9 e)) (hz:(zeroValue e).run prog w=.ok z w) (k:List UInt8) (hk:k.length<=1000000000) :
  (Instr.lookup t (.map (some b)) (.string ⟨k.toArray⟩) false).run prog w=.ok ((F k).getD z) w:=by
 obtain ⟨D,d1,d2,d3⟩:=h.row
 cases hM:F k with
 | none=>exact d1.get_miss key_str ht hz (keyOf_str k hk) ((d3 k).1 hM)
 | some v=>exact d1.get_hit key_str ht hz (keyOf_str k hk) ((d3 k).2 v hM).2
theorem VMp.len {w:World} {b n:Nat} {F:Vt} (h:VMp w b n F) {t e:TypeId} (ht:prog.underlying t=some (.map 9 e)) (ty:TypeId):(Builtin.len_ #[t] ty #[.map (some b)]).run prog w=.ok (.int .i64 (n:Int)) w:=by
 obtain ⟨D,d1,d2,-⟩:=h.row
 rw [World.ownsMap.len d1 ht ty,d2]
theorem VMp.putD {w':World} {b n:Nat} {F:Vt} {k:List UInt8} {v:Value} {D:DataW Value} (hT:Tidy D) (h2:Maps.size D=n) (h3:∀ k,(F k=none->Maps.has D (.string k)=false)/\∀ v,F k=some v->Maps.has D (.string k)=true/\∀ zd,D.atKey (.string k) zd=.held v)
  (hm:Mp w' 9 b (D.put (.string k) (.held v))):VMp w' b (if F k=none then n+1 else n) (vPut F k v):=by
 have hD:IsMap D:=hT.isMap
 refine ⟨_,hm,?_,fun x=>⟨fun hx=>?_,fun u hx=>?_⟩⟩
 ·rw [size_put hT]
  cases hF:F k with
  | none=>rw [(h3 k).1 hF];simp;omega
  | some u=>rw [((h3 k).2 u hF).1];simp;omega
 ·by_cases e:x=k
  ·simp [vPut,e] at hx
  ·simp only [vPut,if_neg e] at hx
   rw [has_put_other (lit_str_ne e)]
   exact (h3 x).1 hx
 ·by_cases e:x=k
  ·subst e
   simp only [vPut,if_true] at hx
   cases hx
   exact ⟨has_put_same hD (isKey_str _) _,fun zd=>atKey_put_same hD (isKey_str _) _ zd⟩
  ·simp only [vPut,if_neg e] at hx
   rw [has_put_other (lit_str_ne e)]
   refine ⟨((h3 x).2 u hx).1,fun zd=>?_⟩
   rw [atKey_put_other (lit_str_ne e)]
   exact ((h3 x).2 u hx).2 zd
theorem VMp.put {w:World} {b n:Nat} {F:Vt} (h:VMp w b n F) {t e:TypeId} (ht:prog.underlying t=some (.map 9 e)) (hn:n < maxLen) (k:List UInt8) (hk:k.length<=1000000000) (v:Value) :
  ∃ w',(Instr.mapUpdate t (.map (some b)) (.string ⟨k.toArray⟩) v).run prog w=.ok () w'/\VMp w' b (if F k=none then n+1 else n) (vPut F k v)/\Mod (· = b) w w'/\w'.heap.size=w.heap.size:=by
 obtain ⟨D,d1,d2,d3⟩:=h.row
 have hT:Tidy D:=d1.tidy key_str
 obtain ⟨w',hrun,hm,hmod,hsz⟩:=d1.store key_str ht (by omega) (val:=v) (keyOf_str k hk)
 exact ⟨w',hrun,VMp.putD hT d2 d3 hm,hmod,hsz⟩
def trV (t:Tr) (g:List UInt8->Nat):Vt:=fun k=>(atT t k).map fun f=>.pointer (some ⟨g f.path,0,none⟩)
def NdIn (w:World) (b:Nat) (f:Fl):Prop:=∃ v,w.heap[b]? = some (.cells #[.bool f.dir,v] 150 (0,0))/\Sl w No 5 v f.b.length (bv f.b)
structure TrM (w:World) (q m:Nat) (g:List UInt8->Nat) (t:Tr) (sz:Int):Prop where
 obj:w.heap[q]? = some (.cells #[.map (some m),.int .i64 sz] 161 (0,0))
 map:VMp w m t.length (trV t g)
 each:∀ f ∈ t,NdIn w (g f.path) f
 asc:AscT t
theorem TrM.ne {w:World} {q m:Nat} {g:List UInt8->Nat} {t:Tr} {sz:Int} (h:TrM w q m g t sz):q ≠ m:=fun e=>by
 subst e
 exact h.map.not_cells _ _ _ h.obj
theorem NdIn.keep {S:Nat->Prop} {w w':World} {b:Nat} {f:Fl} (h:NdIn w b f) (hm:Mod S w w') (ha:Apart [150,5] S w):NdIn w' b f:=by
 obtain ⟨v,h1,h2⟩:=h
 exact ⟨v,hm.keep h1 (fun s=>ha b _ _ _ s h1 (by simp)),h2.apart hm (ha.less (by simp))⟩
theorem TrM.keep {S:Nat->Prop} {w w':World} {q m:Nat} {g:List UInt8->Nat} {t:Tr} {sz:Int} (h:TrM w q m g t sz) (hm:Mod S w w') (hq:¬ S q) (hmm:¬ S m) (ha:Apart [150,5] S w):TrM w' q m g t sz :=
 ⟨hm.keep h.obj hq,h.map.keep hm hmm,fun f hf=>(h.each f hf).keep hm ha,h.asc⟩
theorem TrM.no {w w':World} {q m:Nat} {g:List UInt8->Nat} {t:Tr} {sz:Int} (h:TrM w q m g t sz) (hm:Mod No w w'):TrM w' q m g t sz:=h.keep hm (fun f=>f) (fun f=>f) (Apart.no _ _)
def ptrV (g:List UInt8->Nat):Option Fl->Value
 | none=>.pointer none
 | some f=>.pointer (some ⟨g f.path,0,none⟩)
theorem TrM.look {w:World} {q m:Nat} {g:List UInt8->Nat} {t:Tr} {sz:Int} (h:TrM w q m g t sz) (p:List UInt8) (hp:p.length<=1000000) :
  (Instr.lookup 159 (.map (some m)) (.string ⟨p.toArray⟩) false).run prog w=.ok (ptrV g (atT t p)) w:=by
 have hz:(zeroValue 147).run prog w=.ok (.pointer none) w:=by kernel_rfl
 have h1:=h.map.get (t:=159) underlying159 hz p (by omega)
 rw [h1]
 unfold trV
 cases atT t p <;> rfl
theorem TrM.node {w:World} {q m:Nat} {g:List UInt8->Nat} {t:Tr} {sz:Int} (h:TrM w q m g t sz) {p:List UInt8} {f:Fl} (hf:atT t p=some f):NdIn w (g f.path) f:=h.each f (at_path hf).2
theorem TrM.put {w w':World} {q m nb:Nat} {g:List UInt8->Nat} {t:Tr} {sz:Int} {f:Fl} (h:TrM w q m g t sz) (hv:VMp w' m (if trV t g f.path=none then t.length+1 else t.length) (vPut (trV t g) f.path (.pointer (some ⟨nb,0,none⟩))))
  (hm:Mod (· = m) w w') (hn:NdIn w' nb f):TrM w' q m (fun x=>if x=f.path then nb else g x) (putT t f) sz:=by
 have hcnt:=(put_count h.asc f).1
 have hap:Apart [150,5] (· = m) w:=fun k cur fz e hk hc _=>by
  subst hk
  exact h.map.not_cells _ _ _ hc
 have hF:trV (putT t f) (fun x=>if x=f.path then nb else g x)=vPut (trV t g) f.path (.pointer (some ⟨nb,0,none⟩)):=by
  funext k
  unfold trV vPut
  rw [at_put]
  by_cases e:f.path=k
  ·rw [if_pos e,if_pos e.symm];simp
  ·rw [if_neg e,if_neg (fun e2=>e e2.symm)]
   cases hx:atT t k with
   | none=>simp [hx]
   | some x =>
    have hxp:x.path ≠ f.path:=fun e2=>e (e2.symm.trans (at_path hx).1)
    simp [hxp,hx]
 have hlen:(putT t f).length=if trV t g f.path=none then t.length+1 else t.length:=by
  rw [hcnt]
  unfold trV
  cases atT t f.path <;> simp
 refine ⟨hm.keep h.obj h.ne,by rw [hF,hlen];exact hv,fun x hx=>?_,asc_put h.asc f⟩
 have h1:=at_mem (asc_put h.asc f) hx
 rw [at_put] at h1
 by_cases e:f.path=x.path
 ·rw [if_pos e] at h1
  cases h1
  rw [if_pos rfl]
  exact hn
 ·rw [if_neg e] at h1
  rw [if_neg (fun e2=>e e2.symm)]
  exact (h.each x (at_path h1).2).keep hm hap
theorem TrM.sized {w:World} {q m:Nat} {g:List UInt8->Nat} {t:Tr} {sz:Int} (h:TrM w q m g t sz) (sz':Int):TrM (w.setCell ⟨q,1,none⟩ (.int .i64 sz')) q m g t sz':=by
 have hm:Mod (· = q) w (w.setCell ⟨q,1,none⟩ (.int .i64 sz')):=Mod.cell1 w q 1 _
 have hap:Apart [150,5] (· = q) w:=fun k cur fz e hk hc hx=>by
  subst hk
  rw [h.obj] at hc
  cases hc
  simp at hx
 exact ⟨by rw [heap_setCell h.obj];rfl,h.map.keep hm (fun e=>h.ne e.symm),fun f hf=>(h.each f hf).keep hm hap,h.asc⟩
theorem TrM.made (w:World) {q m:Nat} (hq:w.heap[q]? = some (.cells #[.map (some m),.int .i64 0] 161 (0,0))) (hm:VMp w m 0 (fun _=>none)) (g:List UInt8->Nat):TrM w q m g [] 0 :=
 ⟨hq,hm,fun f hf=>(by cases hf),asc_nil⟩
theorem tnew_any (w:World):Calls prog 71 #[] w fun e w'=>∃ q m g,e=.returned (.pointer (some ⟨q,0,none⟩))/\TrM w' q m g [] 0/\Mod No w w'/\w.heap.size<=q/\w.heap.size<=m:=by
 refine calls_hide fun R hR=>?_
 have hmm:=@run_makeMap prog
 go_enter func71,ntmps71
 go_wp2_with fail
 refine fin hR ⟨_,w.heap.size,fun _=>0,rfl,TrM.made _ ?_ ?_ _,((Mod.refl No w).alloc _).alloc _,?_,Nat.le_refl _⟩
 ·have h1:=heap_alloc_new (w.alloc (.map #[] 0)) (.cells #[.map (some w.heap.size),.int .i64 0] 161)
  rw [World.size_alloc] at h1
  exact h1
 ·exact (VMp.made w).keep (S:=No) ((Mod.refl No _).alloc _) (fun f=>f)
 ·simp
def AtPost (w':World) (t:Tr) (p:List UInt8) (e:Ending):Prop:=match nodeT t p with
 | none=>e=.returned (.pointer none)
 | some (d,c)=>∃ b v,e=.returned (.pointer (some ⟨b,0,none⟩))/\w'.heap[b]? = some (.cells #[.bool d,v] 150 (0,0))/\Sl w' No 5 v c.length (bv c)
set_option maxRecDepth 100000 in
theorem tat_any {w:World} {q m:Nat} {g:List UInt8->Nat} {t:Tr} {sz:Int} (h:TrM w q m g t sz) (p:List UInt8) (hp:p.length<=1000000) :
  Calls prog 73 #[.pointer (some ⟨q,0,none⟩),strV p] w fun e w'=>AtPost w' t p e/\Mod No w w':=by
 refine calls_hide fun R hR=>?_
 have H:=zh h
 have hlk:=h.look p hp
 have c0:=cell_ofA h.obj (i:=0) rfl
 have hT:=str_list p
 clear h
 unfold strV
 generalize (⟨p.toArray⟩:ByteArray)=Z at *
 go_enter func73,ntmps73
 by_cases h0:p=[]
 ·subst h0
  have HE:=zh (show ∀ w' e,(∃ b v,e=.returned (.pointer (some ⟨b,0,none⟩))/\w'.heap[b]? = some (.cells #[.bool true,v] 150 (0,0))/\Sl w' No 5 v 0 (bv []))->AtPost w' t [] e from fun w' e h=>h)
  clear hlk c0
  go_wp2_with fail
  exact fin hR ⟨HE.out _ _ ⟨_,_,rfl,heap_alloc_new w _,.inl ⟨rfl,rfl,rfl⟩⟩,(Mod.refl No w).alloc _⟩
 ·have hie:p.isEmpty=false:=by simpa using h0
  have HE:=zh (show AtPost w t p (.returned (ptrV g (atT t p))) by
   unfold AtPost nodeT
   rw [if_neg h0]
   cases hx:atT t p with
   | none=>rfl
   | some f =>
    obtain ⟨v,h1,h2⟩:=H.out.node hx
    exact ⟨_,v,rfl,h1,h2⟩)
  generalize ptrV g (atT t p)=rv at *
  go_wp2_with fail
  exact fin hR ⟨HE.out,Mod.refl _ _⟩
set_option maxRecDepth 100000 in
theorem troom_any {w:World} {q m:Nat} {g:List UInt8->Nat} {t:Tr} {sz:Int} (h:TrM w q m g t sz) (fs bs:Int) (_:-1000000000<=fs/\fs<=1000000000) (_:-1000000000<=bs/\bs<=1000000000) (hs:-1000000000<=sz/\sz<=1000000000) (ht:t.length<=1000000) :
  Calls prog 137 #[.pointer (some ⟨q,0,none⟩),.int .i64 fs,.int .i64 bs] w fun e w'=>e=.returned (.bool (decide (fs<=500 - (t.length:Int)) && decide (bs<=1048576 - sz)))/\w'=w:=by
 refine calls_hide fun R hR=>?_
 have c0:=cell_ofA h.obj (i:=0) rfl
 have c1:=cell_ofA h.obj (i:=1) rfl
 have hln:∀ ty,(Builtin.len_ #[159] ty #[.map (some m)]).run prog w=.ok (.int .i64 (t.length:Int)) w:=fun ty=>h.map.len underlying159 ty
 have hn0:(0:Int)<=(t.length:Int):=Int.natCast_nonneg _
 have hn1:(t.length:Int)<=1000000:=by omega
 clear h ht
 generalize (t.length:Int)=n at *
 go_enter func137,ntmps137
 by_cases h1:fs<=500 - n
 ·go_wp2_with fail
  refine fin hR ⟨bool_ret ?_,rfl⟩
  rw [decide_eq_true h1]
  simp
 ·go_wp2_with fail
  refine fin hR ⟨bool_ret ?_,rfl⟩
  rw [decide_eq_false (by omega:¬ fs<=500 - n)]
  simp
set_option maxRecDepth 100000 in
set_option maxHeartbeats 4000000 in
theorem tmake_any {w:World} {q m:Nat} {g:List UInt8->Nat} {t:Tr} {sz:Int} (h:TrM w q m g t sz) (ds:List (List UInt8)) (v:Value) (hv:Sl w No 9 v ds.length (strs ds)) (hd:∀ d ∈ ds,d.length<=1000000) (hn:t.length+ds.length<=1000000) :
  Calls prog 138 #[.pointer (some ⟨q,0,none⟩),v] w fun e w'=>e=.returned (.tuple #[])/\(∃ g',TrM w' q m g' (makeT t ds) sz)/\Mod (· = m) w w':=by
 refine calls_hide fun R hR=>?_
 have H:=zh h
 have HV:=zh hv
 obtain ⟨va,vc,rfl⟩:=hv.len
 clear h hv
 go_enter func138,ntmps138
 go_wp2_with fail
 go_loopw [8] (fun q8 wr=>∃ (k:Nat) (g':List UInt8->Nat),k<=ds.length/\q8=.int .i64 (k:Int)/\TrM wr q m g' (makeT t (ds.take k)) sz/\Mod (· = m) w wr) (fun q8 _=>ds.length - (intOf q8).toNat)
 case atStart=>exact ⟨0,g,by omega,rfl,H.out,Mod.refl _ _⟩
 case round =>
  obtain ⟨k,g',hk,rfl,htr,hm⟩:=hrel
  have hk0:(0:Int)<=(k:Int):=Int.natCast_nonneg _
  have HM:=zh hm
  have HT:=zh htr
  clear hm htr
  by_cases hlt:k < ds.length
  ·have hk1:(k:Int) < (ds.length:Int):=by omega
   obtain ⟨b,o,c,hvs,_⟩:=HV.out.shape (by omega)
   cases hvs
   have hcell:=(HV.out.keep HM.out (fun k cur fz hk _ hc=>by subst hk;exact H.out.map.not_cells _ _ _ hc)).cellN (i:=k) (by rw [strs_length];exact hlt)
   rw [show (strs ds)[k]'(by rw [strs_length];exact hlt)=strV ds[k] from by simp [strs]] at hcell
   have hdk:=hd ds[k] (List.getElem_mem hlt)
   have HMK:=zh (show makeT t (ds.take (k+1))=putT (makeT t (ds.take k)) ⟨ds[k],true,[]⟩ by
    rw [List.take_succ_eq_append_getElem hlt,make_append];rfl)
   have hml:=(make_all (ds.take k) t).1
   rw [List.length_take] at hml
   have c0:=cell_ofA HT.out.obj (i:=0) rfl
   generalize ds[k]=dk at *
   generalize makeT t (ds.take k)=tk at *
   obtain ⟨w2,hw2⟩:∃ w2,w2=wr.alloc (.cells #[.bool true,.slice none 0 0] 150):=⟨_,rfl⟩
   have m2:Mod No wr w2:=by rw [hw2];exact (Mod.refl No wr).alloc _
   have hb2:w2.heap[wr.heap.size]? = some (.cells #[.bool true,.slice none 0 0] 150 (0,0)):=by rw [hw2];exact heap_alloc_new wr _
   have ht2:=HT.out.no m2
   obtain ⟨w3,hst,hvm,hm3,-⟩:=ht2.map.put (t:=159) underlying159 (by unfold maxLen;omega) dk (by omega) (.pointer (some ⟨wr.heap.size,0,none⟩))
   have hnb:wr.heap.size ≠ m:=fun e=>by subst e;exact ht2.map.not_cells _ _ _ hb2
   have HT3:=zh (ht2.put (f:=⟨dk,true,[]⟩) hvm hm3 ⟨_,hm3.keep hb2 hnb,.inl ⟨rfl,rfl,rfl⟩⟩)
   have HM3:=zh (show Mod (· = m) w w3 from (HM.out.trans (m2.weaken (fun _ _ f=>f.elim))).trans hm3)
   have HW2:=zh hw2
   clear m2 hb2 ht2 hvm hm3 hw2 hml
   unfold strV at hcell
   generalize (⟨dk.toArray⟩:ByteArray)=DK at *
   rw [HW2.out] at hst
   go_wp2_with fail
   exact ⟨⟨k+1,_,by omega,by simp,by rw [HMK.out];exact HT3.out,HM3.out⟩,by show ds.length - ((k:Int)+1).toNat < ds.length - (k:Int).toNat;omega⟩
  ·obtain rfl:k=ds.length:=by omega
   have hk1:¬ ((ds.length:Int) < (ds.length:Int)):=by omega
   rw [List.take_length] at HT
   clear hk
   go_wp2_with fail
   go_end0
   exact fin hR ⟨rfl,⟨_,HT.out⟩,HM.out⟩
end Go.Proofs.YtmppeipgjcjdkaaGreatDoor
