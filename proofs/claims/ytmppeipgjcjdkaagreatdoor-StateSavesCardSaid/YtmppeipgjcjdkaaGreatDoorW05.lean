/-
  Layers 0 to 14: helps of the laws of indexes. No statement is proved here; no condition.
-/
import Derived.Test.YtmppeipgjcjdkaaGreatDoorW04
import Derived.Test.YtmppeipgjcjdkaaGreatDoorW00
import Derived.Deep.CutBlock
import Derived.Lib.Split
import Derived.Great.Walk
import Derived.Lib.SplitLaws
import Derived.Lib.IndexBytes
import Derived.Lib.Atoi
import Derived.Deep.MidRow
import Derived.Lib.Index
namespace Go.Proofs.YtmppeipgjcjdkaaGreatDoor
open _root_.Go.Proofs.Tryz
open Go.RowKit
def blockAt (n:Nat):Code->Option Code
 | .block m c=>if m == n then some (.block m c) else blockAt n c
 | .seq a b=>match blockAt n a with
  | some c=>some c
  | none=>blockAt n b
 | .loop c=>blockAt n c
 | .scope c=>blockAt n c
 | .cond _ a b=>match blockAt n a with
  | some c=>some c
  | none=>blockAt n b
 | _=>none
def endsAt (n:Nat):Code->Bool
 | .block m _=>m == n
 | .seq _ b=>endsAt n b
 | _=>false
def behind (n:Nat):Code->Option Code
 | .seq a b=>if endsAt n a then some b else match behind n a with
  | some c=>some c
  | none=>behind n b
 | .loop c=>behind n c
 | .scope c=>behind n c
 | .block _ c=>behind n c
 | .cond _ a b=>match behind n a with
  | some c=>some c
  | none=>behind n b
 | _=>none
def Holds (t:Array Value):List (Nat × Value)->Prop
 | []=>True
 | p :: l=>t.getD p.1 undef=p.2/\Holds t l
structure Fr (n:Nat) (l:List (Nat × Value)) (a:Act):Prop where
 size:a.tmps.size=n
 defers:a.defers=[]
 holds:Holds a.tmps l
theorem arr_lits (t:Array Value):t=((List.range t.size).map fun i=>t.getD i undef).toArray:=by
 apply Array.ext
 ·simp
 ·intro i h1 h2
  simp [Array.getD,h1]
def Nope:Exit->Act->World->Prop:=fun _ _ _=>False
theorem wp_only {P:Program} {s:Code} {R K:Act->World->Prop} {Q':Exit->Act->World->Prop} {a:Act} {w:World} (h:s.wp P (Exit.then R Nope) a w) (hR:∀ a' w',R a' w'->K a' w'):s.wp P (Exit.then K Q') a w:=by
 refine wp_mono h ?_
 intro e a' w' hq
 cases e with
 | normal=>exact hR _ _ hq
 | exit id=>exact hq.elim
 | goto l=>exact hq.elim
 | ret=>exact hq.elim
 | panic ch=>exact hq.elim
 | outgrown=>exact hq.elim
theorem wp_part {P:Program} {s:Code} {R:Act->World->Prop} {Q':Exit->Act->World->Prop} {a:Act} {w:World}
  (first:∀ (J K':Act->World->Prop),(∀ a' w',R a' w'->J a' w')->(∀ a' w',Met J a' w'->K' a' w')->s.wp P (Exit.then K' Q') a w):s.wp P (Exit.then R Q') a w :=
 wp_cut R (fun _ _ h=>h) first
theorem str_len3 (l:List UInt8):(⟨l.toArray⟩:ByteArray).size=l.length:=by show l.toArray.size=_;simp
theorem info_byte:(prog.info? 5).map (fun i=>(i.zero,i.size,i.bytes))=some (some (.int .u8 0),1,1):=by kernel_rfl
def rotR (n:Nat) (x:Int):Int:=bits .or .u32 (x / 2 ^ n) (x*2 ^ (32 - n) % 4294967296)
theorem bits_or_comm (a b:Int):bits .or .u32 a b=bits .or .u32 b a:=by
 show IntKind.u32.wrap ((BitVec.ofInt 32 a ||| BitVec.ofInt 32 b).toNat:Int)=IntKind.u32.wrap ((BitVec.ofInt 32 b ||| BitVec.ofInt 32 a).toNat:Int)
 rw [BitVec.or_comm]
def wCells (ws:List Int):Array Value:=((ws.map (Value.int .u32))++List.replicate (64 - ws.length) (Value.int .u32 0)).toArray
theorem wCells_new {ws:List Int} {i:Nat} (h:ws.length=i) (hi:i < 64):(wCells ws)[i]? = some (.int .u32 0):=by
 unfold wCells
 rw [List.getElem?_toArray,List.getElem?_append_right (by simp;omega),List.getElem?_replicate,if_pos (by simp;omega)]
theorem wCells_set {ws:List Int} {i:Nat} {x:Int} (h:ws.length=i) (hi:i < 64):(wCells ws).setIfInBounds i (.int .u32 x)=wCells (ws++[x]):=by
 unfold wCells
 rw [List.setIfInBounds_toArray]
 congr 1
 rw [show 64 - ws.length=(64 - (ws++[x]).length)+1 by simp;omega,List.replicate_succ,List.set_append_right _ _ (by simp;omega)]
 have:i - (ws.map (Value.int .u32)).length=0:=by simp;omega
 rw [this]
 simp
theorem wCells_old {ws:List Int} {k:Nat} {x:Int} (h:ws[k]? = some x):(wCells ws)[k]? = some (.int .u32 x):=by
 have hk:=(List.getElem?_eq_some_iff.1 h).1
 unfold wCells
 rw [List.getElem?_toArray,List.getElem?_append_left (by simpa using hk),List.getElem?_map,h];rfl
def be4 (y0 y1 y2 y3:Int):Int :=
 bits .or .u32 (bits .or .u32 (bits .or .u32 (IntKind.u32.wrap (IntKind.u32.wrap y0*16777216)) (IntKind.u32.wrap (IntKind.u32.wrap y1*65536))) (IntKind.u32.wrap (IntKind.u32.wrap y2*256))) (IntKind.u32.wrap y3)
def xo (a b:Int):Int:=bits .xor .u32 a b
def sg0 (x:Int):Int:=xo (xo (rotR 7 x) (rotR 18 x)) (x / 8)
def sg1 (x:Int):Int:=xo (xo (rotR 17 x) (rotR 19 x)) (x / 1024)
def wd (a b:Int):Int:=IntKind.u32.wrap (a+b)
def nextW (a16 a15 a7 a2:Int):Int:=wd (wd (wd a16 (sg0 a15)) a7) (sg1 a2)
def an (a b:Int):Int:=bits .and .u32 a b
def bigE (e:Int):Int:=xo (xo (rotR 6 e) (rotR 11 e)) (rotR 25 e)
def bigA (a:Int):Int:=xo (xo (rotR 2 a) (rotR 13 a)) (rotR 22 a)
def chF (e f g:Int):Int:=xo (an e f) (an (bits .xor .u32 IntKind.u32.max e) g)
def majF (a b c:Int):Int:=xo (xo (an a b) (an a c)) (an b c)
def oneF (e f g h k w:Int):Int:=(h+bigE e+chF e f g+k+w) % 4294967296
def twoF (a b c:Int):Int:=(bigA a+majF a b c) % 4294967296
def wordsF (b:Nat->Int):Nat->List Int
 | 0=>[]
 | n+1=>wordsF b n++[if n < 16 then be4 (b (4*n+0)) (b (4*n+1)) (b (4*n+2)) (b (4*n+3))
   else nextW ((wordsF b n).getD (n - 16) 0) ((wordsF b n).getD (n - 15) 0) ((wordsF b n).getD (n - 7) 0) ((wordsF b n).getD (n - 2) 0)]
theorem wordsF_length (b:Nat->Int):∀ n,(wordsF b n).length=n
 | 0=>rfl
 | n+1=>by unfold wordsF;rw [List.length_append,wordsF_length b n];rfl
theorem wordsF_at (b:Nat->Int) {n k:Nat} (h:k < n):(wordsF b n)[k]? = some ((wordsF b n).getD k 0):=by
 rw [List.getD_eq_getElem?_getD,List.getElem?_eq_getElem (by rw [wordsF_length];exact h)];rfl
theorem wordsF_lo (b:Nat->Int) {n:Nat} (h:n < 16):wordsF b (n+1)=wordsF b n++[be4 (b (4*n+0)) (b (4*n+1)) (b (4*n+2)) (b (4*n+3))]:=by
 rw [wordsF,if_pos h]
theorem wordsF_hi (b:Nat->Int) {n:Nat} (h:16<=n):wordsF b (n+1)=wordsF b n++[nextW ((wordsF b n).getD (n - 16) 0) ((wordsF b n).getD (n - 15) 0) ((wordsF b n).getD (n - 7) 0) ((wordsF b n).getD (n - 2) 0)]:=by
 rw [wordsF,if_neg (by omega)]
def rndL (s:List Int) (p:Int × Int):List Int :=
 match s with
 | [x0,x1,x2,x3,x4,x5,x6,x7]=>[wd (oneF x4 x5 x6 x7 p.1 p.2) (twoF x0 x1 x2),x0,x1,x2,wd x3 (oneF x4 x5 x6 x7 p.1 p.2),x4,x5,x6]
 | s=>s
def blockF (ks:List Int) (b:Nat->Int) (h:List Int):List Int:=List.zipWith wd h ((ks.zip (wordsF b 64)).foldl rndL h)
theorem rndL_length (s:List Int) (p:Int × Int) (h:s.length=8):(rndL s p).length=8:=by
 unfold rndL
 split
 ·rfl
 ·exact h
theorem foldl_rndL (l:List (Int × Int)):∀ s:List Int,s.length=8->(l.foldl rndL s).length=8:=by
 induction l with
 | nil=>exact fun s h=>h
 | cons p l ih=>exact fun s h=>ih _ (rndL_length s p h)
theorem blockF_length (ks:List Int) (b:Nat->Int) (h:List Int) (hh:h.length=8):(blockF ks b h).length=8:=by
 unfold blockF
 rw [List.length_zipWith,foldl_rndL _ _ hh,hh];rfl
theorem len8 {h:List Int} (hh:h.length=8):∃ h0 h1 h2 h3 h4 h5 h6 h7,h=[h0,h1,h2,h3,h4,h5,h6,h7]:=by
 match h,hh with
 | [h0,h1,h2,h3,h4,h5,h6,h7],_=>exact ⟨_,_,_,_,_,_,_,_,rfl⟩
def h0:List Int:=[1779033703,3144134277,1013904242,2773480762,1359893119,2600822924,528734635,1541459225]
def k0:List Int:=[1116352408,1899447441,3049323471,3921009573,961987163,1508970993,2453635748,2870763221,3624381080,310598401,607225278,1426881987,1925078388,2162078206,2614888103,3248222580,3835390401,4022224774,264347078,604807628,770255983,1249150122,1555081692,1996064986,2554220882,2821834349,2952996808,3210313671,3336571891,3584528711,113926993,338241895,666307205,773529912,1294757372,1396182291,1695183700,1986661051,2177026350,2456956037,2730485921,2820302411,3259730800,3345764771,3516065817,3600352804,4094571909,275423344,430227734,506948616,659060556,883997877,958139571,1322822218,1537002063,1747873779,1955562222,2024104815,2227730452,2361852424,2428436474,2756734187,3204031479,3329325298]
theorem wpList_builtAs {P:Program} {ops:Array Oper} {Q:Exit->Act->World->Prop} {a:Act} {w:World} {rest:List Oper} {o:Oper} (hg:o.guard=none) (t:TypeId) (parts:Array (Nat × Operand)) (ho:o.op=.build t parts)
  (cells:Array Value) (hc:P.built t (parts.map fun (i,x)=>(i,a.eval x)).toList=some cells) (h:wpList P ops Q rest (a.put o.dst (.agg cells)) w):wpList P ops Q (o :: rest) a w :=
 wpList_plain hg fun _ hK=>by
  unfold Oper.wp execOp
  simp only [ho,Sem.run_bind,run_build w t _ cells hc,Result.andThen_ok]
  exact hK _ _ h
def c8 (l:List Int):Array Value:=(l.map (Value.int .u32)).toArray
def runF (ks:List Int):Nat->(Nat->Int)->List Int->List Int
 | 0,_,h=>h
 | n+1,b,h=>runF ks n (fun k=>b (64+k)) (blockF ks b h)
theorem wordsF_congr {b b':Nat->Int} (h:∀ k,k < 64->b k=b' k):∀ n,wordsF b n=wordsF b' n
 | 0=>rfl
 | n+1=>by
  unfold wordsF
  rw [wordsF_congr h n]
  by_cases hn:n < 16
  ·rw [if_pos hn,if_pos hn,h _ (by omega),h _ (by omega),h _ (by omega),h _ (by omega)]
  ·rw [if_neg hn,if_neg hn]
theorem blockF_congr {ks:List Int} {b b':Nat->Int} (h:∀ k,k < 64->b k=b' k) (s:List Int):blockF ks b s=blockF ks b' s:=by
 unfold blockF
 rw [wordsF_congr h]
theorem runF_add {ks:List Int} (n:Nat):∀ (m:Nat) (b:Nat->Int) (s:List Int),runF ks (m+n) b s=runF ks n (fun k=>b (64*m+k)) (runF ks m b s)
 | 0,b,s=>by rw [Nat.zero_add];simp only [Nat.mul_zero,Nat.zero_add];rfl
 | m+1,b,s=>by
  rw [show m+1+n=(m+n)+1 by omega]
  show runF ks (m+n) (fun k=>b (64+k)) (blockF ks b s)=_
  rw [runF_add n m (fun k=>b (64+k))]
  show _=runF ks n (fun k=>b (64*(m+1)+k)) (runF ks m (fun k=>b (64+k)) (blockF ks b s))
  congr 1
  funext k
  congr 1
  omega
theorem runF_last {ks:List Int} (m:Nat) (b:Nat->Int) (s:List Int):runF ks (m+1) b s=blockF ks (fun k=>b (64*m+k)) (runF ks m b s):=runF_add 1 m b s
theorem runF_length (ks:List Int):∀ (n:Nat) (b:Nat->Int) (s:List Int),s.length=8->(runF ks n b s).length=8
 | 0,_,_,h=>h
 | n+1,b,s,h=>runF_length ks n _ _ (blockF_length ks b s h)
def bf (l:List UInt8) (k:Nat):Int:=((l.getD k 0).toNat:Int)
theorem bf_drop (l:List UInt8) (m k:Nat):bf (l.drop m) k=bf l (m+k):=by
 unfold bf
 rw [List.getD_eq_getElem?_getD,List.getD_eq_getElem?_getD,List.getElem?_drop]
theorem bv_bf {l:List UInt8} {k:Nat} (h:k < l.length):(bv l)[k]? = some (.int .u8 (bf l k)):=by
 unfold bv bf
 rw [List.getElem?_map,List.getElem?_eq_getElem h,List.getD_eq_getElem?_getD,List.getElem?_eq_getElem h];rfl
def lenByte (n i:Nat):UInt8:=UInt8.ofNat (n / 2 ^ (56 - 8*i))
def lenBytes (n i:Nat):List UInt8:=(List.range i).map (lenByte n)
theorem lenBytes_length (n i:Nat):(lenBytes n i).length=i:=by simp [lenBytes]
theorem lenBytes_succ (n i:Nat):lenBytes n (i+1)=lenBytes n i++[lenByte n i]:=by simp [lenBytes,List.range_succ]
theorem lenByte_val (n i s:Nat) (hs:s=56 - 8*i):((n:Int) / 2 ^ s) % 256=((lenByte n i).toNat:Int):=by
 subst hs
 unfold lenByte
 generalize 56 - 8*i=s
 rw [UInt8.toNat_ofNat',Int.natCast_emod,Int.natCast_ediv,Int.natCast_pow]
 rfl
def lenAt (L:List UInt8) (e n i:Nat):List UInt8:=L.take (e - 8)++lenBytes n i++L.drop (e - 8+i)
theorem lenAt_zero (L:List UInt8) (e n:Nat):lenAt L e n 0=L:=by simp [lenAt,lenBytes]
theorem lenAt_get {L:List UInt8} {e n i:Nat} (hL:L.length=128) (he:e<=128) (h8:8<=e) (hi:i < 8):∃ x:UInt8,(bv (lenAt L e n i)).toArray[e - 8+i]? = some (.int .u8 x.toNat):=by
 refine ⟨L[e - 8+i]'(by omega),?_⟩
 unfold lenAt
 rw [List.getElem?_toArray]
 unfold bv
 rw [List.getElem?_map,List.getElem?_append_right (by simp [lenBytes_length];omega)]
 have:e - 8+i - (L.take (e - 8)++lenBytes n i).length=0:=by simp [lenBytes_length];omega
 rw [this,List.getElem?_drop,Nat.add_zero,List.getElem?_eq_getElem (by omega)];rfl
theorem lenAt_set {L:List UInt8} {e n i:Nat} (hL:L.length=128) (he:e<=128) (h8:8<=e) (hi:i < 8) :
  (bv (lenAt L e n i)).toArray.setIfInBounds (e - 8+i) (.int .u8 ((lenByte n i).toNat:Int))=(bv (lenAt L e n (i+1))).toArray:=by
 rw [List.setIfInBounds_toArray]
 congr 1
 unfold lenAt bv
 rw [lenBytes_succ,List.drop_eq_getElem_cons (i:=e - 8+i) (by omega)]
 simp only [List.map_append,List.map_cons,List.append_assoc]
 rw [List.set_append_right _ _ (by simp;omega),List.set_append_right _ _ (by simp [lenBytes_length];omega)]
 have:e - 8+i - (L.take (e - 8)).length - (lenBytes n i).length=0:=by simp [lenBytes_length];omega
 simp only [List.length_map,this,List.set_cons_zero,List.map_nil,List.nil_append,List.cons_append]
 rfl
def keyB (h:List Int) (i:Nat):UInt8:=UInt8.ofNat (h.getD (i / 4) 0 / 2 ^ (24 - 8*(i % 4)) % 256).toNat
def keyF (h:List Int):List UInt8:=(List.range 32).map (keyB h)
theorem keyB_val (h:List Int) (i s:Nat) (x:Int) (hx:h.getD (i / 4) 0=x) (hs:s=24 - 8*(i % 4)):x / 2 ^ s % 256=((keyB h i).toNat:Int):=by
 subst hx hs
 unfold keyB
 generalize h.getD (i / 4) 0 / 2 ^ (24 - 8*(i % 4))=y
 rw [UInt8.toNat_ofNat']
 omega
def keyAt (h:List Int) (i:Nat):List UInt8:=(List.range i).map (keyB h)++List.replicate (32 - i) 0
theorem keyAt_full (h:List Int):keyAt h 32=keyF h:=by simp [keyAt,keyF]
theorem keyAt_get (h:List Int) {i:Nat} (hi:i < 32):(bv (keyAt h i)).toArray[i]? = some (.int .u8 0):=by
 unfold keyAt
 rw [List.getElem?_toArray,bv_append,List.getElem?_append_right (by simp)]
 have:i - (bv ((List.range i).map (keyB h))).length=0:=by simp
 rw [this,show 32 - i=(31 - i)+1 by omega,List.replicate_succ];rfl
theorem keyAt_set (h:List Int) {i:Nat} (hi:i < 32):(bv (keyAt h i)).toArray.setIfInBounds i (.int .u8 ((keyB h i).toNat:Int))=(bv (keyAt h (i+1))).toArray:=by
 rw [List.setIfInBounds_toArray]
 congr 1
 unfold keyAt
 rw [show 32 - i=(32 - (i+1))+1 by omega,List.replicate_succ,List.range_succ,List.map_append,bv_append,bv_append,bv_append,List.set_append_right _ _ (by simp)]
 have:i - (bv ((List.range i).map (keyB h))).length=0:=by simp
 rw [this,List.append_assoc]
 rfl
def lastN (l:List UInt8):Nat:=if 64 < l.length % 64+9 then 2 else 1
def bufF (l:List UInt8):List UInt8:=l.drop (64*(l.length / 64))++128 :: List.replicate (127 - l.length % 64) 0
def lastF (l:List UInt8):List UInt8:=lenAt (bufF l) (64*lastN l) (l.length*8) 8
def sumF (l:List UInt8):List UInt8:=keyF (runF k0 (lastN l) (bf (lastF l)) (runF k0 (l.length / 64) (bf l) h0))
theorem sumF_length (l:List UInt8):(sumF l).length=32:=by simp [sumF,keyF]
theorem buf_set {rest:List UInt8} {r:Nat} (h:rest.length=r) (hr:r < 64):(bv (rest++List.replicate (128 - r) 0)).toArray.setIfInBounds r (.int .u8 128)=(bv (rest++128 :: List.replicate (127 - r) 0)).toArray:=by
 rw [List.setIfInBounds_toArray]
 congr 1
 rw [bv_append,bv_append,List.set_append_right _ _ (by simp [h]),bv_length,h,Nat.sub_self,show 128 - r=(127 - r)+1 by omega,List.replicate_succ]
 rfl
theorem bufF_length (l:List UInt8):(bufF l).length=128:=by
 unfold bufF
 rw [List.length_append,List.length_cons,List.length_replicate,List.length_drop]
 omega
theorem lenAt_length {L:List UInt8} {e n:Nat} (hL:L.length=128) (he:e<=128) (h8:8<=e):(lenAt L e n 8).length=128:=by
 unfold lenAt
 rw [List.length_append,List.length_append,lenBytes_length,List.length_take,List.length_drop]
 omega
abbrev strV (l:List UInt8):Value:=.string ⟨l.toArray⟩
theorem byte_ext (Z:ByteArray):Z=⟨Z.data.toList.toArray⟩:=by cases Z;simp
theorem str_list (l:List UInt8):(⟨l.toArray⟩:ByteArray).toList=l:=by rw [ByteArray.toList_eq]
theorem str_inj {a b:List UInt8}:(⟨a.toArray⟩:ByteArray)=⟨b.toArray⟩ ↔ a=b:=by
 constructor
 ·intro h
  have:=congrArg (fun z:ByteArray=>z.data.toList) h
  simpa using this
 ·rintro rfl;rfl
theorem str_nil (l:List UInt8):(⟨l.toArray⟩:ByteArray)=⟨#[]⟩ ↔ l=[]:=str_inj (b:=[])
theorem run_at (l:List UInt8) (i:Nat) (hi:i < l.length) (W:World):(Instr.index 9 (.string ⟨l.toArray⟩) (.int .i64 (i:Int))).run prog W=.ok (.int .u8 (l[i].toNat:Int)) W:=by
 have hsz:=str_len3 l
 have hi2:(0:Int)<=(i:Int)/\(i:Int) < ((⟨l.toArray⟩:ByteArray).size:Int):=by rw [hsz];omega
 rw [run_index_string W 9 _ .i64 i underlying9,dif_pos hi2]
 rfl
theorem str_part (l:List UInt8) (a b:Nat):(ByteArray.extract ⟨l.toArray⟩ a b)=⟨((l.drop a).take (b - a)).toArray⟩:=by
 rw [byte_ext (ByteArray.extract _ _ _),Lib.extract_data]
theorem str_to (l:List UInt8) (b:Nat):(ByteArray.extract ⟨l.toArray⟩ 0 b)=⟨(l.take b).toArray⟩:=by
 rw [str_part];simp
theorem str_from (l:List UInt8) (a:Nat):(ByteArray.extract ⟨l.toArray⟩ a (⟨l.toArray⟩:ByteArray).size)=⟨(l.drop a).toArray⟩:=by
 rw [str_part,str_len3,List.take_of_length_le (by rw [List.length_drop];exact Nat.le_refl _)]
theorem bool_ret {a b:Bool} (h:a=b):Ending.returned (.bool a)=Ending.returned (.bool b):=by rw [h]
def strs (l:List (List UInt8)):List Value:=l.map strV
@[simp] theorem strs_length (l:List (List UInt8)):(strs l).length=l.length:=by simp [strs]
theorem strs_append (a b:List (List UInt8)):strs (a++b)=strs a++strs b:=by simp [strs]
theorem all_take_succ {p:UInt8->Bool} {l:List UInt8} {k:Nat} (hk:k < l.length) (h:∀ i (hi:i < l.length),i < k->p l[i]=true) (h2:p l[k]=true):∀ i (hi:i < l.length),i < k+1->p l[i]=true:=fun i hi hik=>by
 rcases Nat.lt_or_ge i k with h3 | h3
 ·exact h i hi h3
 ·obtain rfl:i=k:=by omega
  exact h2
theorem all_of {p:UInt8->Bool} {l:List UInt8} {k:Nat} (hk:l.length<=k) (h:∀ i (hi:i < l.length),i < k->p l[i]=true):l.all p=true:=by
 rw [List.all_eq_true]
 intro c hc
 obtain ⟨i,hi,rfl⟩:=List.getElem_of_mem hc
 exact h i hi (by omega)
theorem not_all {p:UInt8->Bool} {l:List UInt8} {k:Nat} (hk:k < l.length) (h:p l[k]=false):l.all p=false:=by
 rw [<- Bool.not_eq_true,List.all_eq_true]
 intro hh
 have:=hh _ (List.getElem_mem hk)
 rw [h] at this
 cases this
theorem own_alloc {w:World} {e:TypeId} {xs:List Value} (hn:xs.length<=maxLen):(w.alloc (.cells xs.toArray e)).ownsRow w.heap.size e 1 (.slice (some ⟨w.heap.size,0,none⟩) xs.length xs.length) xs.length xs :=
 ⟨by simp,.inr ⟨w.heap.size,_,_,rfl,Nat.le_refl _,heap_alloc_new w _,Nat.le_refl _,hn,by simp,by simp⟩⟩
theorem Sl.cellN {X:Nat->Prop} {w:World} {e:TypeId} {b o n c:Nat} {xs:List Value} (h:Sl w X e (.slice (some ⟨b,o,none⟩) n c) n xs) {i:Nat} (hi:i < xs.length):w.cell? ⟨b,o+i,none⟩=some xs[i]:=by
 rw [Sl.cell h hi,List.getElem?_eq_getElem hi]
def SvX (w:World) (X:Nat->Prop) (v:Value) (n:Nat) (xs:List Value):Prop:=(∃ a c,v=.slice a n c)/\((n=0/\xs=[])\/∃ e,Sl w X e v n xs)
theorem SvX.of {w:World} {X:Nat->Prop} {e:TypeId} {v:Value} {n:Nat} {xs:List Value} (h:Sl w X e v n xs):SvX w X v n xs:=⟨h.len,.inr ⟨e,h⟩⟩
theorem SvX.len {w:World} {X:Nat->Prop} {v:Value} {n:Nat} {xs:List Value} (h:SvX w X v n xs):∃ a c,v=.slice a n c:=h.1
theorem SvX.get {w:World} {X:Nat->Prop} {v:Value} {n:Nat} {xs:List Value} (h:SvX w X v n xs) (hn:0 < n):∃ e,Sl w X e v n xs:=by
 rcases h.2 with ⟨h0,_⟩ | h
 ·omega
 ·exact h
theorem SvX.shape {w:World} {X:Nat->Prop} {v:Value} {n:Nat} {xs:List Value} (h:SvX w X v n xs) (hn:0 < n):∃ blk o c,v=.slice (some ⟨blk,o,none⟩) n c/\n<=c/\c<=maxLen/\¬ X blk:=by
 obtain ⟨e,h⟩:=h.get hn
 exact h.shape hn
theorem SvX.cellN {w:World} {X:Nat->Prop} {b o n c:Nat} {xs:List Value} (h:SvX w X (.slice (some ⟨b,o,none⟩) n c) n xs) {i:Nat} (hi:i < xs.length):w.cell? ⟨b,o+i,none⟩=some xs[i]:=by
 rcases h.2 with ⟨_,h0⟩ | ⟨e,h⟩
 ·subst h0;cases hi
 ·exact h.cellN hi
theorem SvX.keep {S X:Nat->Prop} {w w':World} {v:Value} {n:Nat} {xs:List Value} (h:SvX w X v n xs) (hm:Mod S w w') (hs:∀ (k:Nat) (_:Array Value) (_:Nat × Nat),S k->¬ X k->False):SvX w' X v n xs :=
 ⟨h.1,h.2.imp id fun ⟨e,h⟩=>⟨e,h.keep hm fun k cur fz a b=>(hs k cur fz a b).elim⟩⟩
theorem SvX.kn {X:Nat → Prop} {w w':World} {v:Value} {n:Nat} {xs:List Value} (h:SvX w X v n xs) (hm:Mod No w w'):SvX w' X v n xs:=h.keep hm (fun _ _ _ f=>f.elim)
theorem SvX.shrink {X Y:Nat->Prop} {w:World} {v:Value} {n:Nat} {xs:List Value} (h:SvX w X v n xs) (hy:∀ k,k < w.heap.size->Y k->X k):SvX w Y v n xs :=
 ⟨h.1,h.2.imp id fun ⟨e,h⟩=>⟨e,h.shrink hy⟩⟩
theorem SvX.avoid {X:Nat->Prop} {w:World} {v:Value} {n:Nat} {xs:List Value} (h:SvX w X v n xs):SvX w (fun q=>X q\/w.heap.size<=q) v n xs :=
 ⟨h.1,h.2.imp id fun ⟨e,h⟩=>⟨e,h.avoid⟩⟩
theorem SvX.lenle {w:World} {X:Nat->Prop} {v:Value} {n:Nat} {xs:List Value} (h:SvX w X v n xs):n<=9223372036854775807:=by
 rcases Nat.eq_zero_or_pos n with h0 | h0
 ·omega
 ·obtain ⟨_,_,c,_,h1,h2,_⟩:=h.shape h0
  unfold maxLen at h2
  omega
theorem string_sv {w:World} {src dst e:TypeId} {v:Value} {l:List UInt8} (h:SvX w No v l.length (bv l)) (hs:prog.underlying src=some (.slice e)) (he:prog.underlying e=some (.int .u8)) (hd:prog.underlying dst=some .string) :
  (convert src dst v).run prog w=.ok (strV l) w:=by
 obtain ⟨⟨a,c,rfl⟩,⟨h0,-⟩ | ⟨e2,h⟩⟩:=h
 ·obtain rfl:l=[]:=List.eq_nil_of_length_eq_zero h0
  have:=run_convert_bytes_string (P:=prog) w src dst e a 0 c hs he hd
  refine Eq.trans this ?_
  cases a with
  | none=>rfl
  | some a=>exact run_bytesToString w a 0 c [] (by unfold loadCells;rfl)
 ·exact string_of h hs he hd
def splitC (c:UInt8):List UInt8->List (List UInt8)
 | []=>[[]]
 | d :: l=>if d=c then [] :: splitC c l else match splitC c l with
  | []=>[[d]]
  | p :: r=>(d :: p) :: r
theorem splitC_ne (c:UInt8) (l:List UInt8):splitC c l ≠ []:=by
 cases l with
 | nil=>simp [splitC]
 | cons d l =>
  unfold splitC
  split
  ·simp
  ·split <;> simp
theorem splitC_none {c:UInt8}:∀ {l:List UInt8},(∀ d ∈ l,d ≠ c)->splitC c l=[l]
 | [],_=>rfl
 | d :: l,h=>by
  unfold splitC
  rw [if_neg (h d (by simp)),splitC_none (fun e he=>h e (by simp [he]))]
theorem splitC_hit {c:UInt8} (b:List UInt8):∀ {a:List UInt8},(∀ d ∈ a,d ≠ c)->splitC c (a++c :: b)=a :: splitC c b
 | [],_=>by
  show splitC c (c :: b)=_
  rw [splitC,if_pos rfl]
 | d :: a,h=>by
  show splitC c (d :: (a++c :: b))=_
  rw [splitC,if_neg (h d (by simp)),splitC_hit b (fun e he=>h e (by simp [he]))]
theorem splitC_length_le (c:UInt8):∀ l:List UInt8,(splitC c l).length<=l.length+1
 | []=>by simp [splitC]
 | d :: l=>by
  have ih:=splitC_length_le c l
  unfold splitC
  split
  ·simp;omega
  ·split
   ·simp
   ·rename_i h;rw [h] at ih;simp at ih ⊢;omega
theorem splitC_mem_le (c:UInt8):∀ (l:List UInt8),∀ p ∈ splitC c l,p.length<=l.length
 | [],p,hp=>by simp [splitC] at hp;simp [hp]
 | d :: l,p,hp=>by
  have ih:=splitC_mem_le c l
  unfold splitC at hp
  split at hp
  ·rcases List.mem_cons.1 hp with rfl | hp
   ·simp
   ·have:=ih p hp;simp;omega
  ·split at hp
   ·simp at hp;simp [hp]
   ·rename_i q r h
    rw [h] at ih
    rcases List.mem_cons.1 hp with rfl | hp
    ·have:=ih q (by simp);simp;omega
    ·have:=ih p (by simp [hp]);simp;omega
theorem first_place {c:UInt8}:∀ {l:List UInt8},c ∈ l->∃ a b,l=a++c :: b/\∀ d ∈ a,d ≠ c
 | d :: l,h=>by
  by_cases hd:d=c
  ·subst hd;exact ⟨[],l,rfl,fun _ h=>by cases h⟩
  ·obtain ⟨a,b,rfl,h2⟩:=first_place (c:=c) (l:=l) (by
    rcases List.mem_cons.1 h with h | h
    ·exact absurd h.symm hd
    ·exact h)
   exact ⟨d :: a,b,rfl,fun e he=>by
    rcases List.mem_cons.1 he with rfl | he
    ·exact hd
    ·exact h2 e he⟩
theorem index_none {c:UInt8}:∀ {l:List UInt8},(∀ d ∈ l,d ≠ c)->Lib.index l [c] = -1
 | [],_=>rfl
 | d :: l,h=>by
  have h1:([c]:List UInt8).isPrefixOf (d :: l)=false:=by simp [List.isPrefixOf,Ne.symm (h d (by simp))]
  rw [Lib.index,h1,index_none (fun e he=>h e (by simp [he]))]
  rfl
theorem index_hit {c:UInt8} (b:List UInt8):∀ {a:List UInt8},(∀ d ∈ a,d ≠ c)->Lib.index (a++c :: b) [c]=(a.length:Int)
 | [],_=>by
  show Lib.index (c :: b) [c]=0
  rw [Lib.index];simp [List.isPrefixOf]
 | d :: a,h=>by
  have h1:([c]:List UInt8).isPrefixOf (d :: (a++c :: b))=false:=by simp [List.isPrefixOf,Ne.symm (h d (by simp))]
  show Lib.index (d :: (a++c :: b)) [c]=_
  rw [Lib.index,h1,index_hit b (fun e he=>h e (by simp [he]))]
  rw [if_neg (by simp),if_neg (by simp)]
  simp
theorem splitK_C (c:UInt8):∀ (n:Nat) (l:List UInt8),l.length=n->∀ k,k=Lib.count l [c]->Lib.splitK [c] 0 k l=splitC c l:=by
 intro n
 induction n using Nat.strongRecOn with
 | ind n ih =>
  intro l hl k hk
  by_cases hc:c ∈ l
  ·obtain ⟨a,b,rfl,ha⟩:=first_place hc
   have hi:=index_hit b ha
   have hcount:=Lib.count_hit (s:=a++c :: b) (sub:=[c]) (by simp) hi
   have hd:(a++c :: b).drop (a.length + [c].length)=b:=by simp
   rw [hd] at hcount
   rw [hk,hcount,Nat.add_comm,Lib.splitK,hi,if_neg (by simp),splitC_hit b ha]
   have e1:((a.length:Int).toNat+0)=a.length:=by simp
   have e2:((a.length:Int).toNat + [c].length)=a.length + [c].length:=by simp
   rw [e1,e2,hd,List.take_left,ih b.length (by simp at hl;omega) b rfl _ rfl]
  ·have hn:∀ d ∈ l,d ≠ c:=fun d hd e=>hc (e ▸ hd)
   have hi:=index_none hn
   rw [hk,Lib.count_miss hi,splitC_none hn]
   rfl
theorem splitB_strs (c:UInt8) (l:List UInt8):(Lib.splitB ⟨#[c]⟩ 0 (Lib.countB ⟨l.toArray⟩ ⟨#[c]⟩) ⟨l.toArray⟩).map Value.string=strs (splitC c l):=by
 have h:=Lib.splitB_data ⟨#[c]⟩ 0 (Lib.countB ⟨l.toArray⟩ ⟨#[c]⟩) ⟨l.toArray⟩
 have h2:(Lib.splitB ⟨#[c]⟩ 0 (Lib.countB ⟨l.toArray⟩ ⟨#[c]⟩) ⟨l.toArray⟩).map (·.data.toList)=splitC c l:=h.trans (by
  show Lib.splitK [c] 0 (Lib.count l.toArray.toList [c]) l.toArray.toList=_
  rw [List.toList_toArray]
  exact splitK_C c _ l rfl _ rfl)
 rw [<- h2]
 unfold strs strV
 rw [List.map_map]
 refine List.map_congr_left fun z _=>?_
 show Value.string z=Value.string ⟨z.data.toList.toArray⟩
 rw [<- byte_ext]
def rightB (c:UInt8):Bool:=decide (32 < c.toNat) && decide (c.toNat < 127) && c != 34 && c != 92 && c != 42 && c != 63 && c != 58
def partB (s:List UInt8):Bool:=decide (s.length<=32) && s.all rightB
def partsG:List (List UInt8)->List (List UInt8)->List (List UInt8) ⊕ Nat
 | out,[]=>.inl out
 | out,x :: l =>
  if x=[]\/x=[46] then partsG out l
  else if x=[46,46] then (if out=[] then .inr 51 else partsG out.dropLast l)
  else if partB x then partsG (out++[x]) l else .inr 50
def glueP:List (List UInt8)->List UInt8
 | []=>[]
 | [x]=>x
 | x :: y :: l=>x++47 :: glueP (y :: l)
def cleanP (s:List UInt8):List UInt8 × Nat :=
 if 200 < s.length then ([],50)
 else if s.head? = some 47 then ([],51)
 else match partsG [] (splitC 47 s) with
  | .inr e=>([],e)
  | .inl out=>if 12 < out.length then ([],50) else (glueP out,0)
def parentP (p:List UInt8):List UInt8:=((p.reverse.dropWhile (· != 47)).drop 1).reverse
structure Fl where
 path:List UInt8
 dir:Bool
 b:List UInt8
deriving DecidableEq
abbrev Tr:=List Fl
def atT (t:Tr) (p:List UInt8):Option Fl:=t.find? fun f=>f.path == p
def nodeT (t:Tr) (p:List UInt8):Option (Bool × List UInt8):=if p=[] then some (true,[]) else (atT t p).map fun f=>(f.dir,f.b)
def aheadG (t:Tr):Nat->List UInt8->List (List UInt8)->Option (List (List UInt8))
 | 0,_,out=>some out
 | n+1,d,out=>if d=[] then some out else match atT t d with
  | none=>aheadG t n (parentP d) (out++[d])
  | some f=>if f.dir then aheadG t n (parentP d) out else none
def aheadT (t:Tr) (p:List UInt8):Option (List (List UInt8)):=aheadG t p.length (parentP p) []
def sizeT (t:Tr):Nat:=(t.map fun f=>f.b.length).sum
def roomT (t:Tr) (files:Nat) (more old:Nat):Bool:=decide (t.length+files<=500) && decide (sizeT t+more<=1048576+old)
def putT:Tr->Fl->Tr
 | [],f=>[f]
 | g :: l,f=>if g.path=f.path then f :: l else if g.path < f.path then g :: putT l f else f :: g :: l
def makeT (t:Tr) (l:List (List UInt8)):Tr:=l.foldl (fun t d=>putT t ⟨d,true,[]⟩) t
def writeT (t:Tr) (s b:List UInt8):Tr ⊕ Nat :=
 match cleanP s with
 |(p,e)=>if e ≠ 0 then .inr e else match nodeT t p with
  | some (true,_)=>.inr 54
  | some (false,c)=>match aheadT t p with
   | none=>.inr 54
   | some lack=>if 65536 < b.length\/roomT t 0 b.length c.length=false then .inr 55 else .inl (putT (makeT t lack) ⟨p,false,b⟩)
  | none=>match aheadT t p with
   | none=>.inr 54
   | some lack=>if 65536 < b.length\/roomT t (lack.length+1) b.length 0=false then .inr 55 else .inl (putT (makeT t lack) ⟨p,false,b⟩)
def mkdirT (t:Tr) (s:List UInt8):Tr ⊕ Nat :=
 match cleanP s with
 |(p,e)=>if e ≠ 0 then .inr e else match nodeT t p with
  | some (true,_)=>.inl t
  | some (false,_)=>.inr 54
  | none=>match aheadT t p with
   | none=>.inr 54
   | some lack=>if roomT t (lack.length+1) 0 0=false then .inr 55 else .inl (makeT t (lack++[p]))
def isDirT (t:Tr) (p:List UInt8):Bool:=match nodeT t p with
 | some (d,_)=>d
 | none=>false
def ofG (t:Tr) (seen:List (List UInt8)):List Fl->Tr ⊕ Nat
 | []=>.inl t
 | f :: l=>match cleanP f.path with
  |(p,e)=>if e ≠ 0 then .inr e else if p ∈ seen\/(f.dir=true/\isDirT t p=true) then .inr 53 else
   match (if f.dir then mkdirT t p else writeT t p f.b) with
   | .inr e=>.inr e
   | .inl t'=>ofG t' (p :: seen) l
def ofT (l:List Fl):Tr ⊕ Nat:=ofG [] [] l
theorem Mod.cell1 (w:World) (b i:Nat) (v:Value):Mod (fun p=>p=b) w (w.setCell ⟨b,i,none⟩ v):=Mod.setCell (S:=fun p=>p=b) (p:=⟨b,i,none⟩) (Mod.refl _ w) (fun _=>rfl) v
theorem Mod.no {S:Nat->Prop} {w w':World} (h:Mod No w w'):Mod S w w':=h.weaken (fun _ _ f=>f.elim)
def linesL (l:List UInt8):List (List UInt8):=if (splitC 10 l).getLast? = some [] then (splitC 10 l).dropLast else splitC 10 l
def silentB (l:List UInt8):Bool:=l.isEmpty || decide (l.head? = some 35)
theorem flat_length {α:Type} {f:α->List Value} {wd:Nat} (hf:∀ x,(f x).length=wd):∀ xs:List α,(xs.flatMap f).length=xs.length*wd
 | []=>by simp
 | x :: xs=>by
  rw [List.flatMap_cons,List.length_append,hf,flat_length hf xs,List.length_cons,Nat.succ_mul,Nat.add_comm]
theorem flat_get {α:Type} {f:α->List Value} {wd:Nat} (hf:∀ x,(f x).length=wd):∀ (xs:List α) {i:Nat} (hi:i < xs.length) {j:Nat} {u:Value},(f xs[i])[j]? = some u->(xs.flatMap f)[i*wd+j]? = some u
 | x :: xs,0,_,j,u,hj=>by
  have hj2:(f x)[j]? = some u:=hj
  have hlt:j < (f x).length:=(List.getElem?_eq_some_iff.1 hj2).1
  rw [List.flatMap_cons,Nat.zero_mul,Nat.zero_add,List.getElem?_append_left hlt,hj2]
 | x :: xs,i+1,hi,j,u,hj=>by
  have hj2:(f (xs[i]'(by simpa using hi)))[j]? = some u:=hj
  rw [List.flatMap_cons,List.getElem?_append_right (by rw [hf,Nat.succ_mul];omega),hf,show (i+1)*wd+j - wd=i*wd+j by rw [Nat.succ_mul];omega]
  exact flat_get hf xs (by simpa using hi) hj2
theorem Sl.at {α:Type} {f:α->List Value} {wd:Nat} {X:Nat->Prop} {w:World} {e:TypeId} {b o n c:Nat} {xs:List α} (hf:∀ x,(f x).length=wd) (h:Sl w X e (.slice (some ⟨b,o,none⟩) n c) n (xs.flatMap f)) {i:Nat} (hi:i < xs.length):w.rangeAt b (o+i*wd) (f xs[i]):=fun j u hj=>by
 have h1:=flat_get hf xs hi hj
 have h2:=Sl.cell h (List.getElem?_eq_some_iff.1 h1).1
 rw [Nat.add_assoc]
 rw [<- h1]
 exact h2
def Apart (ts:List TypeId) (S:Nat->Prop) (w:World):Prop:=∀ k cur fz e,S k->w.heap[k]? = some (.cells cur e fz)->e ∉ ts
theorem Apart.no (ts:List TypeId) (w:World):Apart ts No w:=fun _ _ _ _ f=>f.elim
theorem Apart.less {ts us:List TypeId} {S:Nat->Prop} {w:World} (h:Apart ts S w) (hs:∀ e ∈ us,e ∈ ts):Apart us S w:=fun k cur fz e hk hc he=>h k cur fz e hk hc (hs e he)
theorem Sl.apart {S:Nat->Prop} {w w':World} {e:TypeId} {v:Value} {n:Nat} {xs:List Value} (h:Sl w No e v n xs) (hm:Mod S w w') (ha:Apart [e] S w):Sl w' No e v n xs :=
 h.keep hm fun k cur fz hk _ hc=>ha k cur fz e hk hc (by simp)
theorem sl_new (w:World) (e:TypeId) (xs:List Value) {n c:Nat} (hn:n<=c) (hc:c<=maxLen):Sl (w.alloc (.cells xs.toArray e)) No e (.slice (some ⟨w.heap.size,0,none⟩) n c) n xs :=
 .inr ⟨w.heap.size,0,c,_,(0,0),rfl,hn,hc,fun f=>f,heap_alloc_new w _,by simp,fun i hi=>by simp⟩
def wtP (l:List (List UInt8)):Nat:=(l.map fun x=>x.length+1).sum
theorem wtP_cons (x:List UInt8) (l:List (List UInt8)):wtP (x :: l)=x.length+1+wtP l:=by simp [wtP]
theorem wtP_append (a b:List (List UInt8)):wtP (a++b)=wtP a+wtP b:=by simp [wtP]
theorem wtP_drop:∀ l:List (List UInt8),wtP l.dropLast<=wtP l
 | []=>Nat.le_refl _
 | [x]=>by simp [wtP]
 | x :: y :: l=>by
  rw [List.dropLast_cons_cons,wtP_cons,wtP_cons x]
  have:=wtP_drop (y :: l)
  omega
theorem parts_wt:∀ (l out out':List (List UInt8)),partsG out l=.inl out'->wtP out'<=wtP out+wtP l
 | [],out,out',h=>by
  unfold partsG at h
  cases h
  exact Nat.le_add_right _ _
 | x :: l,out,out',h=>by
  unfold partsG at h
  rw [wtP_cons]
  split at h
  ·have:=parts_wt l _ _ h;omega
  ·split at h
   ·split at h
    ·cases h
    ·have:=parts_wt l _ _ h
     have:=wtP_drop out
     omega
   ·split at h
    ·have:=parts_wt l _ _ h
     rw [wtP_append,wtP_cons] at this
     have e:wtP []=0:=rfl
     omega
    ·cases h
theorem parts_mem:∀ (l out out':List (List UInt8)),partsG out l=.inl out'->∀ x ∈ out',x ∈ out\/x ∈ l
 | [],out,out',h,x,hx=>by
  unfold partsG at h
  cases h
  exact .inl hx
 | y :: l,out,out',h,x,hx=>by
  unfold partsG at h
  split at h
  ·rcases parts_mem l _ _ h x hx with e | e
   ·exact .inl e
   ·exact .inr (by simp [e])
  ·split at h
   ·split at h
    ·cases h
    ·rcases parts_mem l _ _ h x hx with e | e
     ·exact .inl (List.dropLast_subset _ e)
     ·exact .inr (by simp [e])
   ·split at h
    ·rcases parts_mem l _ _ h x hx with e | e
     ·rcases List.mem_append.1 e with e | e
      ·exact .inl e
      ·exact .inr (by simp at e;simp [e])
     ·exact .inr (by simp [e])
    ·cases h
theorem split_wt (c:UInt8):∀ s:List UInt8,wtP (splitC c s)=s.length+1
 | []=>rfl
 | d :: s=>by
  have ih:=split_wt c s
  unfold splitC
  split
  ·rw [wtP_cons,ih];simp;omega
  ·split
   ·rename_i h;exact absurd h (splitC_ne c s)
   ·rename_i p r h
    rw [h,wtP_cons] at ih
    rw [wtP_cons]
    simp
    omega
theorem split_free (c:UInt8):∀ s:List UInt8,∀ x ∈ splitC c s,c ∉ x
 | [],x,hx=>by simp [splitC] at hx;simp [hx]
 | d :: s,x,hx=>by
  have ih:=split_free c s
  unfold splitC at hx
  split at hx
  ·rcases List.mem_cons.1 hx with rfl | hx
   ·simp
   ·exact ih x hx
  ·rename_i hd
   split at hx
   ·rename_i h;exact absurd h (splitC_ne c s)
   ·rename_i p r h
    rcases List.mem_cons.1 hx with rfl | hx
    ·have:=ih p (by rw [h];simp)
     simp only [List.mem_cons,not_or]
     exact ⟨fun e=>hd e.symm,this⟩
    ·exact ih x (by rw [h];simp [hx])
theorem glue_wt:∀ l:List (List UInt8),(glueP l).length<=wtP l - 1
 | []=>Nat.le_refl _
 | [x]=>by rw [wtP_cons];simp [glueP]
 | x :: y :: l=>by
  have ih:=glue_wt (y :: l)
  have e:1<=wtP (y :: l):=by rw [wtP_cons];omega
  rw [wtP_cons]
  simp only [glueP,List.length_append,List.length_cons]
  omega
theorem glue_cnt:∀ l:List (List UInt8),(∀ x ∈ l,(47:UInt8) ∉ x)->(glueP l).count 47<=l.length - 1
 | [],_=>Nat.le_refl _
 | [x],h=>by
  have:List.count 47 x=0:=List.count_eq_zero.2 (h x (by simp))
  simp [glueP,this]
 | x :: y :: l,h=>by
  have ih:=glue_cnt (y :: l) (fun z hz=>h z (by simp [hz]))
  have:List.count 47 x=0:=List.count_eq_zero.2 (h x (by simp))
  simp only [glueP,List.count_append,List.count_cons_self,this]
  simp only [List.length_cons] at ih ⊢
  omega
theorem clean_all (s:List UInt8):(cleanP s).1.length<=200/\(cleanP s).1.count 47<=11:=by
 unfold cleanP
 split
 ·exact ⟨Nat.zero_le _,Nat.zero_le _⟩
 ·split
  ·exact ⟨Nat.zero_le _,Nat.zero_le _⟩
  ·split
   ·exact ⟨Nat.zero_le _,Nat.zero_le _⟩
   ·rename_i out h
    split
    ·exact ⟨Nat.zero_le _,Nat.zero_le _⟩
    ·have h1:=parts_wt _ _ _ h
     rw [split_wt] at h1
     have h2:=glue_wt out
     have e:wtP []=0:=rfl
     have h3:=glue_cnt out fun x hx=>by
      rcases parts_mem _ _ _ h x hx with h | h
      ·cases h
      ·exact split_free 47 s x h
     exact ⟨by dsimp only;omega,by dsimp only;omega⟩
theorem parent_cnt (p:List UInt8):parentP p=[]\/(parentP p).count 47+1<=p.count 47:=by
 unfold parentP
 have h1:(p.reverse.dropWhile (· != 47)).count 47<=p.count 47:=by
  rw [<- List.count_reverse (l:=p)]
  exact (List.dropWhile_sublist _).count_le 47
 rcases h:p.reverse.dropWhile (· != 47) with _ | ⟨c,r⟩
 ·exact .inl rfl
 ·right
  have hc:c=47:=by
   have:=List.head_dropWhile_not (· != 47) (l:=p.reverse) (by rw [h];simp)
   simp only [h,List.head_cons] at this
   simpa using this
  rw [h,hc,List.count_cons_self] at h1
  simp only [List.drop_succ_cons,List.drop_zero,List.count_reverse]
  exact h1
theorem parent_len (p:List UInt8):(parentP p).length<=p.length - 1:=by
 unfold parentP
 have h1:(p.reverse.dropWhile (· != 47)).length<=p.length:=by
  have h:=(List.dropWhile_sublist (· != (47:UInt8)) (l:=p.reverse)).length_le
  simpa using h
 simp
 omega
theorem ahead_all (t:Tr):∀ (n:Nat) (d:List UInt8) (out out':List (List UInt8)),aheadG t n d out=some out'->(d=[]->out'=out)/\out'.length<=out.length+(d.count 47+1)/\∀ x ∈ out',x ∈ out\/x.length<=d.length
 | 0,d,out,out',h=>by
  unfold aheadG at h
  cases h
  exact ⟨fun _=>rfl,by omega,fun x hx=>.inl hx⟩
 | n+1,d,out,out',h=>by
  unfold aheadG at h
  split at h
  ·cases h
   exact ⟨fun _=>rfl,by omega,fun x hx=>.inl hx⟩
  ·rename_i hd
   have hp:=parent_len d
   have hc:=parent_cnt d
   have key:∀ out1,aheadG t n (parentP d) out1=some out'->out'.length<=out1.length+d.count 47/\∀ x ∈ out',x ∈ out1\/x.length<=d.length:=fun out1 h=>by
    obtain ⟨h1,h2,h3⟩:=ahead_all t n _ _ _ h
    refine ⟨?_,fun x hx=>(h3 x hx).imp id fun h=>by omega⟩
    rcases hc with hc | hc
    ·rw [h1 hc];omega
    ·omega
   refine ⟨fun e=>absurd e hd,?_⟩
   split at h
   ·obtain ⟨h1,h2⟩:=key _ h
    rw [List.length_append,List.length_singleton] at h1
    refine ⟨by omega,fun x hx=>?_⟩
    rcases h2 x hx with e | e
    ·rcases List.mem_append.1 e with e | e
     ·exact .inl e
     ·exact .inr (by rw [List.mem_singleton.1 e];omega)
    ·exact .inr e
   ·split at h
    ·obtain ⟨h1,h2⟩:=key _ h
     exact ⟨by omega,h2⟩
    ·cases h
theorem aheadT_all {t:Tr} {p:List UInt8} {l:List (List UInt8)} (h:aheadT t p=some l):l.length<=p.count 47/\∀ x ∈ l,x.length<=p.length:=by
 obtain ⟨h1,h2,h3⟩:=ahead_all t _ _ _ _ h
 have hp:=parent_len p
 refine ⟨?_,fun x hx=>by
  rcases h3 x hx with e | e
  ·cases e
  ·omega⟩
 rcases parent_cnt p with hc | hc
 ·rw [h1 hc];exact Nat.zero_le _
 ·simp only [List.length_nil] at h2;omega
theorem put_len:∀ (t:Tr) (f:Fl),(putT t f).length<=t.length+1
 | [],f=>by simp [putT]
 | g :: l,f=>by
  have:=put_len l f
  unfold putT
  split
  ·simp
  ·split
   ·simp;omega
   ·simp
theorem put_mem:∀ (t:Tr) (f g:Fl),g ∈ putT t f->g=f\/g ∈ t
 | [],f,g,h=>by simp [putT] at h;exact .inl h
 | k :: l,f,g,h=>by
  unfold putT at h
  split at h
  ·rcases List.mem_cons.1 h with h | h
   ·exact .inl h
   ·exact .inr (by simp [h])
  ·split at h
   ·rcases List.mem_cons.1 h with h | h
    ·exact .inr (by simp [h])
    ·exact (put_mem l f g h).imp id fun h=>by simp [h]
   ·rcases List.mem_cons.1 h with h | h
    ·exact .inl h
    ·exact .inr h
theorem make_all:∀ (l:List (List UInt8)) (t:Tr),(makeT t l).length<=t.length+l.length/\∀ g ∈ makeT t l,g ∈ t\/(g.path ∈ l/\g.b=[])
 | [],t=>⟨Nat.le_refl _,fun g h=>.inl h⟩
 | d :: l,t=>by
  have h1:=put_len t ⟨d,true,[]⟩
  obtain ⟨h2,h3⟩:=make_all l (putT t ⟨d,true,[]⟩)
  refine ⟨by show (makeT (putT t ⟨d,true,[]⟩) l).length<=_;rw [List.length_cons];omega,fun g hg=>?_⟩
  rcases h3 g hg with h | h
  ·rcases put_mem _ _ _ h with rfl | h
   ·exact .inr ⟨by simp,rfl⟩
   ·exact .inl h
  ·exact .inr ⟨by simp [h.1],h.2⟩
def SmT (n:Nat) (t:Tr):Prop:=t.length<=n/\∀ g ∈ t,g.path.length<=200/\g.b.length<=500
theorem SmT.make {n:Nat} {t:Tr} (h:SmT n t) {p:List UInt8} (hp:p.length<=200/\p.count 47<=11) {l:List (List UInt8)} (hl:aheadT t p=some l):SmT (n+11) (makeT t l):=by
 obtain ⟨h1,h2⟩:=aheadT_all hl
 obtain ⟨h3,h4⟩:=make_all l t
 have h0:=h.1
 refine ⟨by omega,fun g hg=>?_⟩
 rcases h4 g hg with h5 | ⟨h5,h6⟩
 ·exact h.2 g h5
 ·exact ⟨by have:=h2 _ h5;omega,by rw [h6];exact Nat.zero_le _⟩
theorem SmT.put {n:Nat} {t:Tr} (h:SmT n t) {f:Fl} (hf:f.path.length<=200/\f.b.length<=500):SmT (n+1) (putT t f):=by
 have h0:=h.1
 have h1:=put_len t f
 refine ⟨by omega,fun g hg=>?_⟩
 rcases put_mem _ _ _ hg with rfl | h5
 ·exact hf
 ·exact h.2 g h5
theorem make_append (t:Tr) (l m:List (List UInt8)):makeT t (l++m)=makeT (makeT t l) m:=List.foldl_append
theorem write_sm {n:Nat} {t t':Tr} {s b:List UInt8} (h:SmT n t) (hb:b.length<=500) (e:writeT t s b=.inl t'):SmT (n+12) t':=by
 have hp:=clean_all s
 unfold writeT at e
 generalize cleanP s=z at *
 obtain ⟨p,c⟩:=z
 dsimp only at e hp
 split at e
 ·cases e
 ·split at e
  ·cases e
  ·split at e
   ·cases e
   ·rename_i lack hl
    split at e
    ·cases e
    ·cases e
     exact (h.make hp hl).put ⟨hp.1,hb⟩
  ·split at e
   ·cases e
   ·rename_i lack hl
    split at e
    ·cases e
    ·cases e
     exact (h.make hp hl).put ⟨hp.1,hb⟩
theorem mkdir_sm {n:Nat} {t t':Tr} {s:List UInt8} (h:SmT n t) (e:mkdirT t s=.inl t'):SmT (n+12) t':=by
 have hp:=clean_all s
 unfold mkdirT at e
 generalize cleanP s=z at *
 obtain ⟨p,c⟩:=z
 dsimp only at e hp
 split at e
 ·cases e
 ·split at e
  ·cases e
   exact ⟨by have:=h.1;omega,h.2⟩
  ·cases e
  ·split at e
   ·cases e
   ·rename_i lack hl
    split at e
    ·cases e
    ·cases e
     rw [make_append]
     exact (h.make hp hl).put (f:=⟨p,true,[]⟩) ⟨hp.1,Nat.zero_le _⟩
theorem ofG_sm:∀ (l:List Fl) (n:Nat) (t t':Tr) (seen:List (List UInt8)),SmT n t->(∀ f ∈ l,f.b.length<=500)->ofG t seen l=.inl t'->SmT (n+12*l.length) t'
 | [],n,t,t',seen,h,hb,e=>by
  unfold ofG at e
  cases e
  exact h
 | f :: l,n,t,t',seen,h,hb,e=>by
  unfold ofG at e
  split at e
  split at e
  ·cases e
  ·split at e
   ·cases e
   ·split at e
    ·cases e
    ·rename_i t1 h1
     have hs:SmT (n+12) t1:=by
      split at h1
      ·exact mkdir_sm h h1
      ·exact write_sm h (hb f (by simp)) h1
     have:=ofG_sm l _ _ _ _ hs (fun g hg=>hb g (by simp [hg])) e
     rw [List.length_cons]
     exact ⟨by have:=this.1;omega,this.2⟩
theorem of_sm {l:List Fl} (hl:l.length<=20) (hb:∀ f ∈ l,f.b.length<=500) {t:Tr} (e:ofT l=.inl t):SmT 240 t:=by
 have h:=ofG_sm l 0 [] t [] ⟨Nat.le_refl _,fun g hg=>by cases hg⟩ hb e
 exact ⟨by have:=h.1;omega,h.2⟩
def fileB (f:Fl):List UInt8:=textB f.path++(textB f.b++boolB f.dir)
def treeB (t:Tr):List UInt8:=cnB t.length++t.flatMap fileB
theorem numB_few {n:Nat} (h:n < 18446744073709551616):(cnB n).length<=10:=numB_len 9 n (by omega)
theorem fileB_len {f:Fl} (h:f.path.length<=200/\f.b.length<=500):(fileB f).length<=721:=by
 have h1:=numB_few (n:=f.path.length) (by omega)
 have h2:=numB_few (n:=f.b.length) (by omega)
 simp only [fileB,textB,boolB,List.length_append,List.length_singleton]
 omega
theorem files_len:∀ {t:Tr},(∀ g ∈ t,g.path.length<=200/\g.b.length<=500)->(t.flatMap fileB).length<=721*t.length
 | [],_=>Nat.le_refl 0
 | f :: t,h=>by
  have h1:=fileB_len (h f (by simp))
  have h2:=files_len (t:=t) fun g hg=>h g (by simp [hg])
  rw [List.flatMap_cons,List.length_append,List.length_cons]
  omega
theorem treeB_len {t:Tr} (h:SmT 240 t):(treeB t).length<=173050:=by
 have h0:=h.1
 have h1:=numB_few (n:=t.length) (by omega)
 have h2:=files_len h.2
 rw [treeB,List.length_append]
 omega
theorem at_nil (k:List UInt8):atT [] k=none:=rfl
theorem at_cons (g:Fl) (t:Tr) (k:List UInt8):atT (g :: t) k=if g.path=k then some g else atT t k:=by
 unfold atT
 rw [List.find?_cons]
 by_cases h:g.path=k
 ·rw [if_pos h];simp [h]
 ·rw [if_neg h]
  have:(g.path == k)=false:=by simpa using h
  rw [this]
theorem at_put:∀ (t:Tr) (f:Fl) (k:List UInt8),atT (putT t f) k=if f.path=k then some f else atT t k
 | [],f,k=>by rw [putT,at_cons,at_nil]
 | g :: t,f,k=>by
  have ih:=at_put t f k
  unfold putT
  split
  ·rename_i h
   rw [at_cons,at_cons,h]
   by_cases e:f.path=k
   ·rw [if_pos e,if_pos e]
   ·rw [if_neg e,if_neg e,if_neg e]
  ·rename_i h
   split
   ·rw [at_cons,at_cons,ih]
    by_cases e:g.path=k
    ·rw [if_pos e,if_neg (fun e2=>h (e.trans e2.symm)),if_pos e]
    ·rw [if_neg e]
     by_cases e2:f.path=k
     ·rw [if_pos e2,if_pos e2]
     ·rw [if_neg e2,if_neg e2,if_neg e]
   ·rw [at_cons]
theorem at_path {t:Tr} {k:List UInt8} {f:Fl} (h:atT t k=some f):f.path=k/\f ∈ t:=by
 unfold atT at h
 exact ⟨by simpa using List.find?_some h,List.mem_of_find?_eq_some h⟩
abbrev AscT (t:Tr):Prop:=t.Pairwise fun a b=>a.path < b.path
theorem asc_nil:AscT []:=List.Pairwise.nil
theorem at_mem {t:Tr} (h:AscT t) {f:Fl} (hf:f ∈ t):atT t f.path=some f:=by
 induction t with
 | nil=>cases hf
 | cons g t ih =>
  obtain ⟨h1,h2⟩:=List.pairwise_cons.1 h
  rw [at_cons]
  rcases List.mem_cons.1 hf with rfl | hf
  ·rw [if_pos rfl]
  ·rw [if_neg fun e=>by
    have:=h1 f hf
    rw [e] at this
    exact List.lt_irrefl _ this]
   exact ih h2 hf
theorem lt_or {a b:List UInt8} (h1:a ≠ b) (h2:¬ a < b):b < a:=by
 rcases Std.lt_trichotomy a b with h | h | h
 ·exact absurd h h2
 ·exact absurd h h1
 ·exact h
theorem asc_put:∀ {t:Tr} (_:AscT t) (f:Fl),AscT (putT t f)
 | [],_,f=>by simp [putT]
 | g :: t,h,f=>by
  obtain ⟨h1,h2⟩:=List.pairwise_cons.1 h
  unfold putT
  split
  ·rename_i e
   exact List.pairwise_cons.2 ⟨fun x hx=>by rw [<- e];exact h1 x hx,h2⟩
  ·rename_i e
   split
   ·rename_i hl
    refine List.pairwise_cons.2 ⟨fun x hx=>?_,asc_put h2 f⟩
    rcases put_mem _ _ _ hx with rfl | hx
    ·exact hl
    ·exact h1 x hx
   ·rename_i hl
    have h3:=lt_or e hl
    refine List.pairwise_cons.2 ⟨fun x hx=>?_,h⟩
    rcases List.mem_cons.1 hx with rfl | hx
    ·exact h3
    ·exact List.lt_trans h3 (h1 x hx)
theorem put_count:∀ {t:Tr} (_:AscT t) (f:Fl),(putT t f).length=(if atT t f.path=none then t.length+1 else t.length)/\sizeT (putT t f)+(match atT t f.path with | some g=>g.b.length | none=>0)=sizeT t+f.b.length
 | [],_,f=>by simp [putT,at_nil,sizeT]
 | g :: t,h,f=>by
  obtain ⟨h1,h2⟩:=List.pairwise_cons.1 h
  unfold putT
  split
  ·rename_i e
   rw [at_cons,if_pos e]
   simp [sizeT]
   omega
  ·rename_i e
   obtain ⟨i1,i2⟩:=put_count h2 f
   split
   ·rw [at_cons,if_neg e]
    refine ⟨by rw [List.length_cons,i1];split <;> rfl,?_⟩
    simp only [sizeT,List.map_cons,List.sum_cons] at i2 ⊢
    omega
   ·rename_i hl
    have h3:=lt_or e hl
    have hn:atT t f.path=none:=by
     cases hx:atT t f.path with
     | none=>rfl
     | some x =>
      obtain ⟨p1,p2⟩:=at_path hx
      have h4:=List.lt_trans h3 (h1 x p2)
      rw [p1] at h4
      exact absurd h4 (List.lt_irrefl _)
    rw [at_cons,if_neg e,hn]
    simp [sizeT]
    omega
theorem tree_unique {s t:Tr} (hs:AscT s) (ht:AscT t) (h:∀ k,atT s k=atT t k):s=t:=by
 induction s generalizing t with
 | nil =>
  cases t with
  | nil=>rfl
  | cons g t =>
   have:=h g.path
   rw [at_nil,at_cons,if_pos rfl] at this
   cases this
 | cons f s ih =>
  cases t with
  | nil =>
   have:=h f.path
   rw [at_nil,at_cons,if_pos rfl] at this
   cases this
  | cons g t =>
   obtain ⟨h1,h2⟩:=List.pairwise_cons.1 hs
   obtain ⟨h3,h4⟩:=List.pairwise_cons.1 ht
   have hfg:f=g:=by
    have e1:=h f.path
    rw [at_cons,if_pos rfl] at e1
    have e2:=h g.path
    rw [at_cons g,if_pos rfl] at e2
    obtain ⟨-,m1⟩:=at_path e1.symm
    obtain ⟨-,m2⟩:=at_path e2
    rcases List.mem_cons.1 m1 with e | m1
    ·exact e
    ·rcases List.mem_cons.1 m2 with e | m2
     ·exact e.symm
     ·exact absurd (h1 g m2) (List.lt_asymm (h3 f m1))
   subst hfg
   refine congrArg (f :: ·) (ih h2 h4 fun k=>?_)
   have e:=h k
   rw [at_cons,at_cons] at e
   by_cases hk:f.path=k
   ·subst hk
    have n1:atT s f.path=none:=by
     cases hx:atT s f.path with
     | none=>rfl
     | some x =>
      obtain ⟨p1,p2⟩:=at_path hx
      have h5:=h1 x p2
      rw [p1] at h5
      exact absurd h5 (List.lt_irrefl _)
    have n2:atT t f.path=none:=by
     cases hx:atT t f.path with
     | none=>rfl
     | some x =>
      obtain ⟨p1,p2⟩:=at_path hx
      have h5:=h3 x p2
      rw [p1] at h5
      exact absurd h5 (List.lt_irrefl _)
    rw [n1,n2]
   ·rw [if_neg hk,if_neg hk] at e
    exact e
abbrev Rst:=Option (List UInt8)
def rdT:Rst->List UInt8 × Rst
 | none=>([],none)
 | some L=>match rdText L with
  | none=>([],none)
  | some (s,r)=>(s,some r)
def rdO:Rst->Bool × Rst
 | none=>(false,none)
 | some L=>match rdBool L with
  | none=>(false,none)
  | some (b,r)=>(b,some r)
def rdN:Rst->Nat × Rst
 | none=>(0,none)
 | some L=>match rdNum L with
  | none=>(0,none)
  | some (n,r)=>(n,some r)
def filesG:Nat->Rst->List Fl
 | 0,_=>[]
 | n+1,L=>⟨(rdT L).1,(rdO (rdT (rdT L).2).2).1,(rdT (rdT L).2).1⟩ :: filesG n (rdO (rdT (rdT L).2).2).2
def filesD (s:List UInt8):List Fl:=filesG (min (rdN (some s)).1 s.length) (rdN (some s)).2
theorem rd_tree (t:Tr) (ht:∀ f ∈ t,f.path.length < 18446744073709551616/\f.b.length < 18446744073709551616):filesG t.length (some (t.flatMap fileB))=t:=by
 induction t with
 | nil=>rfl
 | cons f t ih =>
  have h:=ht f (by simp)
  have e1:rdT (some ((f :: t).flatMap fileB))=(f.path,some (textB f.b++(boolB f.dir++t.flatMap fileB))):=by
   have:(f :: t).flatMap fileB=textB f.path++(textB f.b++(boolB f.dir++t.flatMap fileB)):=by simp [fileB]
   rw [this]
   unfold rdT
   dsimp only
   rw [rdText_text _ _ h.1]
  have e2:rdT (some (textB f.b++(boolB f.dir++t.flatMap fileB)))=(f.b,some (boolB f.dir++t.flatMap fileB)):=by
   unfold rdT
   dsimp only
   rw [rdText_text _ _ h.2]
  have e3:rdO (some (boolB f.dir++t.flatMap fileB))=(f.dir,some (t.flatMap fileB)):=by
   unfold rdO
   dsimp only
   rw [rdBool_bool]
  rw [List.length_cons,filesG,e1]
  dsimp only
  rw [e2]
  dsimp only
  rw [e3]
  dsimp only
  rw [ih fun g hg=>ht g (by simp [hg])]
theorem files_tree {t:Tr} (h:SmT 240 t):filesD (treeB t)=t:=by
 have h0:=h.1
 have e:rdN (some (treeB t))=(t.length,some (t.flatMap fileB)):=by
  unfold rdN treeB
  dsimp only
  rw [rdNum_num _ _ (by omega)]
 have hm:min t.length (treeB t).length=t.length:=by
  refine Nat.min_eq_left ?_
  have h1:=numB_pos t.length
  have h2:t.length<=(t.flatMap fileB).length:=by
   clear e h h0 h1
   induction t with
   | nil=>exact Nat.le_refl _
   | cons f t ih =>
    rw [List.flatMap_cons,List.length_append,List.length_cons]
    have:0 < (fileB f).length:=by simp only [fileB,boolB,List.length_append,List.length_singleton];omega
    omega
  rw [treeB,List.length_append]
  omega
 unfold filesD
 rw [e]
 dsimp only
 rw [hm]
 exact rd_tree t fun f hf=>by have:=h.2 f hf;omega
def packF (f:Fl):Nat:=3+min f.path.length 65535+(if f.dir then 0 else 8+f.b.length)
def packL (l:List Fl):Nat:=5+(l.map packF).sum
theorem packL_le {l:List Fl} (hl:l.length<=20) (h:∀ f ∈ l,f.path.length<=300/\f.b.length<=500):packL l<=20000:=by
 have key:∀ l:List Fl,(∀ f ∈ l,f.path.length<=300/\f.b.length<=500)->(l.map packF).sum<=811*l.length:=fun l=>by
  induction l with
  | nil=>intro _;exact Nat.le_refl _
  | cons f l ih =>
   intro h
   have h1:=ih fun g hg=>h g (by simp [hg])
   have h2:=h f (by simp)
   have h3:packF f<=811:=by
    unfold packF
    have:min f.path.length 65535<=f.path.length:=Nat.min_le_left _ _
    split <;> omega
   rw [List.map_cons,List.sum_cons,List.length_cons]
   omega
 have:=key l h
 unfold packL
 omega
theorem index_one (c:UInt8) (l:List UInt8):Lib.index (c :: l) [47]=if c=47 then 0 else if Lib.index l [47] == -1 then -1 else Lib.index l [47]+1:=by
 rw [Lib.index]
 have:List.isPrefixOf [47] (c :: l)=decide (c=47):=by
  rw [List.isPrefixOf,List.isPrefixOf]
  by_cases h1:c=47
  ·subst h1;rfl
  ·have e:((47:UInt8) == c)=false:=by simpa using fun h=>h1 h.symm
   simp [h1,e]
 rw [this]
 by_cases h:c=47
 ·rw [if_pos h,if_pos (by simpa using h)]
 ·rw [if_neg h,if_neg (by simpa using h)]
theorem splitS_none:∀ l:List UInt8,Lib.index l [47] = -1->splitC 47 l=[l]
 | [],_=>rfl
 | c :: l,h=>by
  rw [index_one] at h
  by_cases hc:c=47
  ·rw [if_pos hc] at h;cases h
  ·rw [if_neg hc] at h
   have h2:Lib.index l [47] = -1:=by
    by_cases e:Lib.index l [47] = -1
    ·exact e
    ·rw [if_neg (by simpa using e)] at h
     have:=Lib.index_ge l [47]
     omega
   rw [splitC,if_neg hc,splitS_none l h2]
theorem splitS_hit:∀ (l:List UInt8) (i:Nat),Lib.index l [47]=(i:Int)->splitC 47 l=l.take i :: splitC 47 (l.drop (i+1))/\i+1<=l.length
 | [],i,h=>by
  have:Lib.index [] [47] = -1:=rfl
  omega
 | c :: l,i,h=>by
  rw [index_one] at h
  by_cases hc:c=47
  ·rw [if_pos hc] at h
   obtain rfl:i=0:=by omega
   rw [splitC,if_pos hc]
   exact ⟨rfl,by simp⟩
  ·rw [if_neg hc] at h
   by_cases e:Lib.index l [47] = -1
   ·rw [if_pos (by simpa using e)] at h;omega
   ·rw [if_neg (by simpa using e)] at h
    obtain ⟨j,rfl⟩:∃ j,i=j+1:=⟨i - 1,by have:=Lib.index_ge l [47];omega⟩
    obtain ⟨h1,h2⟩:=splitS_hit l j (by omega)
    rw [splitC,if_neg hc,h1]
    exact ⟨rfl,by simp;omega⟩
set_option maxRecDepth 100000 in
theorem right_any (c:UInt8) (w:World):Calls prog 281 #[.int .u8 (c.toNat:Int)] w fun e w'=>e=.returned (.bool (rightB c))/\w'=w:=by
 refine calls_hide fun R hR=>?_
 have HS:=zh (show rightB c=(decide (32 < c.toNat) && decide (c.toNat < 127) && decide (c.toNat ≠ 34/\c.toNat ≠ 92/\c.toNat ≠ 42/\c.toNat ≠ 63/\c.toNat ≠ 58)) by
  have h:∀ k:UInt8,(c != k)=decide (c.toNat ≠ k.toNat):=fun k=>by
   rw [Bool.eq_iff_iff]
   simp [UInt8.toNat_inj]
  unfold rightB
  rw [h,h,h,h,h]
  generalize c.toNat=x
  rw [Bool.eq_iff_iff]
  simp
  omega)
 generalize rightB c=s at *
 generalize c.toNat=x at *
 go_enter func281,ntmps281
 by_cases h:x=34\/x=92\/x=42\/x=63\/x=58
 ·have HF:=zh (show s=false by rw [HS.out,Bool.and_eq_false_iff];right;simp;omega)
  clear HS
  rcases h with rfl | rfl | rfl | rfl | rfl <;>
  ·go_wp2_with fail
   exact fin hR ⟨by rw [HF.out];rfl,rfl⟩
 ·have a1:((x:Int) == 34)=false:=by rw [beq_eq_false_iff_ne];omega
  have a2:((x:Int) == 92)=false:=by rw [beq_eq_false_iff_ne];omega
  have a3:((x:Int) == 42)=false:=by rw [beq_eq_false_iff_ne];omega
  have a4:((x:Int) == 63)=false:=by rw [beq_eq_false_iff_ne];omega
  have a5:((x:Int) == 58)=false:=by rw [beq_eq_false_iff_ne];omega
  have HF:=zh (show s=(decide (32 < x) && decide (x < 127)) by rw [HS.out,decide_eq_true (by omega:x ≠ 34/\x ≠ 92/\x ≠ 42/\x ≠ 63/\x ≠ 58),Bool.and_true])
  clear HS
  by_cases h32:(32:Int) < (x:Int)
  ·go_wp2_with fail
   refine fin hR ⟨bool_ret ?_,rfl⟩
   rw [HF.out,decide_eq_true (by omega:32 < x)]
   simp
   omega
  ·go_wp2_with fail
   refine fin hR ⟨bool_ret ?_,rfl⟩
   rw [HF.out,decide_eq_false (by omega:¬ 32 < x)]
   simp
set_option maxRecDepth 100000 in
set_option maxHeartbeats 4000000 in
theorem part_any (l:List UInt8) (hl:l.length<=1000000) (w:World):Calls prog 233 #[strV l] w fun e w'=>e=.returned (.int .i64 (if partB l then 0 else 50))/\w'=w:=by
 refine calls_hide fun R hR=>?_
 have HX:=zh (run_at l)
 have HZ:=zh (str_len3 l)
 have HRT:=zh right_any
 have HPB:=zh (show partB l=(decide (l.length<=32) && l.all rightB) from rfl)
 unfold strV at *
 generalize (⟨l.toArray⟩:ByteArray)=Z at *
 have hZs:(Z.size:Int)=(l.length:Int):=by rw [HZ.out]
 go_enter func233,ntmps233
 by_cases h32:(32:Int) < (l.length:Int)
 ·have HE:=zh (show (if partB l=true then (0:Int) else 50)=50 by rw [HPB.out,decide_eq_false (by omega:¬ l.length<=32)];rfl)
  go_wp2_with fail
  exact fin hR ⟨by rw [HE.out];rfl,rfl⟩
 have HND:=zh (show partB l=l.all rightB by rw [HPB.out,decide_eq_true (by omega:l.length<=32),Bool.true_and])
 clear HPB
 go_wp2_with fail
 go_loopw [9] (fun q wr=>∃ k:Nat,k<=l.length/\q=.int .i64 (k:Int)/\wr=w/\∀ i (hi:i < l.length),i < k->rightB l[i]=true) (fun q _=>l.length - (intOf q).toNat)
 case atStart=>exact ⟨0,by omega,rfl,rfl,fun i _ hi=>absurd hi (by omega)⟩
 case round =>
  obtain ⟨k,hk,rfl,rfl,hall⟩:=hrel
  have hk0:(0:Int)<=(k:Int):=Int.natCast_nonneg _
  by_cases hlt:k < l.length
  ·have hk1:(k:Int) < (Z.size:Int):=by omega
   have hidx:=HX.out k hlt
   have HN:=zh (fun h=>all_take_succ (p:=rightB) hlt hall h)
   have HF:=zh (fun h=>not_all (p:=rightB) hlt h)
   have HRK:=zh (HRT.out l[k])
   generalize rightB l[k]=sg at *
   generalize l[k].toNat=x at *
   clear hall
   go_wp2_with fail
   with_reducible refine (HRK.out _).mono ?_
   rintro e w2 ⟨rfl,rfl⟩
   rcases sg with _ | _
   ·have HE:=zh (show (if partB l=true then (0:Int) else 50)=50 by rw [HND.out,HF.out rfl];rfl)
    clear hidx
    go_wp2_with fail
    exact fin hR ⟨by rw [HE.out];rfl,rfl⟩
   ·have HN2:=zh (HN.out rfl)
    clear hidx
    go_wp2_with fail
    exact ⟨⟨k+1,by omega,rfl,trivial,HN2.out⟩,by show l.length - ((k:Int)+1).toNat < l.length - (k:Int).toNat;omega⟩
  ·have HE:=zh (show (if partB l=true then (0:Int) else 50)=0 by rw [HND.out,all_of (p:=rightB) (by omega) hall];rfl)
   have hk1:¬ (k:Int) < (Z.size:Int):=by omega
   clear hall
   go_wp2_with fail
   exact fin hR ⟨by rw [HE.out],rfl⟩
theorem flat_takeM {α:Type} {f:α->List Value} {wd:Nat} {L:List α} (hf:∀ x ∈ L,(f x).length=wd) (k:Nat):(L.take k).flatMap f=(L.flatMap f).take (k*wd):=by
 induction L generalizing k with
 | nil=>simp
 | cons x L ih =>
  cases k with
  | zero=>simp
  | succ k =>
   have h1:=hf x (by simp)
   rw [List.take_succ_cons,List.flatMap_cons,List.flatMap_cons,ih (fun y hy=>hf y (by simp [hy])),Nat.succ_mul,List.take_append,h1,Nat.add_sub_cancel,List.take_of_length_le (l:=f x) (by rw [h1];omega)]
theorem flat_dropM {α:Type} {f:α->List Value} {wd:Nat} {L:List α} (hf:∀ x ∈ L,(f x).length=wd) (k:Nat):(L.drop k).flatMap f=(L.flatMap f).drop (k*wd):=by
 induction L generalizing k with
 | nil=>simp
 | cons x L ih =>
  cases k with
  | zero=>simp
  | succ k =>
   have h1:=hf x (by simp)
   rw [List.drop_succ_cons,List.flatMap_cons,ih (fun y hy=>hf y (by simp [hy])),Nat.succ_mul,List.drop_append,h1,Nat.add_sub_cancel,List.drop_of_length_le (l:=f x) (by rw [h1];omega),List.nil_append]
theorem split_step_none {c:UInt8} {l:List UInt8} {fr:Nat} (h:∀ i (hi:i < l.length),fr<=i->i < l.length->l[i] ≠ c):splitC c (l.drop fr)=[l.drop fr]:=splitC_none fun d hd=>by
 obtain ⟨i,hi,rfl⟩:=List.getElem_of_mem hd
 rw [List.getElem_drop]
 rw [List.length_drop] at hi
 exact h _ (by omega) (by omega) (by omega)
theorem split_step_hit {c:UInt8} {l:List UInt8} {fr k:Nat} (hk:k < l.length) (hfr:fr<=k) (h:∀ i (hi:i < l.length),fr<=i->i < k->l[i] ≠ c) (hc:l[k]=c):splitC c (l.drop fr)=(l.drop fr).take (k - fr) :: splitC c (l.drop (k+1)):=by
 have e:l.drop fr=(l.drop fr).take (k - fr)++c :: l.drop (k+1):=by
  conv=>lhs;rw [<- List.take_append_drop (k - fr) (l.drop fr)]
  rw [List.drop_drop,show fr+(k - fr)=k by omega,List.drop_eq_getElem_cons hk,hc]
 conv=>lhs;rw [e]
 refine splitC_hit _ fun d hd=>?_
 obtain ⟨i,hi,rfl⟩:=List.getElem_of_mem hd
 rw [List.length_take,List.length_drop] at hi
 rw [List.getElem_take,List.getElem_drop]
 exact h _ (by omega) (by omega) (by omega)
theorem info_strR:(prog.info? 9).map (fun i=>(i.zero,i.size,i.bytes))=some (some (.string ⟨#[]⟩),1,16):=by kernel_rfl
set_option maxRecDepth 100000 in
set_option maxHeartbeats 4000000 in
theorem rbad_any (l:List UInt8) (hl:l.length<=1000000) (w:World):Calls prog 175 #[strV l] w fun e w'=>e=.returned (.bool (!partB l))/\w'=w:=by
 refine calls_hide fun R hR=>?_
 have HX:=zh (run_at l)
 have HZ:=zh (str_len3 l)
 have HPB:=zh (show partB l=(decide (l.length<=32) && l.all rightB) from rfl)
 have HS:=zh (fun c:UInt8=>(show rightB c=(decide (32 < c.toNat) && decide (c.toNat < 127) && decide (c.toNat ≠ 34/\c.toNat ≠ 92/\c.toNat ≠ 42/\c.toNat ≠ 63/\c.toNat ≠ 58)) by
  have h:∀ k:UInt8,(c != k)=decide (c.toNat ≠ k.toNat):=fun k=>by
   rw [Bool.eq_iff_iff]
   simp [UInt8.toNat_inj]
  unfold rightB
  rw [h,h,h,h,h]
  generalize c.toNat=x
  rw [Bool.eq_iff_iff]
  simp
  omega))
 unfold strV at *
 generalize (⟨l.toArray⟩:ByteArray)=Z at *
 have hZs:(Z.size:Int)=(l.length:Int):=by rw [HZ.out]
 go_enter func175,ntmps175
 by_cases h32:(32:Int) < (l.length:Int)
 ·have HE:=zh (show (!partB l)=true by rw [HPB.out,decide_eq_false (by omega:¬ l.length<=32)];rfl)
  go_wp2_with fail
  exact fin hR ⟨by first | (rw [HE.out];done) | (rw [HE.out];rfl),rfl⟩
 have HND:=zh (show partB l=l.all rightB by rw [HPB.out,decide_eq_true (by omega:l.length<=32),Bool.true_and])
 clear HPB
 go_wp2_with fail
 go_loopw [3] (fun q wr=>∃ k:Nat,k<=l.length/\q=.int .i64 (k:Int)/\wr=w/\∀ i (hi:i < l.length),i < k->rightB l[i]=true) (fun q _=>l.length - (intOf q).toNat)
 case atStart=>exact ⟨0,by omega,rfl,rfl,fun i _ hi=>absurd hi (by omega)⟩
 case round =>
  obtain ⟨k,hk,rfl,rfl,hall⟩:=hrel
  have hk0:(0:Int)<=(k:Int):=Int.natCast_nonneg _
  by_cases hlt:k < l.length
  ·have hk1:(k:Int) < (Z.size:Int):=by omega
   have hidx:=HX.out k hlt
   have HN:=zh (fun h=>all_take_succ (p:=rightB) hlt hall h)
   have HF:=zh (fun h=>(show (!partB l)=true by rw [HND.out,not_all (p:=rightB) hlt h];rfl))
   have HSK:=zh (HS.out l[k])
   generalize rightB l[k]=sg at *
   generalize l[k].toNat=x at *
   clear hall
   by_cases h:x=34\/x=92\/x=42\/x=63\/x=58
   ·have HFF:=zh (HF.out (show sg=false by rw [HSK.out,Bool.and_eq_false_iff];right;simp;omega))
    clear HSK HN HF
    rcases h with rfl | rfl | rfl | rfl | rfl <;>
    ·go_wp2_with fail
     exact fin hR ⟨by first | (rw [HFF.out];done) | (rw [HFF.out];rfl),rfl⟩
   ·have a1:((x:Int) == 34)=false:=by rw [beq_eq_false_iff_ne];omega
    have a2:((x:Int) == 92)=false:=by rw [beq_eq_false_iff_ne];omega
    have a3:((x:Int) == 42)=false:=by rw [beq_eq_false_iff_ne];omega
    have a4:((x:Int) == 63)=false:=by rw [beq_eq_false_iff_ne];omega
    have a5:((x:Int) == 58)=false:=by rw [beq_eq_false_iff_ne];omega
    have HG:=zh (show sg=(decide (32 < x) && decide (x < 127)) by rw [HSK.out,decide_eq_true (by omega:x ≠ 34/\x ≠ 92/\x ≠ 42/\x ≠ 63/\x ≠ 58),Bool.and_true])
    clear HSK h
    by_cases h33:(x:Int) < 33
    ·have HFF:=zh (HF.out (by rw [HG.out,decide_eq_false (by omega:¬ 32 < x)];rfl))
     clear HG HN HF
     go_wp2_with fail
     exact fin hR ⟨by first | (rw [HFF.out];done) | (rw [HFF.out];rfl),rfl⟩
    ·by_cases h127:(126:Int) < (x:Int)
     ·have HFF:=zh (HF.out (by rw [HG.out,decide_eq_false (by omega:¬ x < 127),Bool.and_false]))
      clear HG HN HF
      go_wp2_with fail
      exact fin hR ⟨by first | (rw [HFF.out];done) | (rw [HFF.out];rfl),rfl⟩
     ·have HN2:=zh (HN.out (by rw [HG.out,decide_eq_true (by omega:32 < x),decide_eq_true (by omega:x < 127)];rfl))
      clear HG HN HF
      go_wp2_with fail
      exact ⟨⟨k+1,by omega,rfl,trivial,HN2.out⟩,by show l.length - ((k:Int)+1).toNat < l.length - (k:Int).toNat;omega⟩
  ·have HE:=zh (show (!partB l)=false by rw [HND.out,all_of (p:=rightB) (by omega) hall];rfl)
   have hk1:¬ (k:Int) < (Z.size:Int):=by omega
   clear hall
   go_wp2_with fail
   exact fin hR ⟨by first | (rw [HE.out];done) | (rw [HE.out];rfl),rfl⟩
set_option maxRecDepth 100000 in
set_option maxHeartbeats 4000000 in
theorem rsplit_any (l:List UInt8) (hl:l.length<=1000000) (w:World) :
  Calls prog 174 #[strV l] w fun e w'=>∃ v,e=.returned v/\w'.ownsRow w.heap.size 9 1 v (splitC 47 l).length (strs (splitC 47 l))/\Mod No w w':=by
 refine calls_hide fun R hR=>?_
 obtain ⟨i0,hi0,hz0,hz1,hz2⟩:=info_parts info_strR
 have HX:=zh (run_at l)
 have HEX:=zh (str_part l)
 have HZ:=zh (str_len3 l)
 have hT:=str_list l
 unfold strV at *
 generalize (⟨l.toArray⟩:ByteArray)=Z at *
 have hZs:(Z.size:Int)=(l.length:Int):=by rw [HZ.out]
 have HCT:=zh (fun d:UInt8=>(show d.toNat=47 ↔ d=47 from @UInt8.toNat_inj d 47))
 have hlen:=splitC_length_le 47 l
 go_enter func174,ntmps174
 go_wp2_with fail
 go_loopw [3,4,5] (fun o f q wr=>∃ (k fr:Nat) (outs:List (List UInt8)),k<=l.length+1/\fr<=k/\q=.int .i64 k/\f=.int .i64 fr/\wr.ownsRow w.heap.size 9 1 o outs.length (strs outs)/\Mod No w wr/\outs.length<=k ∧
  ((k<=l.length/\(∀ i (hi:i < l.length),fr<=i->i < k->l[i] ≠ 47)/\splitC 47 l=outs++splitC 47 (l.drop fr))\/(k=l.length+1/\splitC 47 l=outs))) (fun _ _ q _=>l.length+1 - (intOf q).toNat)
 case atStart=>exact ⟨0,0,[],by omega,by omega,rfl,rfl,⟨rfl,.inl ⟨rfl,rfl⟩⟩,Mod.refl _ _,by simp,.inl ⟨by omega,fun i _ _ h=>absurd h (by omega),rfl⟩⟩
 case round =>
  obtain ⟨k,fr,outs,hk,hfr,rfl,rfl,hown,hmod,hol,hcase⟩:=hrel
  have hk0:(0:Int)<=(k:Int):=Int.natCast_nonneg _
  have hf0:(0:Int)<=(fr:Int):=Int.natCast_nonneg _
  have hfk:(fr:Int)<=(k:Int):=by omega
  have HO:=zh hown
  have HM:=zh hmod
  have hbase:=hmod.size
  clear hown hmod
  by_cases hlt:k<=l.length
  ·obtain ⟨hno,hsp⟩:(∀ i (hi:i < l.length),fr<=i->i < k->l[i] ≠ 47)/\splitC 47 l=outs++splitC 47 (l.drop fr):=by
    rcases hcase with ⟨_,h⟩ | ⟨h,_⟩
    ·exact h
    ·omega
   clear hcase
   have hk1:(k:Int)<=(Z.size:Int):=by omega
   have HNO:=zh hno
   have HSP:=zh hsp
   clear hno hsp
   by_cases hkl:k=l.length
   ·have HST:=zh (split_step_none (c:=47) (l:=l) (fr:=fr) (fun i hi h1 h2=>HNO.out i hi h1 (by omega)))
    subst hkl
    have hext:=HEX.out fr l.length
    have HPC:=zh (show (l.drop fr).take (l.length - fr)=l.drop fr from List.take_of_length_le (by rw [List.length_drop];omega))
    generalize (l.drop fr).take (l.length - fr)=pc at *
    clear HNO
    have HMA:=zh ((Mod.refl No wr).alloc (.cells #[.string ⟨pc.toArray⟩] 9))
    have HOA:=zh (own_keepM HO.out HMA.out (fun _ _ f=>f))
    have HSA:=zh (show Sl (wr.alloc (.cells #[.string ⟨pc.toArray⟩] 9)) No 9 (.slice (some ⟨wr.heap.size,0,none⟩) 1 1) 1 [.string ⟨pc.toArray⟩] from .inr ⟨wr.heap.size,0,1,_,(0,0),rfl,Nat.le_refl _,by decide,fun f=>f,heap_alloc_new wr _,by simp,fun i hi=>by
     have h0:i=0:=by simp at hi;exact hi
     subst h0;rfl⟩)
    have hbA:w.heap.size<=(wr.alloc (.cells #[.string ⟨pc.toArray⟩] 9)).heap.size:=Nat.le_trans hbase HMA.out.size
    go_wp2_with (at_builtin;refine app_sl _ rfl _ _ 43 rfl w.heap.size 9 i0 (.string ⟨#[]⟩) 1 16 underlying43 hi0 hz0 hz1 hz2 rfl (by decide) _ _ _ rfl HOA.out No 9 _ 1 [.string ⟨pc.toArray⟩] rfl HSA.out rfl (by simp [Value.oneCell']) ?_ ?_ hbA ?_)
    ·unfold maxLen;omega
    ·omega
    intro v' w2 hown2 hg2 _
    have HO2:=zh hown2
    have HM2:=zh ((HM.out.trans HMA.out).then (Mod.of_grown (S:=fun q=>w.heap.size<=q) hg2 (fun q e _=>(HOA.out.lt _ e).1)) (fun i hi hq=>absurd hi (by omega)))
    clear hown2 hg2
    obtain ⟨va,vc,rfl⟩:=own_len HO2.out
    go_wp2_with fail
    refine ⟨⟨l.length+1,l.length+1,outs++[pc],by omega,by omega,rfl,rfl,?_,HM2.out,by simp;omega,.inr ⟨by omega,?_⟩⟩,by show l.length+1 - ((l.length:Int)+1).toNat < l.length+1 - (l.length:Int).toNat;omega⟩
    ·rw [List.length_append,strs_append];exact HO2.out
    ·rw [HSP.out,HST.out,HPC.out]
   ·have hkl2:k < l.length:=by omega
    have hkq:¬ (k:Int)=(l.length:Int):=by omega
    have hidx:=HX.out k hkl2
    have hext:=HEX.out fr k
    have HCK:=zh (HCT.out l[k])
    by_cases hc:l[k]=47
    ·have hc2:l[k].toNat=47:=by rw [hc];rfl
     rw [hc2] at hidx
     have HST:=zh (split_step_hit (c:=47) (l:=l) (fr:=fr) hkl2 hfr (fun i hi h1 h2=>HNO.out i hi h1 h2) hc)
     generalize (l.drop fr).take (k - fr)=pc at *
     clear HNO HCK hc2
     have HMA:=zh ((Mod.refl No wr).alloc (.cells #[.string ⟨pc.toArray⟩] 9))
     have HOA:=zh (own_keepM HO.out HMA.out (fun _ _ f=>f))
     have HSA:=zh (show Sl (wr.alloc (.cells #[.string ⟨pc.toArray⟩] 9)) No 9 (.slice (some ⟨wr.heap.size,0,none⟩) 1 1) 1 [.string ⟨pc.toArray⟩] from .inr ⟨wr.heap.size,0,1,_,(0,0),rfl,Nat.le_refl _,by decide,fun f=>f,heap_alloc_new wr _,by simp,fun i hi=>by
      have h0:i=0:=by simp at hi;exact hi
      subst h0;rfl⟩)
     have hbA:w.heap.size<=(wr.alloc (.cells #[.string ⟨pc.toArray⟩] 9)).heap.size:=Nat.le_trans hbase HMA.out.size
     go_wp2_with (at_builtin;refine app_sl _ rfl _ _ 43 rfl w.heap.size 9 i0 (.string ⟨#[]⟩) 1 16 underlying43 hi0 hz0 hz1 hz2 rfl (by decide) _ _ _ rfl HOA.out No 9 _ 1 [.string ⟨pc.toArray⟩] rfl HSA.out rfl (by simp [Value.oneCell']) ?_ ?_ hbA ?_)
     ·unfold maxLen;omega
     ·omega
     intro v' w2 hown2 hg2 _
     have HO2:=zh hown2
     have HM2:=zh ((HM.out.trans HMA.out).then (Mod.of_grown (S:=fun q=>w.heap.size<=q) hg2 (fun q e _=>(HOA.out.lt _ e).1)) (fun i hi hq=>absurd hi (by omega)))
     clear hown2 hg2
     obtain ⟨va,vc,rfl⟩:=own_len HO2.out
     go_wp2_with fail
     refine ⟨⟨k+1,k+1,outs++[pc],by omega,by omega,rfl,rfl,?_,HM2.out,by simp;omega,.inl ⟨by omega,fun i hi h1 h2=>by omega,?_⟩⟩,by show l.length+1 - ((k:Int)+1).toNat < l.length+1 - (k:Int).toNat;omega⟩
     ·rw [List.length_append,strs_append];exact HO2.out
     ·rw [HSP.out,HST.out,List.append_assoc];rfl
    ·have hc2:¬ l[k].toNat=47:=fun e=>hc (HCK.out.1 e)
     have HN2:=zh (show ∀ i (hi:i < l.length),fr<=i->i < k+1->l[i] ≠ 47 from fun i hi h1 h2=>by
      rcases Nat.lt_or_ge i k with h | h
      ·exact HNO.out i hi h1 h
      ·obtain rfl:i=k:=by omega
       exact hc)
     generalize l[k].toNat=y at *
     have hc3:((y:Int) == 47)=false:=by rw [beq_eq_false_iff_ne];omega
     have hc4:((k:Int) == (l.length:Int))=false:=by rw [beq_eq_false_iff_ne];omega
     clear HNO HCK
     go_wp2_with fail
     refine ⟨⟨k+1,fr,outs,by omega,by omega,rfl,rfl,HO.out,HM.out,by omega,.inl ⟨by omega,HN2.out,HSP.out⟩⟩,by show l.length+1 - ((k:Int)+1).toNat < l.length+1 - (k:Int).toNat;omega⟩
  ·have hsp:splitC 47 l=outs:=by
    rcases hcase with ⟨h,_⟩ | ⟨_,h⟩
    ·omega
    ·exact h
   have HSP:=zh hsp
   have hk2:¬ (k:Int)<=(l.length:Int):=by omega
   clear hsp hcase
   go_wp2_with fail
   refine fin hR ⟨_,rfl,?_,HM.out⟩
   rw [HSP.out]
   exact HO.out
theorem glueP_snoc (x:List UInt8):∀ l:List (List UInt8),glueP (l++[x])=if l=[] then x else glueP l++47 :: x
 | []=>rfl
 | [a]=>by simp [glueP]
 | a :: b :: l=>by
  have ih:=glueP_snoc x (b :: l)
  rw [if_neg (by simp)] at ih ⊢
  show a++47 :: glueP ((b :: l)++[x])=(a++47 :: glueP (b :: l))++47 :: x
  rw [ih]
  simp
set_option maxRecDepth 100000 in
set_option maxHeartbeats 4000000 in
theorem rglue_any (l:List (List UInt8)) (hl:wtP l<=1000000) (v:Value) (w:World) (hv:Sl w No 9 v l.length (strs l)) :
  Calls prog 176 #[v] w fun e w'=>e=.returned (strV (glueP l))/\w'=w:=by
 refine calls_hide fun R hR=>?_
 have HV:=zh hv
 obtain ⟨va,vc,rfl⟩:=hv.len
 have HW:=zh (fun k:Nat=>(show (glueP (l.take k)).length<=1000000 from by
  have h1:=glue_wt (l.take k)
  have h2:=wtP_append (l.take k) (l.drop k)
  rw [List.take_append_drop] at h2
  omega))
 have HL:=zh hl
 have hlb:l.length<=1000000:=by
  have:∀ m:List (List UInt8),m.length<=wtP m:=fun m=>by
   induction m with
   | nil=>exact Nat.zero_le _
   | cons a m ih=>rw [wtP_cons,List.length_cons];omega
  exact Nat.le_trans (this l) hl
 clear hv hl
 go_enter func176,ntmps176
 go_wp2_with fail
 go_loopw [3,4] (fun s q wr=>∃ k:Nat,k<=l.length/\s=strV (glueP (l.take k))/\q=.int .i64 (k:Int)/\wr=w) (fun _ q _=>l.length - (intOf q).toNat)
 case atStart=>exact ⟨0,by omega,rfl,rfl,rfl⟩
 case round =>
  obtain ⟨k,hk,rfl,rfl,rfl⟩:=hrel
  have hk0:(0:Int)<=(k:Int):=Int.natCast_nonneg _
  by_cases hlt:k < l.length
  ·have hk1:(k:Int) < (l.length:Int):=by omega
   obtain ⟨b,o,c,hvs,-⟩:=HV.out.shape (by omega)
   cases hvs
   have hcell:=HV.out.cellN (i:=k) (by rw [strs_length];exact hlt)
   have e0:(strs l)[k]'(by rw [strs_length];exact hlt)=strV l[k]:=by simp [strs]
   rw [e0] at hcell
   have HT:=zh (show glueP (l.take (k+1))=if l.take k=[] then l[k] else glueP (l.take k)++47 :: l[k] by rw [List.take_succ_eq_append_getElem hlt,glueP_snoc])
   have hb1:=HW.out k
   have hb2:=HW.out (k+1)
   have z1:=str_len3 (glueP (l.take k))
   have z2:=str_len3 l[k]
   have z3:=str_len3 (glueP (l.take (k+1)))
   rcases k with _ | k
   ·have hkn:¬ (0:Int) < ((0:Nat):Int):=by omega
    have hkn2:¬ (0:Int) < (0:Int):=by omega
    rw [Nat.add_zero] at hcell
    have e1:(⟨(glueP (l.take 0)).toArray⟩:ByteArray) ++ ⟨l[0].toArray⟩=⟨(glueP (l.take 1)).toArray⟩:=by
     have h:=HT.out
     rw [List.take_zero,if_pos rfl] at h
     rw [h]
     apply ByteArray.ext
     rw [ByteArray.data_append]
     simp [glueP]
    have hz:l[0].length<=1000000:=by
     have h:=HT.out
     rw [List.take_zero,if_pos rfl] at h
     rw [<- h];exact hb2
    unfold strV at *
    generalize (⟨(glueP (l.take 0)).toArray⟩:ByteArray)=A at *
    generalize (⟨l[0].toArray⟩:ByteArray)=B at *
    generalize hC:(⟨(glueP (l.take 1)).toArray⟩:ByteArray)=C at *
    have HC:=zh hC
    clear HT hC e0
    go_wp2_with fail
    exact ⟨⟨1,by omega,by rw [HC.out],rfl,trivial⟩,by show l.length - ((0:Int)+1).toNat < l.length - (0:Int).toNat;omega⟩
   ·have hkp:(0:Int) < ((k+1:Nat):Int):=by omega
    have hne:l.take (k+1) ≠ []:=by
     intro e
     have:=congrArg List.length e
     rw [List.length_take,List.length_nil] at this
     omega
    have hT:=HT.out
    rw [if_neg hne] at hT
    have hLS:(glueP (l.take (k+1))).length+1+l[k+1].length<=1000000:=by
     have h9:=congrArg List.length hT
     rw [List.length_append,List.length_cons] at h9
     omega
    obtain ⟨D,hD⟩:∃ D:ByteArray,D=(⟨(glueP (l.take (k+1))++[47]).toArray⟩:ByteArray):=⟨_,rfl⟩
    have zD:D.size=(glueP (l.take (k+1))).length+1:=by rw [hD,str_len3,List.length_append];rfl
    have e1:(⟨(glueP (l.take (k+1))).toArray⟩:ByteArray) ++ ⟨#[47]⟩=D:=by
     rw [hD]
     apply ByteArray.ext
     rw [ByteArray.data_append]
     simp
    have e2:D++(⟨l[k+1].toArray⟩:ByteArray)=⟨(glueP (l.take (k+1+1))).toArray⟩:=by
     rw [hD,hT]
     apply ByteArray.ext
     rw [ByteArray.data_append]
     simp
    clear hD hT HT hne e0
    generalize (glueP (l.take (k+1))).length=n1 at *
    generalize l[k+1].length=n2 at *
    unfold strV at *
    generalize (⟨(glueP (l.take (k+1))).toArray⟩:ByteArray)=A at *
    generalize (⟨l[k+1].toArray⟩:ByteArray)=B at *
    generalize hC:(⟨(glueP (l.take (k+1+1))).toArray⟩:ByteArray)=C at *
    have HC:=zh hC
    clear hC hb1 hb2 z3
    go_wp2_with fail
    exact ⟨⟨k+1+1,by omega,by rw [HC.out],rfl,trivial⟩,by show l.length - (((k+1:Nat):Int)+1).toNat < l.length - ((k+1:Nat):Int).toNat;omega⟩
  ·have hk1:¬ (k:Int) < (l.length:Int):=by omega
   have HE:=zh (show l.take k=l from List.take_of_length_le (by omega))
   rw [HE.out]
   go_wp2_with fail
   exact fin hR ⟨rfl,rfl⟩
set_option maxRecDepth 100000 in
set_option maxHeartbeats 4000000 in
theorem rparts_any (l:List UInt8) (hl:l.length<=1000000) (w:World) :
  Calls prog 177 #[strV l] w fun e w'=>∃ v,e=.returned v/\w'.ownsRow w.heap.size 9 1 v (if l=[] then [] else splitC 47 l).length (strs (if l=[] then [] else splitC 47 l))/\Mod No w w':=by
 refine calls_hide fun R hR=>?_
 have HS:=zh (rsplit_any l hl w)
 have HN:=zh (str_nil l)
 unfold strV at *
 generalize hZ:(⟨l.toArray⟩:ByteArray)=Z at *
 have HT:=zh (show Z.toList=l by rw [<- hZ];exact str_list l)
 clear hZ
 go_enter func177,ntmps177
 by_cases h:l=[]
 ·subst h
  have hz:=HN.out.2 rfl
  subst hz
  go_wp2_with fail
  exact fin hR ⟨_,rfl,⟨rfl,.inl ⟨rfl,rfl⟩⟩,Mod.refl _ _⟩
 ·have hz:¬ Z=⟨#[]⟩:=fun e=>h (HN.out.1 e)
  have HNE:=zh h
  have hb:(Z.toList == ([]:List UInt8))=false:=by
   rw [HT.out]
   cases l with
   | nil=>exact absurd rfl h
   | cons a l=>rfl
  clear h
  go_wp2_with fail
  with_reducible refine HS.out.mono ?_
  rintro e w2 ⟨v,rfl,hown,hm⟩
  have HO:=zh hown
  have HM:=zh hm
  obtain ⟨va,vc,rfl⟩:=own_len hown
  clear hown hm HS
  go_wp2_with fail
  refine fin hR ⟨_,rfl,?_,HM.out⟩
  rw [if_neg HNE.out]
  exact HO.out
end Go.Proofs.YtmppeipgjcjdkaaGreatDoor
