/-
  Layers 0 to 14: helps of the laws of indexes. No statement is proved here; no condition.
-/
import Derived.Test.YtgiigemfbebcgaaGreatDoorT01
import Derived.Test.YtgiigemfbebcgaaGreatDoorT00
import Derived.Deep.CutBlock
import Derived.Lib.Split
import Derived.Lib.SplitLaws
import Derived.Lib.IndexBytes
import Derived.Lib.Atoi
namespace Go.Proofs.YtgiigemfbebcgaaGreatDoor
open _root_.Go.Proofs.Tryz
open Go.RowKit
def blockAt (n:Nat):Code->Option Code
 | .block m c=>if m == n then some (.block m c) else blockAt n c
 | .seq a b=>match blockAt n a with
  | some c=>some c
  | none=>blockAt n b
 | .loop c=>blockAt n c
 | .scope c=>blockAt n c
 | .cond _ a b=>match blockAt n a with
  | some c=>some c
  | none=>blockAt n b
 | _=>none
def endsAt (n:Nat):Code->Bool
 | .block m _=>m == n
 | .seq _ b=>endsAt n b
 | _=>false
def behind (n:Nat):Code->Option Code
 | .seq a b=>if endsAt n a then some b else match behind n a with
  | some c=>some c
  | none=>behind n b
 | .loop c=>behind n c
 | .scope c=>behind n c
 | .block _ c=>behind n c
 | .cond _ a b=>match behind n a with
  | some c=>some c
  | none=>behind n b
 | _=>none
def Holds (t:Array Value):List (Nat × Value)->Prop
 | []=>True
 | p :: l=>t.getD p.1 undef=p.2/\Holds t l
structure Fr (n:Nat) (l:List (Nat × Value)) (a:Act):Prop where
 size:a.tmps.size=n
 defers:a.defers=[]
 holds:Holds a.tmps l
theorem arr_lits (t:Array Value):t=((List.range t.size).map fun i=>t.getD i undef).toArray:=by
 apply Array.ext
 ·simp
 ·intro i h1 h2
  simp [Array.getD,h1]
def Nope:Exit->Act->World->Prop:=fun _ _ _=>False
theorem wp_only {P:Program} {s:Code} {R K:Act->World->Prop} {Q':Exit->Act->World->Prop} {a:Act} {w:World} (h:s.wp P (Exit.then R Nope) a w) (hR:∀ a' w',R a' w'->K a' w'):s.wp P (Exit.then K Q') a w:=by
 refine wp_mono h ?_
 intro e a' w' hq
 cases e with
 | normal=>exact hR _ _ hq
 | exit id=>exact hq.elim
 | goto l=>exact hq.elim
 | ret=>exact hq.elim
 | panic ch=>exact hq.elim
 | outgrown=>exact hq.elim
theorem wp_part {P:Program} {s:Code} {R:Act->World->Prop} {Q':Exit->Act->World->Prop} {a:Act} {w:World}
  (first:∀ (J K':Act->World->Prop),(∀ a' w',R a' w'->J a' w')->(∀ a' w',Met J a' w'->K' a' w')->s.wp P (Exit.then K' Q') a w):s.wp P (Exit.then R Q') a w :=
 wp_cut R (fun _ _ h=>h) first
theorem str_len3 (l:List UInt8):(⟨l.toArray⟩:ByteArray).size=l.length:=by show l.toArray.size=_;simp
theorem info_byte:(prog.info? 5).map (fun i=>(i.zero,i.size,i.bytes))=some (some (.int .u8 0),1,1):=by kernel_rfl
def rotR (n:Nat) (x:Int):Int:=bits .or .u32 (x / 2 ^ n) (x*2 ^ (32 - n) % 4294967296)
set_option maxRecDepth 100000 in
theorem refturn_any (x:Int) (n:Nat) (hn:n < 32) (h0:0 < n) (w:World) :
  Calls prog 101 #[.int .u32 x,.int .i64 (n:Int)] w fun e w'=>e=.returned (.int .u32 (rotR n x))/\Mod No w w':=by
 refine calls_hide fun R hR=>?_
 have hn0:(0:Int) < (n:Int):=by omega
 have hn1:(n:Int) < 32:=by omega
 obtain ⟨m,hm⟩:∃ m,m=32 - n:=⟨_,rfl⟩
 have hmI:(32:Int) - (n:Int)=(m:Int):=by omega
 have hm0:(0:Int)<=(m:Int):=Int.natCast_nonneg _
 have hm1:(m:Int) < 32:=by omega
 have HM:=zh hm
 clear hm
 go_enter func101,ntmps101
 go_wp2_with fail
 go_quiet (fail)
 go_wp2_with fail
 exact fin hR ⟨by unfold rotR;rw [<- HM.out];rfl,(Mod.refl No w).drewN _⟩
def wCells (ws:List Int):Array Value:=((ws.map (Value.int .u32))++List.replicate (64 - ws.length) (Value.int .u32 0)).toArray
theorem wCells_new {ws:List Int} {i:Nat} (h:ws.length=i) (hi:i < 64):(wCells ws)[i]? = some (.int .u32 0):=by
 unfold wCells
 rw [List.getElem?_toArray,List.getElem?_append_right (by simp;omega),List.getElem?_replicate,if_pos (by simp;omega)]
theorem wCells_set {ws:List Int} {i:Nat} {x:Int} (h:ws.length=i) (hi:i < 64):(wCells ws).setIfInBounds i (.int .u32 x)=wCells (ws++[x]):=by
 unfold wCells
 rw [List.setIfInBounds_toArray]
 congr 1
 rw [show 64 - ws.length=(64 - (ws++[x]).length)+1 by simp;omega,List.replicate_succ,List.set_append_right _ _ (by simp;omega)]
 have:i - (ws.map (Value.int .u32)).length=0:=by simp;omega
 rw [this]
 simp
theorem wCells_old {ws:List Int} {k:Nat} {x:Int} (h:ws[k]? = some x):(wCells ws)[k]? = some (.int .u32 x):=by
 have hk:=(List.getElem?_eq_some_iff.1 h).1
 unfold wCells
 rw [List.getElem?_toArray,List.getElem?_append_left (by simpa using hk),List.getElem?_map,h];rfl
def be4 (y0 y1 y2 y3:Int):Int :=
 bits .or .u32 (bits .or .u32 (bits .or .u32 (IntKind.u32.wrap (IntKind.u32.wrap y0*16777216)) (IntKind.u32.wrap (IntKind.u32.wrap y1*65536))) (IntKind.u32.wrap (IntKind.u32.wrap y2*256))) (IntKind.u32.wrap y3)
def xo (a b:Int):Int:=bits .xor .u32 a b
def sg0 (x:Int):Int:=xo (xo (rotR 7 x) (rotR 18 x)) (x / 8)
def sg1 (x:Int):Int:=xo (xo (rotR 17 x) (rotR 19 x)) (x / 1024)
def wd (a b:Int):Int:=IntKind.u32.wrap (a+b)
def nextW (a16 a15 a7 a2:Int):Int:=wd (wd (wd a16 (sg0 a15)) a7) (sg1 a2)
def an (a b:Int):Int:=bits .and .u32 a b
def bigE (e:Int):Int:=xo (xo (rotR 6 e) (rotR 11 e)) (rotR 25 e)
def bigA (a:Int):Int:=xo (xo (rotR 2 a) (rotR 13 a)) (rotR 22 a)
def chF (e f g:Int):Int:=xo (an e f) (an (bits .xor .u32 IntKind.u32.max e) g)
def majF (a b c:Int):Int:=xo (xo (an a b) (an a c)) (an b c)
def oneF (e f g h k w:Int):Int:=(h+bigE e+chF e f g+k+w) % 4294967296
def twoF (a b c:Int):Int:=(bigA a+majF a b c) % 4294967296
def wordsF (b:Nat->Int):Nat->List Int
 | 0=>[]
 | n+1=>wordsF b n++[if n < 16 then be4 (b (4*n+0)) (b (4*n+1)) (b (4*n+2)) (b (4*n+3))
   else nextW ((wordsF b n).getD (n - 16) 0) ((wordsF b n).getD (n - 15) 0) ((wordsF b n).getD (n - 7) 0) ((wordsF b n).getD (n - 2) 0)]
theorem wordsF_length (b:Nat->Int):∀ n,(wordsF b n).length=n
 | 0=>rfl
 | n+1=>by unfold wordsF;rw [List.length_append,wordsF_length b n];rfl
theorem wordsF_at (b:Nat->Int) {n k:Nat} (h:k < n):(wordsF b n)[k]? = some ((wordsF b n).getD k 0):=by
 rw [List.getD_eq_getElem?_getD,List.getElem?_eq_getElem (by rw [wordsF_length];exact h)];rfl
theorem wordsF_lo (b:Nat->Int) {n:Nat} (h:n < 16):wordsF b (n+1)=wordsF b n++[be4 (b (4*n+0)) (b (4*n+1)) (b (4*n+2)) (b (4*n+3))]:=by
 rw [wordsF,if_pos h]
theorem wordsF_hi (b:Nat->Int) {n:Nat} (h:16<=n):wordsF b (n+1)=wordsF b n++[nextW ((wordsF b n).getD (n - 16) 0) ((wordsF b n).getD (n - 15) 0) ((wordsF b n).getD (n - 7) 0) ((wordsF b n).getD (n - 2) 0)]:=by
 rw [wordsF,if_neg (by omega)]
def rndL (s:List Int) (p:Int × Int):List Int :=
 match s with
 | [x0,x1,x2,x3,x4,x5,x6,x7]=>[wd (oneF x4 x5 x6 x7 p.1 p.2) (twoF x0 x1 x2),x0,x1,x2,wd x3 (oneF x4 x5 x6 x7 p.1 p.2),x4,x5,x6]
 | s=>s
def blockF (ks:List Int) (b:Nat->Int) (h:List Int):List Int:=List.zipWith wd h ((ks.zip (wordsF b 64)).foldl rndL h)
theorem rndL_length (s:List Int) (p:Int × Int) (h:s.length=8):(rndL s p).length=8:=by
 unfold rndL
 split
 ·rfl
 ·exact h
theorem foldl_rndL (l:List (Int × Int)):∀ s:List Int,s.length=8->(l.foldl rndL s).length=8:=by
 induction l with
 | nil=>exact fun s h=>h
 | cons p l ih=>exact fun s h=>ih _ (rndL_length s p h)
theorem blockF_length (ks:List Int) (b:Nat->Int) (h:List Int) (hh:h.length=8):(blockF ks b h).length=8:=by
 unfold blockF
 rw [List.length_zipWith,foldl_rndL _ _ hh,hh];rfl
theorem len8 {h:List Int} (hh:h.length=8):∃ h0 h1 h2 h3 h4 h5 h6 h7,h=[h0,h1,h2,h3,h4,h5,h6,h7]:=by
 match h,hh with
 | [h0,h1,h2,h3,h4,h5,h6,h7],_=>exact ⟨_,_,_,_,_,_,_,_,rfl⟩
def h0:List Int:=[1779033703,3144134277,1013904242,2773480762,1359893119,2600822924,528734635,1541459225]
def k0:List Int:=[1116352408,1899447441,3049323471,3921009573,961987163,1508970993,2453635748,2870763221,3624381080,310598401,607225278,1426881987,1925078388,2162078206,2614888103,3248222580,3835390401,4022224774,264347078,604807628,770255983,1249150122,1555081692,1996064986,2554220882,2821834349,2952996808,3210313671,3336571891,3584528711,113926993,338241895,666307205,773529912,1294757372,1396182291,1695183700,1986661051,2177026350,2456956037,2730485921,2820302411,3259730800,3345764771,3516065817,3600352804,4094571909,275423344,430227734,506948616,659060556,883997877,958139571,1322822218,1537002063,1747873779,1955562222,2024104815,2227730452,2361852424,2428436474,2756734187,3204031479,3329325298]
theorem wpList_builtAs {P:Program} {ops:Array Oper} {Q:Exit->Act->World->Prop} {a:Act} {w:World} {rest:List Oper} {o:Oper} (hg:o.guard=none) (t:TypeId) (parts:Array (Nat × Operand)) (ho:o.op=.build t parts)
  (cells:Array Value) (hc:P.built t (parts.map fun (i,x)=>(i,a.eval x)).toList=some cells) (h:wpList P ops Q rest (a.put o.dst (.agg cells)) w):wpList P ops Q (o :: rest) a w :=
 wpList_plain hg fun _ hK=>by
  unfold Oper.wp execOp
  simp only [ho,Sem.run_bind,run_build w t _ cells hc,Result.andThen_ok]
  exact hK _ _ h
def c8 (l:List Int):Array Value:=(l.map (Value.int .u32)).toArray
set_option maxRecDepth 100000 in
set_option maxHeartbeats 4000000 in
theorem table_any (w:World) :
  Calls prog 99 #[] w fun e w'=>e=.returned (.agg (c8 k0))/\Mod No w w':=by
 refine calls_hide fun R hR=>?_
 go_enter func99,ntmps99
 go_upto_region 1 with fail
 rename_i K hK
 have HK:=zh hK
 clear hK
 refine wp_region_lit ?_
 refine wpList_builtAs rfl 148 _ rfl (c8 k0) (by kernel_rfl) ?_
 refine wpList_store_row rfl 148 _ _ rfl w.heap.size (c8 k0) rfl rfl 148 _ (heap_alloc_new w _) (by kernel_rfl) (by kernel_rfl) (by kernel_rfl) ?_
 refine HK.out _ _ ?_
 refine wp_ret ?_
 exact bodyPost_ret (results_cell_row rfl _ _ w.heap.size 148 (c8 k0) (0,0) _ rfl (setRow_heap _ _ _ _ _ _ (heap_alloc_new w _)) underlying148 (by kernel_rfl) (by kernel_rfl)) rfl (fin hR ⟨rfl,(Mod.alloc (Mod.refl No w) _).then (T:=fun p=>p=w.heap.size) ⟨rfl,rfl,rfl,by simp [World.setRow],fun k hk hn=>setRow_other _ _ k _ hn⟩ (fun i hi e=>absurd hi (by omega))⟩)
def runF (ks:List Int):Nat->(Nat->Int)->List Int->List Int
 | 0,_,h=>h
 | n+1,b,h=>runF ks n (fun k=>b (64+k)) (blockF ks b h)
theorem wordsF_congr {b b':Nat->Int} (h:∀ k,k < 64->b k=b' k):∀ n,wordsF b n=wordsF b' n
 | 0=>rfl
 | n+1=>by
  unfold wordsF
  rw [wordsF_congr h n]
  by_cases hn:n < 16
  ·rw [if_pos hn,if_pos hn,h _ (by omega),h _ (by omega),h _ (by omega),h _ (by omega)]
  ·rw [if_neg hn,if_neg hn]
theorem blockF_congr {ks:List Int} {b b':Nat->Int} (h:∀ k,k < 64->b k=b' k) (s:List Int):blockF ks b s=blockF ks b' s:=by
 unfold blockF
 rw [wordsF_congr h]
theorem runF_congr {ks:List Int}:∀ (n:Nat) {b b':Nat->Int},(∀ k,k < 64*n->b k=b' k)->∀ s,runF ks n b s=runF ks n b' s
 | 0,_,_,_,_=>rfl
 | n+1,b,b',h,s=>by
  unfold runF
  rw [blockF_congr (fun k hk=>h k (by omega)),runF_congr n (b:=fun k=>b (64+k)) (b':=fun k=>b' (64+k)) (fun k hk=>h (64+k) (by omega))]
theorem runF_add {ks:List Int} (n:Nat):∀ (m:Nat) (b:Nat->Int) (s:List Int),runF ks (m+n) b s=runF ks n (fun k=>b (64*m+k)) (runF ks m b s)
 | 0,b,s=>by rw [Nat.zero_add];simp only [Nat.mul_zero,Nat.zero_add];rfl
 | m+1,b,s=>by
  rw [show m+1+n=(m+n)+1 by omega]
  show runF ks (m+n) (fun k=>b (64+k)) (blockF ks b s)=_
  rw [runF_add n m (fun k=>b (64+k))]
  show _=runF ks n (fun k=>b (64*(m+1)+k)) (runF ks m (fun k=>b (64+k)) (blockF ks b s))
  congr 1
  funext k
  congr 1
  omega
theorem runF_last {ks:List Int} (m:Nat) (b:Nat->Int) (s:List Int):runF ks (m+1) b s=blockF ks (fun k=>b (64*m+k)) (runF ks m b s):=runF_add 1 m b s
theorem runF_length (ks:List Int):∀ (n:Nat) (b:Nat->Int) (s:List Int),s.length=8->(runF ks n b s).length=8
 | 0,_,_,h=>h
 | n+1,b,s,h=>runF_length ks n _ _ (blockF_length ks b s h)
def bf (l:List UInt8) (k:Nat):Int:=((l.getD k 0).toNat:Int)
theorem bf_drop (l:List UInt8) (m k:Nat):bf (l.drop m) k=bf l (m+k):=by
 unfold bf
 rw [List.getD_eq_getElem?_getD,List.getD_eq_getElem?_getD,List.getElem?_drop]
theorem bv_bf {l:List UInt8} {k:Nat} (h:k < l.length):(bv l)[k]? = some (.int .u8 (bf l k)):=by
 unfold bv bf
 rw [List.getElem?_map,List.getElem?_eq_getElem h,List.getD_eq_getElem?_getD,List.getElem?_eq_getElem h];rfl
theorem Sl.bytes {X:Nat->Prop} {w:World} {b o n c:Nat} {l:List UInt8} (h:Sl w X 5 (.slice (some ⟨b,o,none⟩) n c) n (bv l)) {k:Nat} (hk:k < l.length):w.cell? ⟨b,o+k,none⟩=some (.int .u8 (bf l k)):=by
 rw [h.cell (a:=⟨b,o,none⟩) (by simpa [bv] using hk),bv_bf hk]
def lenByte (n i:Nat):UInt8:=UInt8.ofNat (n / 2 ^ (56 - 8*i))
def lenBytes (n i:Nat):List UInt8:=(List.range i).map (lenByte n)
theorem lenBytes_length (n i:Nat):(lenBytes n i).length=i:=by simp [lenBytes]
theorem lenBytes_succ (n i:Nat):lenBytes n (i+1)=lenBytes n i++[lenByte n i]:=by simp [lenBytes,List.range_succ]
theorem lenByte_val (n i s:Nat) (hs:s=56 - 8*i):((n:Int) / 2 ^ s) % 256=((lenByte n i).toNat:Int):=by
 subst hs
 unfold lenByte
 generalize 56 - 8*i=s
 rw [UInt8.toNat_ofNat',Int.natCast_emod,Int.natCast_ediv,Int.natCast_pow]
 rfl
def lenAt (L:List UInt8) (e n i:Nat):List UInt8:=L.take (e - 8)++lenBytes n i++L.drop (e - 8+i)
def keyB (h:List Int) (i:Nat):UInt8:=UInt8.ofNat (h.getD (i / 4) 0 / 2 ^ (24 - 8*(i % 4)) % 256).toNat
def keyF (h:List Int):List UInt8:=(List.range 32).map (keyB h)
theorem keyB_val (h:List Int) (i s:Nat) (x:Int) (hx:h.getD (i / 4) 0=x) (hs:s=24 - 8*(i % 4)):x / 2 ^ s % 256=((keyB h i).toNat:Int):=by
 subst hx hs
 unfold keyB
 generalize h.getD (i / 4) 0 / 2 ^ (24 - 8*(i % 4))=y
 rw [UInt8.toNat_ofNat']
 omega
def keyAt (h:List Int) (i:Nat):List UInt8:=(List.range i).map (keyB h)++List.replicate (32 - i) 0
theorem keyAt_full (h:List Int):keyAt h 32=keyF h:=by simp [keyAt,keyF]
theorem keyAt_get (h:List Int) {i:Nat} (hi:i < 32):(bv (keyAt h i)).toArray[i]? = some (.int .u8 0):=by
 unfold keyAt
 rw [List.getElem?_toArray,bv_append,List.getElem?_append_right (by simp)]
 have:i - (bv ((List.range i).map (keyB h))).length=0:=by simp
 rw [this,show 32 - i=(31 - i)+1 by omega,List.replicate_succ];rfl
theorem keyAt_set (h:List Int) {i:Nat} (hi:i < 32):(bv (keyAt h i)).toArray.setIfInBounds i (.int .u8 ((keyB h i).toNat:Int))=(bv (keyAt h (i+1))).toArray:=by
 rw [List.setIfInBounds_toArray]
 congr 1
 unfold keyAt
 rw [show 32 - i=(32 - (i+1))+1 by omega,List.replicate_succ,List.range_succ,List.map_append,bv_append,bv_append,bv_append,List.set_append_right _ _ (by simp)]
 have:i - (bv ((List.range i).map (keyB h))).length=0:=by simp
 rw [this,List.append_assoc]
 rfl
def lastN (l:List UInt8):Nat:=if 64 < l.length % 64+9 then 2 else 1
def bufF (l:List UInt8):List UInt8:=l.drop (64*(l.length / 64))++128 :: List.replicate (127 - l.length % 64) 0
def lastF (l:List UInt8):List UInt8:=lenAt (bufF l) (64*lastN l) (l.length*8) 8
def sumF (l:List UInt8):List UInt8:=keyF (runF k0 (lastN l) (bf (lastF l)) (runF k0 (l.length / 64) (bf l) h0))
theorem sumF_length (l:List UInt8):(sumF l).length=32:=by simp [sumF,keyF]
def padT (l:List UInt8):List UInt8:=l++128 :: List.replicate (64*lastN l - 9 - l.length % 64) 0++lenBytes (l.length*8) 8
theorem lastN_le (l:List UInt8):l.length % 64+9<=64*lastN l:=by
 unfold lastN
 split <;> omega
theorem lastN_le2 (l:List UInt8):lastN l<=2:=by
 unfold lastN
 split <;> omega
theorem padT_length (l:List UInt8):(padT l).length=64*(l.length / 64+lastN l):=by
 unfold padT
 have:=lastN_le l
 rw [List.length_append,List.length_append,List.length_cons,List.length_replicate,lenBytes_length]
 omega
theorem bf_append_left {a b:List UInt8} {k:Nat} (h:k < a.length):bf (a++b) k=bf a k:=by
 unfold bf
 rw [List.getD_eq_getElem?_getD,List.getD_eq_getElem?_getD,List.getElem?_append_left h]
def lastT (l:List UInt8):List UInt8:=l.drop (64*(l.length / 64))++128 :: List.replicate (64*lastN l - 9 - l.length % 64) 0++lenBytes (l.length*8) 8
theorem lastT_length (l:List UInt8):(lastT l).length=64*lastN l:=by
 unfold lastT
 have:=lastN_le l
 rw [List.length_append,List.length_append,List.length_cons,List.length_replicate,lenBytes_length,List.length_drop]
 omega
theorem padT_drop (l:List UInt8):(padT l).drop (64*(l.length / 64))=lastT l:=by
 unfold padT lastT
 rw [List.append_assoc,List.drop_append_of_le_length (by omega),List.append_assoc]
theorem lastF_lastT (l:List UInt8):∃ z,lastF l=lastT l++z:=by
 have h1:=lastN_le l
 have h2:=lastN_le2 l
 have h3:(l.drop (64*(l.length / 64))).length=l.length % 64:=by rw [List.length_drop];omega
 refine ⟨(bufF l).drop (64*lastN l - 8+8),?_⟩
 unfold lastF lenAt lastT bufF
 congr 2
 rw [List.take_append,h3,List.take_of_length_le (by omega),show 64*lastN l - 8 - l.length % 64=(64*lastN l - 9 - l.length % 64)+1 by omega,List.take_succ_cons,List.take_replicate,Nat.min_eq_left (by omega)]
theorem run_padT (l:List UInt8) (h:List Int):runF k0 (l.length / 64+lastN l) (bf (padT l)) h=runF k0 (lastN l) (bf (lastF l)) (runF k0 (l.length / 64) (bf l) h):=by
 rw [runF_add]
 obtain ⟨z,hz⟩:=lastF_lastT l
 have e1:runF k0 (l.length / 64) (bf (padT l)) h=runF k0 (l.length / 64) (bf l) h:=runF_congr _ (fun k hk=>by
  unfold padT
  rw [List.append_assoc]
  exact bf_append_left (by omega)) h
 rw [e1]
 refine runF_congr _ (fun k hk=>?_) _
 rw [<- bf_drop,padT_drop,hz,bf_append_left (by rw [lastT_length];exact hk)]
theorem sumF_padT (l:List UInt8):keyF (runF k0 ((padT l).length / 64) (bf (padT l)) h0)=sumF l:=by
 rw [padT_length,Nat.mul_div_cancel_left _ (by decide),run_padT];rfl
abbrev strV (l:List UInt8):Value:=.string ⟨l.toArray⟩
theorem byte_ext (Z:ByteArray):Z=⟨Z.data.toList.toArray⟩:=by cases Z;simp
theorem str_list (l:List UInt8):(⟨l.toArray⟩:ByteArray).toList=l:=by rw [ByteArray.toList_eq]
theorem str_inj {a b:List UInt8}:(⟨a.toArray⟩:ByteArray)=⟨b.toArray⟩ ↔ a=b:=by
 constructor
 ·intro h
  have:=congrArg (fun z:ByteArray=>z.data.toList) h
  simpa using this
 ·rintro rfl;rfl
theorem str_nil (l:List UInt8):(⟨l.toArray⟩:ByteArray)=⟨#[]⟩ ↔ l=[]:=str_inj (b:=[])
theorem run_at (l:List UInt8) (i:Nat) (hi:i < l.length) (W:World):(Instr.index 9 (.string ⟨l.toArray⟩) (.int .i64 (i:Int))).run prog W=.ok (.int .u8 (l[i].toNat:Int)) W:=by
 have hsz:=str_len3 l
 have hi2:(0:Int)<=(i:Int)/\(i:Int) < ((⟨l.toArray⟩:ByteArray).size:Int):=by rw [hsz];omega
 rw [run_index_string W 9 _ .i64 i underlying9,dif_pos hi2]
 rfl
theorem str_part (l:List UInt8) (a b:Nat):(ByteArray.extract ⟨l.toArray⟩ a b)=⟨((l.drop a).take (b - a)).toArray⟩:=by
 rw [byte_ext (ByteArray.extract _ _ _),Lib.extract_data]
theorem str_to (l:List UInt8) (b:Nat):(ByteArray.extract ⟨l.toArray⟩ 0 b)=⟨(l.take b).toArray⟩:=by
 rw [str_part];simp
theorem str_from (l:List UInt8) (a:Nat):(ByteArray.extract ⟨l.toArray⟩ a (⟨l.toArray⟩:ByteArray).size)=⟨(l.drop a).toArray⟩:=by
 rw [str_part,str_len3,List.take_of_length_le (by rw [List.length_drop];exact Nat.le_refl _)]
theorem bool_ret {a b:Bool} (h:a=b):Ending.returned (.bool a)=Ending.returned (.bool b):=by rw [h]
def strs (l:List (List UInt8)):List Value:=l.map strV
@[simp] theorem strs_length (l:List (List UInt8)):(strs l).length=l.length:=by simp [strs]
theorem strs_append (a b:List (List UInt8)):strs (a++b)=strs a++strs b:=by simp [strs]
theorem strs_one (l:List (List UInt8)):∀ u ∈ strs l,u.oneCell'=true:=by
 intro u hu
 obtain ⟨_,_,rfl⟩:=List.mem_map.1 hu
 rfl
def dig (c:UInt8):Bool:=decide (48<=c.toNat) && decide (c.toNat<=57)
def digitsB (l:List UInt8):Bool:=l.all dig && !l.isEmpty
def plainB (l:List UInt8):Bool:=decide (l.length=1) || decide (l.head? ≠ some 48)
def decV (l:List UInt8):Nat:=l.foldl (fun n c=>10*n+(c.toNat - 48)) 0
def numB (l:List UInt8):Bool:=digitsB l && decide (l.length<=9) && plainB l
def signB (c:UInt8):Bool:=dig c || (decide (97<=c.toNat) && decide (c.toNat<=122)) || (decide (65<=c.toNat) && decide (c.toNat<=90)) || decide (c.toNat=45)
def markB (l:List UInt8):Bool:=!l.isEmpty && decide (l.length<=16) && (!digitsB l || plainB l) && l.all signB
theorem all_take_succ {p:UInt8->Bool} {l:List UInt8} {k:Nat} (hk:k < l.length) (h:∀ i (hi:i < l.length),i < k->p l[i]=true) (h2:p l[k]=true):∀ i (hi:i < l.length),i < k+1->p l[i]=true:=fun i hi hik=>by
 rcases Nat.lt_or_ge i k with h3 | h3
 ·exact h i hi h3
 ·obtain rfl:i=k:=by omega
  exact h2
theorem all_of {p:UInt8->Bool} {l:List UInt8} {k:Nat} (hk:l.length<=k) (h:∀ i (hi:i < l.length),i < k->p l[i]=true):l.all p=true:=by
 rw [List.all_eq_true]
 intro c hc
 obtain ⟨i,hi,rfl⟩:=List.getElem_of_mem hc
 exact h i hi (by omega)
theorem not_all {p:UInt8->Bool} {l:List UInt8} {k:Nat} (hk:k < l.length) (h:p l[k]=false):l.all p=false:=by
 rw [<- Bool.not_eq_true,List.all_eq_true]
 intro hh
 have:=hh _ (List.getElem_mem hk)
 rw [h] at this
 cases this
def splitC (c:UInt8):List UInt8->List (List UInt8)
 | []=>[[]]
 | d :: l=>if d=c then [] :: splitC c l else match splitC c l with
  | []=>[[d]]
  | p :: r=>(d :: p) :: r
theorem splitC_ne (c:UInt8) (l:List UInt8):splitC c l ≠ []:=by
 cases l with
 | nil=>simp [splitC]
 | cons d l =>
  unfold splitC
  split
  ·simp
  ·split <;> simp
theorem splitC_none {c:UInt8}:∀ {l:List UInt8},(∀ d ∈ l,d ≠ c)->splitC c l=[l]
 | [],_=>rfl
 | d :: l,h=>by
  unfold splitC
  rw [if_neg (h d (by simp)),splitC_none (fun e he=>h e (by simp [he]))]
theorem splitC_hit {c:UInt8} (b:List UInt8):∀ {a:List UInt8},(∀ d ∈ a,d ≠ c)->splitC c (a++c :: b)=a :: splitC c b
 | [],_=>by
  show splitC c (c :: b)=_
  rw [splitC,if_pos rfl]
 | d :: a,h=>by
  show splitC c (d :: (a++c :: b))=_
  rw [splitC,if_neg (h d (by simp)),splitC_hit b (fun e he=>h e (by simp [he]))]
theorem splitC_length_le (c:UInt8):∀ l:List UInt8,(splitC c l).length<=l.length+1
 | []=>by simp [splitC]
 | d :: l=>by
  have ih:=splitC_length_le c l
  unfold splitC
  split
  ·simp;omega
  ·split
   ·simp
   ·rename_i h;rw [h] at ih;simp at ih ⊢;omega
theorem splitC_mem_le (c:UInt8):∀ (l:List UInt8),∀ p ∈ splitC c l,p.length<=l.length
 | [],p,hp=>by simp [splitC] at hp;simp [hp]
 | d :: l,p,hp=>by
  have ih:=splitC_mem_le c l
  unfold splitC at hp
  split at hp
  ·rcases List.mem_cons.1 hp with rfl | hp
   ·simp
   ·have:=ih p hp;simp;omega
  ·split at hp
   ·simp at hp;simp [hp]
   ·rename_i q r h
    rw [h] at ih
    rcases List.mem_cons.1 hp with rfl | hp
    ·have:=ih q (by simp);simp;omega
    ·have:=ih p (by simp [hp]);simp;omega
theorem first_place {c:UInt8}:∀ {l:List UInt8},c ∈ l->∃ a b,l=a++c :: b/\∀ d ∈ a,d ≠ c
 | d :: l,h=>by
  by_cases hd:d=c
  ·subst hd;exact ⟨[],l,rfl,fun _ h=>by cases h⟩
  ·obtain ⟨a,b,rfl,h2⟩:=first_place (c:=c) (l:=l) (by
    rcases List.mem_cons.1 h with h | h
    ·exact absurd h.symm hd
    ·exact h)
   exact ⟨d :: a,b,rfl,fun e he=>by
    rcases List.mem_cons.1 he with rfl | he
    ·exact hd
    ·exact h2 e he⟩
theorem index_none {c:UInt8}:∀ {l:List UInt8},(∀ d ∈ l,d ≠ c)->Lib.index l [c] = -1
 | [],_=>rfl
 | d :: l,h=>by
  have h1:([c]:List UInt8).isPrefixOf (d :: l)=false:=by simp [List.isPrefixOf,Ne.symm (h d (by simp))]
  rw [Lib.index,h1,index_none (fun e he=>h e (by simp [he]))]
  rfl
theorem index_hit {c:UInt8} (b:List UInt8):∀ {a:List UInt8},(∀ d ∈ a,d ≠ c)->Lib.index (a++c :: b) [c]=(a.length:Int)
 | [],_=>by
  show Lib.index (c :: b) [c]=0
  rw [Lib.index];simp [List.isPrefixOf]
 | d :: a,h=>by
  have h1:([c]:List UInt8).isPrefixOf (d :: (a++c :: b))=false:=by simp [List.isPrefixOf,Ne.symm (h d (by simp))]
  show Lib.index (d :: (a++c :: b)) [c]=_
  rw [Lib.index,h1,index_hit b (fun e he=>h e (by simp [he]))]
  rw [if_neg (by simp),if_neg (by simp)]
  simp
theorem splitK_C (c:UInt8):∀ (n:Nat) (l:List UInt8),l.length=n->∀ k,k=Lib.count l [c]->Lib.splitK [c] 0 k l=splitC c l:=by
 intro n
 induction n using Nat.strongRecOn with
 | ind n ih =>
  intro l hl k hk
  by_cases hc:c ∈ l
  ·obtain ⟨a,b,rfl,ha⟩:=first_place hc
   have hi:=index_hit b ha
   have hcount:=Lib.count_hit (s:=a++c :: b) (sub:=[c]) (by simp) hi
   have hd:(a++c :: b).drop (a.length + [c].length)=b:=by simp
   rw [hd] at hcount
   rw [hk,hcount,Nat.add_comm,Lib.splitK,hi,if_neg (by simp),splitC_hit b ha]
   have e1:((a.length:Int).toNat+0)=a.length:=by simp
   have e2:((a.length:Int).toNat + [c].length)=a.length + [c].length:=by simp
   rw [e1,e2,hd,List.take_left,ih b.length (by simp at hl;omega) b rfl _ rfl]
  ·have hn:∀ d ∈ l,d ≠ c:=fun d hd e=>hc (e ▸ hd)
   have hi:=index_none hn
   rw [hk,Lib.count_miss hi,splitC_none hn]
   rfl
theorem splitB_strs (c:UInt8) (l:List UInt8):(Lib.splitB ⟨#[c]⟩ 0 (Lib.countB ⟨l.toArray⟩ ⟨#[c]⟩) ⟨l.toArray⟩).map Value.string=strs (splitC c l):=by
 have h:=Lib.splitB_data ⟨#[c]⟩ 0 (Lib.countB ⟨l.toArray⟩ ⟨#[c]⟩) ⟨l.toArray⟩
 have h2:(Lib.splitB ⟨#[c]⟩ 0 (Lib.countB ⟨l.toArray⟩ ⟨#[c]⟩) ⟨l.toArray⟩).map (·.data.toList)=splitC c l:=h.trans (by
  show Lib.splitK [c] 0 (Lib.count l.toArray.toList [c]) l.toArray.toList=_
  rw [List.toList_toArray]
  exact splitK_C c _ l rfl _ rfl)
 rw [<- h2]
 unfold strs strV
 rw [List.map_map]
 refine List.map_congr_left fun z _=>?_
 show Value.string z=Value.string ⟨z.data.toList.toArray⟩
 rw [<- byte_ext]
def headC (c:UInt8) (l:List UInt8):List UInt8:=l.takeWhile (fun d=>!decide (d=c))
def tailC (c:UInt8) (l:List UInt8):List UInt8:=l.drop ((headC c l).length+1)
theorem headC_hit {c:UInt8} {a:List UInt8} (b:List UInt8) (h:∀ d ∈ a,d ≠ c):headC c (a++c :: b)=a:=by
 unfold headC
 rw [List.takeWhile_append_of_pos (by intro d hd;simpa using h d hd)]
 simp
theorem headC_none {c:UInt8} {l:List UInt8} (h:∀ d ∈ l,d ≠ c):headC c l=l:=by
 unfold headC
 have:=List.takeWhile_append_of_pos (p:=fun d=>!decide (d=c)) (l₁:=l) (l₂:=[]) (by intro d hd;simpa using h d hd)
 simpa using this
theorem tailC_hit {c:UInt8} {a:List UInt8} (b:List UInt8) (h:∀ d ∈ a,d ≠ c):tailC c (a++c :: b)=b:=by
 unfold tailC
 rw [headC_hit b h]
 simp
theorem tailC_none {c:UInt8} {l:List UInt8} (h:∀ d ∈ l,d ≠ c):tailC c l=[]:=by
 unfold tailC
 rw [headC_none h]
 simp
theorem cut_C (c:UInt8) (l:List UInt8):Lib.cut l [c]=(headC c l,tailC c l,decide (c ∈ l)):=by
 by_cases hc:c ∈ l
 ·obtain ⟨a,b,rfl,ha⟩:=first_place hc
  unfold Lib.cut
  rw [index_hit b ha,if_pos (by omega),headC_hit b ha,tailC_hit b ha,decide_eq_true hc]
  simp
 ·have hn:∀ d ∈ l,d ≠ c:=fun d hd e=>hc (e ▸ hd)
  unfold Lib.cut
  rw [index_none hn,if_neg (by omega),headC_none hn,tailC_none hn,decide_eq_false hc]
theorem decV_snoc (l:List UInt8) (c:UInt8):decV (l++[c])=10*decV l+(c.toNat - 48):=by simp [decV,List.foldl_append]
theorem decV_take {l:List UInt8} {k:Nat} (hk:k < l.length):decV (l.take (k+1))=10*decV (l.take k)+(l[k].toNat - 48):=by
 rw [List.take_succ_eq_append_getElem hk,decV_snoc]
theorem dig_bounds {c:UInt8} (h:dig c=true):48<=c.toNat/\c.toNat<=57:=by
 unfold dig at h
 simpa using h
theorem decV_lt:∀ (n:Nat) (l:List UInt8),l.length=n->l.all dig=true->decV l < 10 ^ l.length:=by
 intro n
 induction n with
 | zero=>intro l hl _;rw [List.length_eq_zero_iff.1 hl];decide
 | succ n ih =>
  intro l hl ha
  obtain ⟨m,c,rfl⟩:∃ m c,l=m++[c]:=⟨l.dropLast,l.getLast (fun e=>by rw [e] at hl;cases hl),(List.dropLast_concat_getLast _).symm⟩
  rw [List.all_append,Bool.and_eq_true] at ha
  have hc:=dig_bounds (c:=c) (by simpa using ha.2)
  have h1:=ih m (by simpa using hl) ha.1
  rw [decV_snoc,List.length_append,List.length_singleton,Nat.pow_succ]
  omega
theorem decV_ge {c:UInt8} (hc:49<=c.toNat):∀ (n:Nat) (l:List UInt8),l.length=n->10 ^ n<=decV (c :: l):=by
 intro n
 induction n with
 | zero=>intro l hl;rw [List.length_eq_zero_iff.1 hl];simp [decV];omega
 | succ n ih =>
  intro l hl
  obtain ⟨m,d,rfl⟩:∃ m d,l=m++[d]:=⟨l.dropLast,l.getLast (fun e=>by rw [e] at hl;cases hl),(List.dropLast_concat_getLast _).symm⟩
  have h1:=ih m (by simpa using hl)
  have e:c :: (m++[d])=(c :: m)++[d]:=rfl
  rw [e,decV_snoc,Nat.pow_succ]
  omega
theorem decFrom_dig:∀ (l:List UInt8) (acc:Nat),l.all dig=true->Lib.decFrom acc l=some (l.foldl (fun n c=>10*n+(c.toNat - 48)) acc)
 | [],_,_=>rfl
 | c :: l,acc,h=>by
  rw [List.all_cons,Bool.and_eq_true] at h
  have hb:=dig_bounds h.1
  have hd:Lib.digitVal c=some (c.toNat - 48):=by
   unfold Lib.digitVal
   rw [if_pos hb]
  unfold Lib.decFrom
  rw [hd]
  have:=decFrom_dig l (10*acc+(c.toNat - 48)) h.2
  rw [List.foldl_cons,<- this,Nat.mul_comm 10 acc]
theorem atoi_dig {l:List UInt8} (h:digitsB l=true):Lib.atoi l=some (decV l:Int):=by
 unfold digitsB at h
 rw [Bool.and_eq_true] at h
 match l,h with
 | c :: l,h =>
  have hb:=dig_bounds (c:=c) (by have:=h.1;rw [List.all_cons,Bool.and_eq_true] at this;exact this.1)
  have e1:(c == 45)=false:=by
   rw [beq_eq_false_iff_ne];rintro rfl;exact absurd hb.1 (by decide)
  have e2:(c == 43)=false:=by
   rw [beq_eq_false_iff_ne];rintro rfl;exact absurd hb.1 (by decide)
  have hn:Lib.decNat (c :: l)=some (decV (c :: l)):=by
   unfold Lib.decNat
   exact decFrom_dig (c :: l) 0 h.1
  show (if c == 45 then _ else if c == 43 then _ else _)=_
  rw [e1,e2]
  simp [hn]
structure Ver where
 ma:Int
 mi:Int
 pa:Int
 pre:List (List UInt8)
deriving DecidableEq
abbrev verV (v:Ver) (pv:Value):Value:=.agg #[.int .i64 v.ma,.int .i64 v.mi,.int .i64 v.pa,pv]
def preOf (l:List UInt8):List (List UInt8):=if 45 ∈ l then splitC 46 (tailC 45 l) else []
def preOk (l:List UInt8):Bool:=decide (45 ∉ l) || (decide ((preOf l).length<=5) && (preOf l).all markB)
def verOf (l:List UInt8):Option Ver :=
 match splitC 46 (headC 45 l) with
 | [a,b,c]=>if numB a && numB b && numB c && preOk l then some ⟨decV a,decV b,decV c,preOf l⟩ else none
 | _=>none
theorem verOf_len {l:List UInt8} (h:(splitC 46 (headC 45 l)).length ≠ 3):verOf l=none:=by
 unfold verOf
 match hs:splitC 46 (headC 45 l),h with
 | [],_=>rfl
 | [_],_=>rfl
 | [_,_],_=>rfl
 | [_,_,_],h=>exact absurd rfl h
 | _ :: _ :: _ :: _ :: _,_=>rfl
theorem verOf_three {l a b c:List UInt8} (h:splitC 46 (headC 45 l)=[a,b,c]):verOf l=if numB a && numB b && numB c && preOk l then some ⟨decV a,decV b,decV c,preOf l⟩ else none:=by
 unfold verOf
 rw [h]
theorem headC_le (c:UInt8) (l:List UInt8):(headC c l).length<=l.length:=List.takeWhile_sublist _ |>.length_le
theorem tailC_le (c:UInt8) (l:List UInt8):(tailC c l).length<=l.length:=by unfold tailC;rw [List.length_drop];omega
end Go.Proofs.YtgiigemfbebcgaaGreatDoor
