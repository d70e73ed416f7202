/-
  Layers 0 to 14: helps of the laws of indexes. No statement is proved here; no condition.
-/
import Derived.Test.YtmppeipgjcjdkaaGreatDoorX00
import Derived.Test.YtmppeipgjcjdkaaGreatDoorX01
import Derived.Great.Walk
import Derived.Lib.FieldsP
import Derived.Lib.TrimByte
namespace Go.Proofs.YtmppeipgjcjdkaaGreatDoor
open _root_.Go.Proofs.Tryz
open Go.RowKit
theorem own_alloc {w:World} {e:TypeId} {xs:List Value} (hn:xs.length<=maxLen):(w.alloc (.cells xs.toArray e)).ownsRow w.heap.size e 1 (.slice (some ⟨w.heap.size,0,none⟩) xs.length xs.length) xs.length xs :=
 ⟨by simp,.inr ⟨w.heap.size,_,_,rfl,Nat.le_refl _,heap_alloc_new w _,Nat.le_refl _,hn,by simp,by simp⟩⟩
theorem Sl.cellN {X:Nat->Prop} {w:World} {e:TypeId} {b o n c:Nat} {xs:List Value} (h:Sl w X e (.slice (some ⟨b,o,none⟩) n c) n xs) {i:Nat} (hi:i < xs.length):w.cell? ⟨b,o+i,none⟩=some xs[i]:=by
 rw [Sl.cell h hi,List.getElem?_eq_getElem hi]
def SvX (w:World) (X:Nat->Prop) (v:Value) (n:Nat) (xs:List Value):Prop:=(∃ a c,v=.slice a n c)/\((n=0/\xs=[])\/∃ e,Sl w X e v n xs)
theorem SvX.of {w:World} {X:Nat->Prop} {e:TypeId} {v:Value} {n:Nat} {xs:List Value} (h:Sl w X e v n xs):SvX w X v n xs:=⟨h.len,.inr ⟨e,h⟩⟩
theorem SvX.len {w:World} {X:Nat->Prop} {v:Value} {n:Nat} {xs:List Value} (h:SvX w X v n xs):∃ a c,v=.slice a n c:=h.1
theorem SvX.get {w:World} {X:Nat->Prop} {v:Value} {n:Nat} {xs:List Value} (h:SvX w X v n xs) (hn:0 < n):∃ e,Sl w X e v n xs:=by
 rcases h.2 with ⟨h0,_⟩ | h
 ·omega
 ·exact h
theorem SvX.shape {w:World} {X:Nat->Prop} {v:Value} {n:Nat} {xs:List Value} (h:SvX w X v n xs) (hn:0 < n):∃ blk o c,v=.slice (some ⟨blk,o,none⟩) n c/\n<=c/\c<=maxLen/\¬ X blk:=by
 obtain ⟨e,h⟩:=h.get hn
 exact h.shape hn
theorem SvX.cellN {w:World} {X:Nat->Prop} {b o n c:Nat} {xs:List Value} (h:SvX w X (.slice (some ⟨b,o,none⟩) n c) n xs) {i:Nat} (hi:i < xs.length):w.cell? ⟨b,o+i,none⟩=some xs[i]:=by
 rcases h.2 with ⟨_,h0⟩ | ⟨e,h⟩
 ·subst h0;cases hi
 ·exact h.cellN hi
theorem SvX.keep {S X:Nat->Prop} {w w':World} {v:Value} {n:Nat} {xs:List Value} (h:SvX w X v n xs) (hm:Mod S w w') (hs:∀ (k:Nat) (_:Array Value) (_:Nat × Nat),S k->¬ X k->False):SvX w' X v n xs :=
 ⟨h.1,h.2.imp id fun ⟨e,h⟩=>⟨e,h.keep hm fun k cur fz a b=>(hs k cur fz a b).elim⟩⟩
theorem SvX.kn {X:Nat → Prop} {w w':World} {v:Value} {n:Nat} {xs:List Value} (h:SvX w X v n xs) (hm:Mod No w w'):SvX w' X v n xs:=h.keep hm (fun _ _ _ f=>f.elim)
theorem SvX.shrink {X Y:Nat->Prop} {w:World} {v:Value} {n:Nat} {xs:List Value} (h:SvX w X v n xs) (hy:∀ k,k < w.heap.size->Y k->X k):SvX w Y v n xs :=
 ⟨h.1,h.2.imp id fun ⟨e,h⟩=>⟨e,h.shrink hy⟩⟩
theorem SvX.avoid {X:Nat->Prop} {w:World} {v:Value} {n:Nat} {xs:List Value} (h:SvX w X v n xs):SvX w (fun q=>X q\/w.heap.size<=q) v n xs :=
 ⟨h.1,h.2.imp id fun ⟨e,h⟩=>⟨e,h.avoid⟩⟩
theorem SvX.lenle {w:World} {X:Nat->Prop} {v:Value} {n:Nat} {xs:List Value} (h:SvX w X v n xs):n<=9223372036854775807:=by
 rcases Nat.eq_zero_or_pos n with h0 | h0
 ·omega
 ·obtain ⟨_,_,c,_,h1,h2,_⟩:=h.shape h0
  unfold maxLen at h2
  omega
set_option maxRecDepth 100000 in
theorem hasprefix_lite (l p:List UInt8) (w:World):Calls prog 172 #[strV l,strV p] w fun e w'=>e=.returned (.bool (decide (l.take p.length=p)))/\w'=w:=by
 refine calls_hide fun R hR=>?_
 have HEX:=zh (str_to l p.length)
 have HZ:=zh (str_len3 l)
 have HP:=zh (str_len3 p)
 have hTP:=str_list p
 have hTT:=str_list (l.take p.length)
 unfold strV at *
 generalize (⟨l.toArray⟩:ByteArray)=Z at *
 generalize (⟨p.toArray⟩:ByteArray)=Q at *
 have hZs:(Z.size:Int)=(l.length:Int):=by rw [HZ.out]
 have hQs:(Q.size:Int)=(p.length:Int):=by rw [HP.out]
 go_enter func172,ntmps172
 by_cases h:p.length<=l.length
 ·have h1:(p.length:Int)<=(l.length:Int):=by omega
  have h0:(0:Int)<=(p.length:Int):=Int.natCast_nonneg _
  have hext:=HEX.out
  go_wp2_with fail
  refine fin hR ⟨bool_ret ?_,rfl⟩
  first
   | rfl
   |(by_cases hh:l.take p.length=p
     ·rw [decide_eq_true hh,hh];simp
     ·rw [decide_eq_false hh];simpa using hh)
 ·have h1:¬ (p.length:Int)<=(l.length:Int):=by omega
  have HF:=zh (show decide (l.take p.length=p)=false from decide_eq_false fun e=>h (by
   have:=congrArg List.length e
   rw [List.length_take] at this
   omega))
  go_wp2_with fail
  refine fin hR ⟨bool_ret ?_,rfl⟩
  rw [HF.out]
set_option maxRecDepth 100000 in
theorem hasprefix_any (l p:List UInt8) (w:World):Calls prog 113 #[strV l,strV p] w fun e w'=>e=.returned (.bool (decide (l.take p.length=p)))/\w'=w:=by
 refine calls_hide fun R hR=>?_
 have HL:=zh (hasprefix_lite l p)
 unfold strV at *
 generalize (⟨l.toArray⟩:ByteArray)=Z at *
 generalize (⟨p.toArray⟩:ByteArray)=Q at *
 go_enter func113,ntmps113
 go_wp2_with fail
 with_reducible refine (HL.out _).mono ?_
 rintro e w1 ⟨rfl,rfl⟩
 go_wp2_with fail
 exact fin hR ⟨rfl,rfl⟩
def signs:List (List UInt8):=[[60,61],[62,61],[60],[62],[61],[94],[126]]
theorem sign_hit {l:List UInt8}:∀ k:Fin 7,(∀ i:Fin 7,i.1 < k.1->l.take (signs.getD i.1 []).length ≠ signs.getD i.1 [])->l.take (signs.getD k.1 []).length=signs.getD k.1 []->signL l=signs.getD k.1 []:=by
 intro k h1 h2
 have g:=fun (i:Nat) (hi:i < 7)=>h1 ⟨i,hi⟩
 obtain ⟨k,hk⟩:=k
 unfold signL
 match k,hk with
 | 0,_=>rw [if_pos (.inl h2)];exact h2
 | 1,_=>rw [if_pos (.inr h2)];exact h2
 | 2,_ =>
  rw [if_neg (by rintro (h | h);exact g 0 (by omega) (Nat.le_of_ble_eq_true rfl) h;exact g 1 (by omega) (Nat.le_of_ble_eq_true rfl) h),if_pos (.inl h2)];exact h2
 | 3,_ =>
  rw [if_neg (by rintro (h | h);exact g 0 (by omega) (Nat.le_of_ble_eq_true rfl) h;exact g 1 (by omega) (Nat.le_of_ble_eq_true rfl) h),if_pos (.inr (.inl h2))];exact h2
 | 4,_ =>
  rw [if_neg (by rintro (h | h);exact g 0 (by omega) (Nat.le_of_ble_eq_true rfl) h;exact g 1 (by omega) (Nat.le_of_ble_eq_true rfl) h),if_pos (.inr (.inr (.inl h2)))];exact h2
 | 5,_ =>
  rw [if_neg (by rintro (h | h);exact g 0 (by omega) (Nat.le_of_ble_eq_true rfl) h;exact g 1 (by omega) (Nat.le_of_ble_eq_true rfl) h),if_pos (.inr (.inr (.inr (.inl h2))))];exact h2
 | 6,_ =>
  rw [if_neg (by rintro (h | h);exact g 0 (by omega) (Nat.le_of_ble_eq_true rfl) h;exact g 1 (by omega) (Nat.le_of_ble_eq_true rfl) h),if_pos (.inr (.inr (.inr (.inr h2))))];exact h2
theorem sign_none {l:List UInt8} (h:∀ i:Fin 7,l.take (signs.getD i.1 []).length ≠ signs.getD i.1 []):signL l=[]:=by
 unfold signL
 rw [if_neg,if_neg]
 ·rintro (h1 | h1 | h1 | h1 | h1)
  ·exact h 2 h1
  ·exact h 3 h1
  ·exact h 4 h1
  ·exact h 5 h1
  ·exact h 6 h1
 ·rintro (h1 | h1)
  ·exact h 0 h1
  ·exact h 1 h1
set_option maxRecDepth 100000 in
set_option maxHeartbeats 4000000 in
theorem signed_any (l:List UInt8) (w:World):Calls prog 301 #[strV l] w fun e w'=>e=.returned (.tuple #[strV (signL l),strV (l.drop (signL l).length)])/\Mod No w w':=by
 refine calls_hide fun R hR=>?_
 have HHP:=zh (hasprefix_any l)
 have HEF:=zh (str_from l)
 have HZ:=zh (str_len3 l)
 have HPL:=zh str_len3
 unfold strV at *
 have hZe:(⟨l.toArray⟩:ByteArray)=⟨(l.drop 0).toArray⟩:=by rw [List.drop_zero]
 have HZE:=zh hZe
 clear hZe
 generalize (⟨l.toArray⟩:ByteArray)=Z at *
 have hZs:(Z.size:Int)=(l.length:Int):=by rw [HZ.out]
 go_enter func301,ntmps301
 go_upto_region 2 with fail
 obtain ⟨g,hg⟩:∃ g,g=w.heap.size:=⟨_,rfl⟩
 rw [<- hg]
 generalize hw1:World.alloc w _=w1
 have HM1:=zh (show Mod No w w1 by rw [<- hw1];exact (Mod.refl No w).alloc _)
 have HSL:=zh (show Sl w1 No 9 (.slice (some ⟨g,0,none⟩) 7 7) 7 (strs signs) by
  rw [<- hw1,hg]
  exact Sl.of_own (own_alloc (w:=w) (e:=9) (xs:=strs signs) (by decide)) (fun _ _ f=>f))
 clear hw1 hg
 go_wp2_with fail
 go_loopw [8] (fun q wr=>∃ k:Nat,k<=7/\q=.int .i64 k/\wr=w1/\∀ i:Fin 7,i.1 < k->l.take (signs.getD i.1 []).length ≠ signs.getD i.1 []) (fun q _=>7 - (intOf q).toNat)
 case atStart=>exact ⟨0,by omega,rfl,rfl,fun i hi=>absurd hi (by omega)⟩
 case round =>
  obtain ⟨k,hk,rfl,rfl,hno⟩:=hrel
  have hk0:(0:Int)<=(k:Int):=Int.natCast_nonneg _
  by_cases hlt:k < 7
  ·have hk1:(k:Int) < 7:=by omega
   have hcell:wr.cell? ⟨g,k,none⟩=some (.string ⟨(signs.getD k []).toArray⟩):=by
    have hl:k < (strs signs).length:=hlt
    have:=HSL.out.cellN (i:=k) hl
    rw [Nat.zero_add] at this
    rw [this]
    have h2:signs.getD k []=signs[k]'hlt:=by rw [List.getD_eq_getElem?_getD,List.getElem?_eq_getElem (show k < signs.length from hlt)];rfl
    rw [h2]
    simp [strs,strV]
    rfl
   have HHIT:=zh (show l.take (signs.getD k []).length=signs.getD k []->signL l=signs.getD k [] from fun h=>sign_hit ⟨k,hlt⟩ hno h)
   have HN:=zh (show l.take (signs.getD k []).length ≠ signs.getD k []->∀ i:Fin 7,i.1 < k+1->l.take (signs.getD i.1 []).length ≠ signs.getD i.1 [] from fun h i hi=>by
    rcases Nat.lt_or_ge i.1 k with h3 | h3
    ·exact hno i h3
    ·have:i.1=k:=by omega
     rw [this];exact h)
   clear hno
   generalize signs.getD k []=x at *
   go_wp2_with fail
   with_reducible refine (HHP.out x _).mono ?_
   rintro e w2 ⟨rfl,rfl⟩
   by_cases hb:l.take x.length=x
   ·rw [decide_eq_true hb]
    have hxl:x.length<=l.length:=by
     have:=congrArg List.length hb
     rw [List.length_take] at this
     omega
    have hx1:(x.length:Int)<=(Z.size:Int):=by omega
    have hx0:(0:Int)<=(x.length:Int):=Int.natCast_nonneg _
    have hext:=HEF.out x.length
    have hxs:((⟨x.toArray⟩:ByteArray).size:Int)=(x.length:Int):=by rw [HPL.out]
    have HSG:=zh (HHIT.out hb)
    clear HHIT HN hb
    go_upto_region 5 with fail
    go_quiet (fail)
    go_wp2_with fail
    exact fin hR ⟨(by rw [HSG.out];try rfl),HM1.out.drewN _⟩
   ·rw [decide_eq_false hb]
    have HN2:=zh (HN.out hb)
    clear HHIT HN hb
    go_wp2_with fail
    exact ⟨⟨k+1,by omega,rfl,trivial,HN2.out⟩,by show 7 - ((k:Int)+1).toNat < 7 - (k:Int).toNat;omega⟩
  ·have HNO:=zh (sign_none (l:=l) (fun i=>hno i (by omega)))
   clear hno
   go_wp2_with fail
   refine fin hR ⟨?_,HM1.out⟩
   rw [HNO.out]
   show _=Ending.returned (.tuple #[.string ⟨#[]⟩,.string ⟨(l.drop 0).toArray⟩])
   rw [<- HZE.out]
   rfl
theorem string_sv {w:World} {src dst e:TypeId} {v:Value} {l:List UInt8} (h:SvX w No v l.length (bv l)) (hs:prog.underlying src=some (.slice e)) (he:prog.underlying e=some (.int .u8)) (hd:prog.underlying dst=some .string) :
  (convert src dst v).run prog w=.ok (strV l) w:=by
 obtain ⟨⟨a,c,rfl⟩,⟨h0,-⟩ | ⟨e2,h⟩⟩:=h
 ·obtain rfl:l=[]:=List.eq_nil_of_length_eq_zero h0
  have:=run_convert_bytes_string (P:=prog) w src dst e a 0 c hs he hd
  refine Eq.trans this ?_
  cases a with
  | none=>rfl
  | some a=>exact run_bytesToString w a 0 c [] (by unfold loadCells;rfl)
 ·exact string_of h hs he hd
set_option maxRecDepth 100000 in
set_option maxHeartbeats 4000000 in
theorem digits_any (l:List UInt8) (hl:l.length<=1000000) (w:World):Calls prog 261 #[strV l] w fun e w'=>e=.returned (.bool (digitsB l))/\w'=w:=by
 refine calls_hide fun R hR=>?_
 have HX:=zh (run_at l)
 have HZ:=zh (str_len3 l)
 have hT:=str_list l
 unfold strV
 generalize (⟨l.toArray⟩:ByteArray)=Z at *
 have hZs:(Z.size:Int)=(l.length:Int):=by rw [HZ.out]
 go_enter func261,ntmps261
 go_wp2_with fail
 go_loopw [6] (fun q wr=>∃ k:Nat,k<=l.length/\q=.int .i64 k/\wr=w/\∀ i (hi:i < l.length),i < k->dig l[i]=true) (fun q _=>l.length - (intOf q).toNat)
 case atStart=>exact ⟨0,by omega,rfl,rfl,fun i _ hi=>absurd hi (by omega)⟩
 case round =>
  obtain ⟨k,hk,rfl,rfl,hall⟩:=hrel
  have hk0:(0:Int)<=(k:Int):=Int.natCast_nonneg _
  by_cases hlt:k < l.length
  ·have hk1:(k:Int) < (Z.size:Int):=by omega
   have hidx:=HX.out k hlt
   have HN:=zh (fun h=>all_take_succ (p:=dig) hlt hall h)
   have HF:=zh (fun h=>not_all (p:=dig) hlt h)
   have HD:=zh (show dig l[k]=(decide (48<=l[k].toNat) && decide (l[k].toNat<=57)) from rfl)
   generalize l[k].toNat=x at *
   clear hall
   by_cases h1:(x:Int) < 48
   ·go_wp2_with fail
    refine fin hR ⟨?_,rfl⟩
    show Ending.returned (.bool false)=_
    rw [show digitsB l=false by unfold digitsB;rw [HF.out (by rw [HD.out,decide_eq_false (by omega:¬ 48<=x)];rfl)];rfl]
   ·by_cases h2:(57:Int) < x
    ·go_wp2_with fail
     refine fin hR ⟨?_,rfl⟩
     show Ending.returned (.bool false)=_
     rw [show digitsB l=false by unfold digitsB;rw [HF.out (by rw [HD.out,decide_eq_false (by omega:¬ x<=57),Bool.and_false])];rfl]
    ·go_wp2_with fail
     exact ⟨⟨k+1,by omega,rfl,trivial,HN.out (by rw [HD.out,decide_eq_true (by omega:48<=x),decide_eq_true (by omega:x<=57)];rfl)⟩,by show l.length - ((k:Int)+1).toNat < l.length - (k:Int).toNat;omega⟩
  ·have HA:=zh (all_of (p:=dig) (by omega) hall)
   clear hall
   go_wp2_with fail
   refine fin hR ⟨?_,rfl⟩
   show Ending.returned (.bool (!l.isEmpty))=_
   unfold digitsB
   rw [HA.out,Bool.true_and]
theorem bytesLess_decT:∀ (x y:List UInt8),Op.bytesLess x y=decide (x < y)
 | [],[]=>by simp [Op.bytesLess]
 | _ :: _,[]=>by simp [Op.bytesLess]
 | [],_ :: _=>by simp [Op.bytesLess]
 | a :: x,b :: y=>by
  rw [Op.bytesLess,bytesLess_decT x y]
  simp only [List.cons_lt_cons_iff]
  by_cases h1:a < b <;> by_cases h2:a=b <;> by_cases h3:x < y <;> simp [h1,h2,h3]
theorem cmpL_lt {x y:List UInt8} (h:x < y):cmpL x y = -1:=if_pos h
theorem cmpL_gt {x y:List UInt8} (h:¬ x < y) (h2:x ≠ y):cmpL x y=1:=by
 unfold cmpL
 rw [if_neg h,if_pos (by
  rcases Std.lt_trichotomy x y with h3 | h3 | h3
  ·exact absurd h3 h
  ·exact absurd h3 h2
  ·exact h3)]
theorem cmpL_eq (x:List UInt8):cmpL x x=0:=by
 have h6:¬ x < x:=by simp
 unfold cmpL
 rw [if_neg h6,if_neg h6]
theorem isnanS_any (x:ByteArray) (w:World):Calls prog 142 #[.string x] w fun e w'=>e=.returned (.bool false)/\w'=w:=by
 refine calls_hide fun R hR=>?_
 go_enter func142,ntmps142
 go_wp2_with fail
 exact fin hR ⟨by simp,rfl⟩
theorem isnanN_any (x:Int) (w:World):Calls prog 308 #[.int .i64 x] w fun e w'=>e=.returned (.bool false)/\w'=w:=by
 refine calls_hide fun R hR=>?_
 go_enter func308,ntmps308
 go_wp2_with fail
 exact fin hR ⟨by simp,rfl⟩
set_option maxRecDepth 100000 in
theorem compareS_any (x y:List UInt8) (w:World):Calls prog 84 #[strV x,strV y] w fun e w'=>e=.returned (.int .i64 (cmpL x y))/\w'=w:=by
 refine calls_hide fun R hR=>?_
 unfold strV at *
 have HNX:=zh (isnanS_any ⟨x.toArray⟩)
 have HNY:=zh (isnanS_any ⟨y.toArray⟩)
 have h1:((⟨x.toArray⟩:ByteArray)).data.toList=x:=rfl
 have h2:((⟨y.toArray⟩:ByteArray)).data.toList=y:=rfl
 generalize (⟨x.toArray⟩:ByteArray)=X at *
 generalize (⟨y.toArray⟩:ByteArray)=Y at *
 go_enter func84,ntmps84
 go_wp2_with fail
 with_reducible refine (HNX.out _).mono ?_
 rintro e w1 ⟨rfl,hw1⟩
 subst hw1
 go_wp2_with fail
 with_reducible refine (HNY.out _).mono ?_
 rintro e w2 ⟨rfl,hw2⟩
 subst hw2
 go_wp2_with fail
 ·rename_i h3
  rw [ByteArray.toList_eq,ByteArray.toList_eq,h1,h2,bytesLess_decT] at h3
  exact fin hR ⟨by rw [cmpL_lt (by simpa using h3)];rfl,rfl⟩
 ·rename_i h4 K h5 h3
  clear h5 K
  rw [ByteArray.toList_eq,ByteArray.toList_eq,h1,h2,bytesLess_decT] at h4
  rw [ByteArray.toList_eq,ByteArray.toList_eq,h1,h2] at h3
  exact fin hR ⟨by rw [cmpL_gt (by simpa using h4) (by simpa using h3)];rfl,rfl⟩
 ·rename_i h4 h3
  rw [ByteArray.toList_eq,ByteArray.toList_eq,h1,h2] at h3
  have hxy:x=y:=by simpa using h3
  subst hxy
  exact fin hR ⟨by rw [cmpL_eq];rfl,rfl⟩
set_option maxRecDepth 100000 in
theorem compareN_any (x y:Int) (w:World):Calls prog 277 #[.int .i64 x,.int .i64 y] w fun e w'=>e=.returned (.int .i64 (cmpN x y))/\w'=w:=by
 refine calls_hide fun R hR=>?_
 have HNX:=zh (isnanN_any x)
 have HNY:=zh (isnanN_any y)
 go_enter func277,ntmps277
 go_wp2_with fail
 with_reducible refine (HNX.out _).mono ?_
 rintro e w1 ⟨rfl,hw1⟩
 subst hw1
 go_wp2_with fail
 with_reducible refine (HNY.out _).mono ?_
 rintro e w2 ⟨rfl,hw2⟩
 subst hw2
 go_wp2_with fail
 ·rename_i h3
  have h3':x < y:=by simpa using h3
  exact fin hR ⟨by rw [show cmpN x y = -1 from if_pos h3'];rfl,rfl⟩
 ·have h3':y < x:=by omega
  exact fin hR ⟨by rw [show cmpN x y=1 by unfold cmpN;rw [if_neg (by omega),if_pos h3']];rfl,rfl⟩
 ·exact fin hR ⟨by rw [show cmpN x y=0 by unfold cmpN;rw [if_neg (by omega),if_neg (by omega)]];rfl,rfl⟩
theorem orI_hit:∀ {xs:List Int} {k:Nat} (hk:k < xs.length),(∀ i (hi:i < xs.length),i < k->xs[i]=0)->xs[k] ≠ 0->orI xs=xs[k]
 | x :: xs,0,_,_,h2=>if_neg h2
 | x :: xs,k+1,hk,h,h2=>by
  have h0:x=0:=h 0 (by simp) (by omega)
  rw [orI,if_pos h0]
  exact orI_hit (k:=k) (by simpa using hk) (fun i hi hik=>h (i+1) (by simpa using hi) (by omega)) h2
theorem orI_none:∀ {xs:List Int},(∀ i (hi:i < xs.length),xs[i]=0)->orI xs=0
 | [],_=>rfl
 | x :: xs,h=>by
  have h0:x=0:=h 0 (by simp)
  rw [orI,if_pos h0]
  exact orI_none fun i hi=>h (i+1) (by simpa using hi)
def ints (xs:List Int):List Value:=xs.map (Value.int .i64)
theorem ints_length (xs:List Int):(ints xs).length=xs.length:=by simp [ints]
set_option maxRecDepth 100000 in
set_option maxHeartbeats 4000000 in
theorem or_any (xs:List Int) (hx:xs.length<=1000) (v:Value) (w:World) (hv:Sl w No 3 v xs.length (ints xs)) :
  Calls prog 276 #[v] w fun e w'=>e=.returned (.int .i64 (orI xs))/\w'=w:=by
 refine calls_hide fun R hR=>?_
 obtain ⟨va,vc,rfl⟩:=hv.len
 have HV:=zh hv
 clear hv
 go_enter func276,ntmps276
 go_wp2_with fail
 go_loopw [8] (fun q wr=>∃ k:Nat,k<=xs.length/\q=.int .i64 k/\wr=w/\∀ i (hi:i < xs.length),i < k->xs[i]=0) (fun q _=>xs.length - (intOf q).toNat)
 case atStart=>exact ⟨0,by omega,rfl,rfl,fun i _ hi=>absurd hi (by omega)⟩
 case round =>
  obtain ⟨k,hk,rfl,rfl,hno⟩:=hrel
  have HNO:=zh hno
  have hk0:(0:Int)<=(k:Int):=Int.natCast_nonneg _
  clear hno
  by_cases hlt:k < xs.length
  ·have hk1:(k:Int) < (xs.length:Int):=by omega
   obtain ⟨b,o,c,hvs,_⟩:=HV.out.shape (by omega)
   cases hvs
   have hcell:=HV.out.cellN (i:=k) (by rw [ints_length];exact hlt)
   rw [show (ints xs)[k]'(by rw [ints_length];exact hlt)=.int .i64 xs[k] from by simp [ints]] at hcell
   by_cases h0:xs[k]=0
   ·have HN:=zh (show ∀ i (hi:i < xs.length),i < k+1->xs[i]=0 from fun i hi hik=>by
     rcases Nat.lt_or_ge i k with h3 | h3
     ·exact HNO.out i hi h3
     ·obtain rfl:i=k:=by omega
      exact h0)
    rw [h0] at hcell
    clear HNO
    go_wp2_with fail
    exact ⟨⟨k+1,by omega,rfl,trivial,HN.out⟩,by show xs.length - ((k:Int)+1).toNat < xs.length - (k:Int).toNat;omega⟩
   ·have HH:=zh (orI_hit hlt HNO.out h0)
    clear HNO
    obtain ⟨x,hx0⟩:∃ x,x=xs[k]:=⟨_,rfl⟩
    rw [<- hx0] at hcell h0 HH
    clear hx0
    have h0b:(x != 0)=true:=by simpa using h0
    go_wp2_with fail
    exact fin hR ⟨(by rw [HH.out];try rfl),rfl⟩
  ·go_wp2_with fail
   exact fin hR ⟨(by rw [orI_none fun i hi=>HNO.out i hi (by omega)];try rfl),rfl⟩
theorem ints_sl (w:World) (xs:List Int) (hx:xs.length<=1000):Sl (w.alloc (.cells (ints xs).toArray 3)) No 3 (.slice (some ⟨w.heap.size,0,none⟩) xs.length xs.length) xs.length (ints xs):=by
 have:=own_alloc (w:=w) (e:=3) (xs:=ints xs) (by rw [ints_length];unfold maxLen;omega)
 rw [ints_length] at this
 exact Sl.of_own this fun _ _ f=>f
set_option maxRecDepth 100000 in
set_option maxHeartbeats 4000000 in
theorem marks_any (a b:List UInt8) (ha:a.length<=1000000) (hb:b.length<=1000000) (w:World) :
  Calls prog 279 #[strV a,strV b] w fun e w'=>e=.returned (.int .i64 (markC a b))/\Mod No w w':=by
 refine calls_hide fun R hR=>?_
 have HDA:=zh (digits_any a ha)
 have HDB:=zh (digits_any b hb)
 have HCS:=zh (compareS_any a b)
 have HCN:=zh (compareN_any (a.length:Int) (b.length:Int))
 have HOR:=zh (show ∀ w:World,Calls prog 276 #[.slice (some ⟨w.heap.size,0,none⟩) 2 2] (w.alloc (.cells #[.int .i64 (cmpN a.length b.length),.int .i64 (cmpL a b)] 3)) fun e w'=>e=.returned (.int .i64 (orI [cmpN a.length b.length,cmpL a b]))/\w'=w.alloc (.cells #[.int .i64 (cmpN a.length b.length),.int .i64 (cmpL a b)] 3) from fun w=>or_any [cmpN a.length b.length,cmpL a b] (by simp) _ _ (ints_sl w [cmpN a.length b.length,cmpL a b] (by simp)))
 have HM:markC a b=if digitsB a && digitsB b then orI [cmpN a.length b.length,cmpL a b] else if digitsB a then -1 else if digitsB b then 1 else cmpL a b:=rfl
 have HMH:=zh HM
 clear HM
 unfold strV at *
 have hza:((⟨a.toArray⟩:ByteArray).size:Int)=(a.length:Int):=by rw [str_len3]
 have hzb:((⟨b.toArray⟩:ByteArray).size:Int)=(b.length:Int):=by rw [str_len3]
 generalize (⟨a.toArray⟩:ByteArray)=A at *
 generalize (⟨b.toArray⟩:ByteArray)=B at *
 generalize cmpN a.length b.length=cn at *
 generalize cmpL a b=cl at *
 generalize digitsB a=da at *
 generalize digitsB b=db at *
 go_enter func279,ntmps279
 go_wp2_with fail
 with_reducible refine (HDA.out _).mono ?_
 rintro e w1 ⟨rfl,rfl⟩
 go_wp2_with fail
 with_reducible refine (HDB.out _).mono ?_
 rintro e w1 ⟨rfl,rfl⟩
 rcases da with _ | _
 ·rcases db with _ | _
  ·go_wp2_with fail
   with_reducible refine (HCS.out _).mono ?_
   rintro e w1 ⟨rfl,rfl⟩
   go_wp2_with fail
   exact fin hR ⟨by rw [HMH.out];rfl,Mod.refl _ _⟩
  ·go_wp2_with fail
   exact fin hR ⟨by rw [HMH.out];rfl,Mod.refl _ _⟩
 ·rcases db with _ | _
  ·go_wp2_with fail
   exact fin hR ⟨by rw [HMH.out];rfl,Mod.refl _ _⟩
  ·go_wp2_with fail
   with_reducible refine (HCN.out _).mono ?_
   rintro e w1 ⟨rfl,rfl⟩
   go_wp2_with fail
   with_reducible refine (HCS.out _).mono ?_
   rintro e w1 ⟨rfl,rfl⟩
   go_wp2_with fail
   with_reducible refine (HOR.out _).mono ?_
   rintro e w2 ⟨rfl,rfl⟩
   go_wp2_with fail
   exact fin hR ⟨by rw [HMH.out];rfl,(Mod.refl _ _).alloc _⟩
set_option maxRecDepth 100000 in
set_option maxHeartbeats 4000000 in
theorem compmarks_any (xs ys:List (List UInt8)) (hx:xs.length<=1000000) (hy:ys.length<=1000000) (hxl:∀ x ∈ xs,x.length<=1000000) (hyl:∀ y ∈ ys,y.length<=1000000) (v u:Value) (w:World) (hv:SvX w No v xs.length (strs xs)) (hu:SvX w No u ys.length (strs ys)) :
  Calls prog 278 #[v,u,.func (.func 279) #[] #[]] w fun e w'=>e=.returned (.int .i64 (preC xs ys))/\Mod No w w':=by
 refine calls_hide fun R hR=>?_
 obtain ⟨va,vc,rfl⟩:=hv.len
 obtain ⟨ua,uc,rfl⟩:=hu.len
 have HV:=zh hv
 have HU:=zh hu
 have HMK:=zh (fun i (hi:i < xs.length) (hj:i < ys.length)=>marks_any xs[i] ys[i] (hxl _ (List.getElem_mem hi)) (hyl _ (List.getElem_mem hj)))
 clear hv hu hxl hyl
 have eg:∀ args w,(callFunc 279 args).run prog w=.ok (.enter 279 args) w:=fun _ _=>rfl
 go_enter func278,ntmps278
 go_wp2_with fail
 go_loopw [13] (fun q wr=>∃ k:Nat,k<=xs.length/\k<=ys.length/\q=.int .i64 k/\Mod No w wr/\∀ i (h1:i < xs.length) (h2:i < ys.length),i < k->markC xs[i] ys[i]=0) (fun q _=>xs.length - (intOf q).toNat)
 case atStart=>exact ⟨0,by omega,by omega,rfl,Mod.refl _ _,fun i _ _ hi=>absurd hi (by omega)⟩
 case round =>
  obtain ⟨k,hk,hky,rfl,hmod,hno⟩:=hrel
  have HM:=zh hmod
  have HNO:=zh hno
  have hk0:(0:Int)<=(k:Int):=Int.natCast_nonneg _
  clear hmod hno
  by_cases hlt:k < xs.length
  ·have hk1:(k:Int) < (xs.length:Int):=by omega
   obtain ⟨b,o,c,hvs,_⟩:=HV.out.shape (by omega)
   cases hvs
   have hcell:=HM.out.cell (HV.out.cellN (i:=k) (by rw [strs_length];exact hlt)) (fun f=>f)
   rw [show (strs xs)[k]'(by rw [strs_length];exact hlt)=.string ⟨xs[k].toArray⟩ from by simp [strs,strV]] at hcell
   by_cases hly:k < ys.length
   ·have hk2:(k:Int) < (ys.length:Int):=by omega
    obtain ⟨b2,o2,c2,hus,_⟩:=HU.out.shape (by omega)
    cases hus
    have hcell2:=HM.out.cell (HU.out.cellN (i:=k) (by rw [strs_length];exact hly)) (fun f=>f)
    rw [show (strs ys)[k]'(by rw [strs_length];exact hly)=.string ⟨ys[k].toArray⟩ from by simp [strs,strV]] at hcell2
    have HC:=zh (HMK.out k hlt hly)
    have HN:=zh (show markC xs[k] ys[k]=0->∀ i (h1:i < xs.length) (h2:i < ys.length),i < k+1->markC xs[i] ys[i]=0 from fun h i h1 h2 hik=>by
     rcases Nat.lt_or_ge i k with h3 | h3
     ·exact HNO.out i h1 h2 h3
     ·obtain rfl:i=k:=by omega
      exact h)
    have HH:=zh (show markC xs[k] ys[k] ≠ 0->preC xs ys=markC xs[k] ys[k] from fun h=>preC_hit hlt hly HNO.out h)
    clear HNO
    go_wp2_with fail
    with_reducible refine (HC.out _).mono ?_
    rintro e w2 ⟨rfl,hm2⟩
    have HM2:=zh (HM.out.trans hm2)
    clear hm2
    generalize markC xs[k] ys[k]=mk at *
    by_cases h0:mk=0
    ·subst h0
     have hn:=HN.out rfl
     have HN2:=zh hn
     clear hn HN HH
     go_wp2_with fail
     exact ⟨⟨k+1,by omega,by omega,rfl,HM2.out,HN2.out⟩,by show xs.length - ((k:Int)+1).toNat < xs.length - (k:Int).toNat;omega⟩
    ·have h0b:(mk != 0)=true:=by simpa using h0
     have HH2:=zh (HH.out h0)
     clear HN HH
     go_wp2_with fail
     exact fin hR ⟨(by rw [HH2.out];try rfl),HM2.out⟩
   ·have hk2:(ys.length:Int)<=(k:Int):=by omega
    have HE:=zh (preC_end (k:=k) hk hky (.inr (by omega)) HNO.out)
    have hc:cmpN (xs.length:Int) (ys.length:Int)=1:=by unfold cmpN;rw [if_neg (by omega),if_pos (by omega)]
    rw [hc] at HE
    clear HNO
    go_wp2_with fail
    exact fin hR ⟨(by rw [HE.out];try rfl),HM.out⟩
  ·have HE:=zh (preC_end (k:=k) hk hky (.inl (by omega)) HNO.out)
   clear HNO
   by_cases hly:xs.length < ys.length
   ·have hl2:(xs.length:Int) < (ys.length:Int):=by omega
    have hc:cmpN (xs.length:Int) (ys.length:Int) = -1:=if_pos hl2
    rw [hc] at HE
    go_wp2_with fail
    exact fin hR ⟨(by rw [HE.out];try rfl),HM.out⟩
   ·have hl2:¬ (xs.length:Int) < (ys.length:Int):=by omega
    have hc:cmpN (xs.length:Int) (ys.length:Int)=0:=by unfold cmpN;rw [if_neg hl2,if_neg (by omega)]
    rw [hc] at HE
    go_wp2_with fail
    exact fin hR ⟨(by rw [HE.out];try rfl),HM.out⟩
structure Small (v:Ver):Prop where
 len:v.pre.length<=1000000
 each:∀ x ∈ v.pre,x.length<=1000000
theorem wrap_tiny {x:Int} (h:-2<=x/\x<=2):wrap64 x=x:=by
 unfold wrap64
 omega
theorem cmpN_nat0 (n:Nat):cmpN (n:Int) 0=if n=0 then 0 else 1:=by
 unfold cmpN
 rw [if_neg (by omega)]
 by_cases h:n=0
 ·rw [if_neg (by omega),if_pos h]
 ·rw [if_pos (by omega),if_neg h]
theorem cmpN_0nat (m:Nat):cmpN 0 (m:Int)=if m=0 then 0 else -1:=by
 unfold cmpN
 by_cases h:m=0
 ·rw [if_neg (by omega),if_neg (by omega),if_pos h]
 ·rw [if_pos (by omega),if_neg h]
theorem cmp_sub {m n:Nat} (h:m=0\/n=0):wrap64 (cmpN (n:Int) 0 - cmpN (m:Int) 0)=cmpN (n:Int) (m:Int):=by
 rcases h with rfl | rfl
 ·rw [show ((0:Nat):Int)=0 from rfl,cmpN_nat0 n,show cmpN 0 0=0 from rfl]
  by_cases h:n=0
  ·rw [if_pos h,wrap_tiny (by omega)];rfl
  ·rw [if_neg h,wrap_tiny (by omega)];rfl
 ·rw [show ((0:Nat):Int)=0 from rfl,cmpN_nat0 m,cmpN_0nat m,show cmpN 0 0=0 from rfl]
  by_cases h:m=0
  ·rw [if_pos h,if_pos h,wrap_tiny (by omega)];rfl
  ·rw [if_neg h,if_neg h,wrap_tiny (by omega)];rfl
set_option maxRecDepth 100000 in
set_option maxHeartbeats 8000000 in
theorem vercmp_sv (a b:Ver) (ha:Small a) (hb:Small b) (pa pb:Value) (w:World) (hpa:SvX w No pa a.pre.length (strs a.pre)) (hpb:SvX w No pb b.pre.length (strs b.pre)) :
  Calls prog 230 #[verV a pa,verV b pb] w fun e w'=>e=.returned (.int .i64 (verC a b))/\Mod No w w':=by
 refine calls_hide fun R hR=>?_
 obtain ⟨a0,a1,a2,as'⟩:=a
 obtain ⟨b0,b1,b2,bs'⟩:=b
 obtain ⟨va,vc,rfl⟩:=hpa.len
 obtain ⟨ua,uc,rfl⟩:=hpb.len
 have HPA:=zh hpa
 have HPB:=zh hpb
 have HCN:=zh compareN_any
 have HOR:=zh (show ∀ w:World,Calls prog 276 #[.slice (some ⟨w.heap.size,0,none⟩) 3 3] (w.alloc (.cells #[.int .i64 (cmpN a0 b0),.int .i64 (cmpN a1 b1),.int .i64 (cmpN a2 b2)] 3)) fun e w'=>e=.returned (.int .i64 (orI [cmpN a0 b0,cmpN a1 b1,cmpN a2 b2]))/\w'=w.alloc (.cells #[.int .i64 (cmpN a0 b0),.int .i64 (cmpN a1 b1),.int .i64 (cmpN a2 b2)] 3) from fun w=>or_any [cmpN a0 b0,cmpN a1 b1,cmpN a2 b2] (by simp) _ _ (ints_sl w [cmpN a0 b0,cmpN a1 b1,cmpN a2 b2] (by simp)))
 have HCM:=zh (fun (w:World) h1 h2=>compmarks_any as' bs' ha.len hb.len ha.each hb.each (.slice va as'.length vc) (.slice ua bs'.length uc) w h1 h2)
 have HVC:=zh (show verC ⟨a0,a1,a2,as'⟩ ⟨b0,b1,b2,bs'⟩=if orI [cmpN a0 b0,cmpN a1 b1,cmpN a2 b2]=0 then if as'=[]\/bs'=[] then cmpN bs'.length as'.length else preC as' bs' else orI [cmpN a0 b0,cmpN a1 b1,cmpN a2 b2] from rfl)
 clear hpa hpb ha hb
 unfold verV at *
 dsimp only at *
 go_enter func230,ntmps230
 go_upto_region 1 with fail
 obtain ⟨gx,hgx⟩:∃ g,g=w.heap.size:=⟨_,rfl⟩
 obtain ⟨gy,hgy⟩:∃ g,g=gx+1:=⟨_,rfl⟩
 rw [<- hgx,<- hgy]
 obtain ⟨wA,hwA⟩:∃ z,z=((w.alloc (.cells #[.int .i64 a0,.int .i64 a1,.int .i64 a2,.slice va as'.length vc] 45)).alloc (.cells #[.int .i64 b0,.int .i64 b1,.int .i64 b2,.slice ua bs'.length uc] 45)).drew:=⟨_,rfl⟩
 have hx1:wA.heap[gx]? = some (.cells #[.int .i64 a0,.int .i64 a1,.int .i64 a2,.slice va as'.length vc] 45 (0,0)):=by rw [hwA,hgx];exact ((Mod.refl No _).alloc _).drew.keep (heap_alloc_new w _) (fun f=>f)
 have hy1:wA.heap[gy]? = some (.cells #[.int .i64 b0,.int .i64 b1,.int .i64 b2,.slice ua bs'.length uc] 45 (0,0)):=by
  rw [hwA,hgy,hgx]
  have h1:=heap_alloc_new (w.alloc (.cells #[.int .i64 a0,.int .i64 a1,.int .i64 a2,.slice va as'.length vc] 45)) (.cells #[.int .i64 b0,.int .i64 b1,.int .i64 b2,.slice ua bs'.length uc] 45)
  rw [show (w.alloc (.cells #[.int .i64 a0,.int .i64 a1,.int .i64 a2,.slice va as'.length vc] 45)).heap.size=w.heap.size+1 by simp] at h1
  exact h1
 have HMA:=zh (show Mod No w wA by rw [hwA];exact (((Mod.refl No w).alloc _).alloc _).drew)
 have HWA:=zh hwA
 clear hwA hgx hgy
 have HSM:=zh (show ∀ w',Mod No wA w'->w'.cell? ⟨gx,0,none⟩=some (.int .i64 a0)/\w'.cell? ⟨gx,1,none⟩=some (.int .i64 a1)/\w'.cell? ⟨gx,2,none⟩=some (.int .i64 a2)/\w'.cell? ⟨gy,0,none⟩=some (.int .i64 b0)/\w'.cell? ⟨gy,1,none⟩=some (.int .i64 b1)/\w'.cell? ⟨gy,2,none⟩=some (.int .i64 b2) from fun w' hm =>
  ⟨cell_ofA (hm.keep hx1 (fun f=>f)) rfl,cell_ofA (hm.keep hx1 (fun f=>f)) rfl,cell_ofA (hm.keep hx1 (fun f=>f)) rfl,cell_ofA (hm.keep hy1 (fun f=>f)) rfl,cell_ofA (hm.keep hy1 (fun f=>f)) rfl,cell_ofA (hm.keep hy1 (fun f=>f)) rfl⟩)
 have hS0:=HSM.out wA (Mod.refl _ _)
 have HX1:=zh hx1
 have HY1:=zh hy1
 clear hx1 hy1
 refine wp_region_T (fun w'=>w'.cell? ⟨gx,0,none⟩=some (.int .i64 a0)/\w'.cell? ⟨gx,1,none⟩=some (.int .i64 a1)/\w'.cell? ⟨gx,2,none⟩=some (.int .i64 a2)/\w'.cell? ⟨gy,0,none⟩=some (.int .i64 b0)/\w'.cell? ⟨gy,1,none⟩=some (.int .i64 b1)/\w'.cell? ⟨gy,2,none⟩=some (.int .i64 b2)) 99 (by kernel_rfl) ?_
 rw [<- HWA.out]
 clear HWA
 refine yS 0 6 hS0 ?_
 refine yS 1 7 hS0 ?_
 refine yS 2 8 hS0 ?_
 refine yS 3 9 hS0 ?_
 refine yS 5 11 hS0 ?_
 refine yS 6 12 hS0 ?_
 refine yS 7 13 hS0 ?_
 refine yS 8 14 hS0 ?_
 refine yS 10 16 hS0 ?_
 refine yS 11 17 hS0 ?_
 refine yS 12 18 hS0 ?_
 refine yS 13 19 hS0 ?_
 refine wpAnyT_one 4 rfl (by kernel_rfl) rfl ?_
 intro K hK
 go_simp
 go_at_call 277
 with_reducible refine (HCN.out a0 b0 _).mono ?_
 rintro e wB ⟨rfl,hB⟩
 rw [hB]
 clear hB wB
 show K _ _
 have hS1:=hS0
 refine hK.out _ _ (fun _=>hS1) ?_
 clear hK K
 refine wpAnyT_one 9 rfl (by kernel_rfl) rfl ?_
 intro K hK
 go_simp
 go_at_call 277
 with_reducible refine (HCN.out a1 b1 _).mono ?_
 rintro e wB ⟨rfl,hB⟩
 rw [hB]
 clear hB wB
 show K _ _
 have hS2:=hS0
 refine hK.out _ _ (fun _=>hS2) ?_
 clear hK K
 refine wpAnyT_one 14 rfl (by kernel_rfl) rfl ?_
 intro K hK
 go_simp
 go_at_call 277
 with_reducible refine (HCN.out a2 b2 _).mono ?_
 rintro e wB ⟨rfl,hB⟩
 rw [hB]
 clear hB wB
 show K _ _
 have hS3:=hS0
 refine hK.out _ _ (fun _=>hS3) ?_
 clear hK K
 refine wpAnyT_one 15 rfl (by kernel_rfl) rfl ?_
 intro K hK
 go_simp
 show K _ _
 have hS4:=HSM.out (wA.alloc (.cells #[.int .i64 (cmpN a0 b0),.int .i64 (cmpN a1 b1),.int .i64 (cmpN a2 b2)] 3)) ((Mod.refl No wA).alloc _)
 refine hK.out _ _ (fun _=>hS4) ?_
 clear hK K
 refine wpAnyT_one 16 rfl (by kernel_rfl) rfl ?_
 intro K hK
 go_simp
 go_at_call 276
 with_reducible refine (HOR.out wA).mono ?_
 rintro e wB ⟨rfl,hB⟩
 rw [hB]
 clear hB wB
 show K _ _
 have hS5:=HSM.out (wA.alloc (.cells #[.int .i64 (cmpN a0 b0),.int .i64 (cmpN a1 b1),.int .i64 (cmpN a2 b2)] 3)) ((Mod.refl No wA).alloc _)
 refine hK.out _ _ (fun _=>hS5) ?_
 clear hK K
 refine yT 17 (some 5) ?_ hS5 ?_ ?_
 rotate_left
 ·(intro w' hSw;obtain ⟨c0,c1,c2,c3,c4,c5⟩:=hSw;go_simp;try with_reducible rfl)
 simp only [Act.put]
 refine wpAnyT_done (by kernel_rfl) ?_ _
 obtain ⟨wC,hwC⟩:∃ z,z=wA.alloc (.cells #[.int .i64 (cmpN a0 b0),.int .i64 (cmpN a1 b1),.int .i64 (cmpN a2 b2)] 3):=⟨_,rfl⟩
 have HMC:=zh (show Mod No w wC by rw [hwC];exact HMA.out.alloc _)
 have hX:=heap_alloc_old (.cells #[.int .i64 (cmpN a0 b0),.int .i64 (cmpN a1 b1),.int .i64 (cmpN a2 b2)] 3) HX1.out
 have hY:=heap_alloc_old (.cells #[.int .i64 (cmpN a0 b0),.int .i64 (cmpN a1 b1),.int .i64 (cmpN a2 b2)] 3) HY1.out
 rw [<- hwC] at hX hY
 have HPA2:=zh (HPA.out.keep (S:=No) (show Mod No w wC from HMC.out) (fun _ _ _ f=>f.elim))
 have HPB2:=zh (HPB.out.keep (S:=No) (show Mod No w wC from HMC.out) (fun _ _ _ f=>f.elim))
 have cx:=cell_ofA (i:=3) hX rfl
 have cy:=cell_ofA (i:=3) hY rfl
 have HXY:=zh (show ∀ w',Mod No wC w'->w'.cell? ⟨gx,3,none⟩=some (.slice va as'.length vc)/\w'.cell? ⟨gy,3,none⟩=some (.slice ua bs'.length uc) from fun w' hm=>⟨hm.cell cx (fun f=>f),hm.cell cy (fun f=>f)⟩)
 rw [<- hwC]
 clear hwC hX hY HSM hS0 HX1 HY1 HPA HPB HMA HOR
 generalize orI [cmpN a0 b0,cmpN a1 b1,cmpN a2 b2]=o at *
 by_cases ho:o=0
 ·subst ho
  have hvc:=HVC.out
  rw [if_pos rfl] at hvc
  clear HVC
  by_cases he:as'=[]\/bs'=[]
  ·rw [if_pos he] at hvc
   have hle:as'.length=0\/bs'.length=0:=he.imp (fun h=>by rw [h];rfl) (fun h=>by rw [h];rfl)
   rw [<- cmp_sub hle] at hvc
   have HV5:=zh hvc
   clear hvc HCM he HPA2 HPB2
   generalize as'.length=la at *
   generalize bs'.length=lb at *
   by_cases hla:la=0
   ·subst hla
    go_upto_region 5 with fail
    go_quiet (first | (go_at_call 277;refine Calls.quiet_of_same (HCN.out _ _ _)))
    go_wp2_with fail
    exact fin hR ⟨(by rw [HV5.out];try rfl),HMC.out.drewN _⟩
   ·have e1:((la:Int) == 0)=false:=by simpa using hla
    obtain rfl:=hle.resolve_left hla
    go_upto_region 5 with fail
    go_quiet (first | (go_at_call 277;refine Calls.quiet_of_same (HCN.out _ _ _)))
    go_wp2_with fail
    exact fin hR ⟨(by rw [HV5.out];try rfl),HMC.out.drewN _⟩
  ·rw [if_neg he] at hvc
   have HV6:=zh hvc
   have e1:((as'.length:Int) == 0)=false:=by
    rw [beq_eq_false_iff_ne]
    intro h
    exact he (.inl (List.eq_nil_of_length_eq_zero (by omega)))
   have e2:((bs'.length:Int) == 0)=false:=by
    rw [beq_eq_false_iff_ne]
    intro h
    exact he (.inr (List.eq_nil_of_length_eq_zero (by omega)))
   have HC6:=zh (HCM.out wC HPA2.out HPB2.out)
   clear hvc HCM he
   go_wp2_with fail
   with_reducible refine HC6.out.mono ?_
   rintro e w2 ⟨rfl,hm2⟩
   have HM2:=zh (HMC.out.trans hm2)
   clear hm2
   go_wp2_with fail
   exact fin hR ⟨(by rw [HV6.out];try rfl),HM2.out⟩
 ·have hvc:=HVC.out
  rw [if_neg ho] at hvc
  have HV7:=zh hvc
  have hob:(o != 0)=true:=by simpa using ho
  clear hvc HVC
  go_wp2_with fail
  exact fin hR ⟨(by rw [HV7.out];try rfl),HMC.out⟩
theorem nonempty_of_digits {l:List UInt8} (h:digitsB l=true):0 < l.length:=by
 unfold digitsB at h
 cases l
 ·simp at h
 ·simp
set_option maxRecDepth 100000 in
theorem plain_any (l:List UInt8) (hl:l.length<=1000000) (h0:0 < l.length) (w:World):Calls prog 262 #[strV l] w fun e w'=>e=.returned (.bool (plainB l))/\w'=w:=by
 refine calls_hide fun R hR=>?_
 have hidx:∀ W,(Instr.index 9 (.string ⟨l.toArray⟩) (.int .i64 0)).run prog W=.ok (.int .u8 (l[0].toNat:Int)) W:=run_at l 0 h0
 have HZ:=zh (str_len3 l)
 have hT:=str_list l
 have HP:=zh (show plainB l=(decide (l.length=1) || decide (l[0].toNat ≠ 48)) by
  unfold plainB
  congr 1
  rw [List.head?_eq_getElem?,List.getElem?_eq_getElem h0]
  simp [<- UInt8.toNat_inj])
 unfold strV
 generalize (⟨l.toArray⟩:ByteArray)=Z at *
 have hZs:(Z.size:Int)=(l.length:Int):=by rw [HZ.out]
 generalize l[0].toNat=x at *
 go_enter func262,ntmps262
 by_cases h1:(l.length:Int)=1
 ·go_wp2_with fail
  refine fin hR ⟨bool_ret ?_,rfl⟩
  rw [HP.out,decide_eq_true (by omega)]
  rfl
 ·go_wp2_with fail
  refine fin hR ⟨bool_ret ?_,rfl⟩
  rw [HP.out,Bool.eq_iff_iff]
  simp
  try omega
set_option maxRecDepth 100000 in
theorem sign_any (c:UInt8) (w:World):Calls prog 265 #[.int .u8 (c.toNat:Int)] w fun e w'=>e=.returned (.bool (signB c))/\w'=w:=by
 refine calls_hide fun R hR=>?_
 have HS:=zh (show signB c=((decide (48<=c.toNat) && decide (c.toNat<=57)) || (decide (97<=c.toNat) && decide (c.toNat<=122)) || (decide (65<=c.toNat) && decide (c.toNat<=90)) || decide (c.toNat=45)) from rfl)
 generalize c.toNat=x at *
 go_enter func265,ntmps265
 go_wp2_with fail
 all_goals
  refine fin hR ⟨bool_ret ?_,rfl⟩
  rw [HS.out,Bool.eq_iff_iff]
  simp
  omega
set_option maxRecDepth 100000 in
set_option maxHeartbeats 4000000 in
theorem mark_any (l:List UInt8) (hl:l.length<=1000000) (w:World):Calls prog 219 #[strV l] w fun e w'=>e=.returned (.bool (markB l))/\w'=w:=by
 refine calls_hide fun R hR=>?_
 have HX:=zh (run_at l)
 have HZ:=zh (str_len3 l)
 have hT:=str_list l
 have HDG:=zh (digits_any l hl)
 have HPL:=zh (plain_any l hl)
 unfold strV at *
 generalize (⟨l.toArray⟩:ByteArray)=Z at *
 have hZs:(Z.size:Int)=(l.length:Int):=by rw [HZ.out]
 have HMB:=zh (show markB l=(!l.isEmpty && decide (l.length<=16) && (!digitsB l || plainB l) && l.all signB) from rfl)
 have HDN:=zh (nonempty_of_digits (l:=l))
 go_enter func219,ntmps219
 by_cases h0:l=[]
 ·subst h0
  go_wp2_with fail
  refine fin hR ⟨bool_ret ?_,rfl⟩
  rfl
 have hne:l.isEmpty=false:=by simpa using h0
 by_cases h16:(16:Int) < (l.length:Int)
 ·go_wp2_with fail
  refine fin hR ⟨bool_ret ?_,rfl⟩
  rw [HMB.out,decide_eq_false (by omega:¬ l.length<=16),Bool.and_false]
  rfl
 go_wp2_with fail
 with_reducible refine (HDG.out _).mono ?_
 rintro e w ⟨rfl,rfl⟩
 have HMC:=zh (show (!digitsB l || plainB l)=true->markB l=l.all signB from fun h=>by
  rw [HMB.out,h,hne,decide_eq_true (by omega:l.length<=16)];rfl)
 have HMD:=zh (show (!digitsB l || plainB l)=false->markB l=false from fun h=>by
  rw [HMB.out,h,Bool.and_false];rfl)
 rcases hd:digitsB l with _ | _
 ·have HMN:=zh (HMC.out (by rw [hd];rfl))
  clear HMC HMD HMB
  go_wp2_with fail
  go_loopw [22] (fun q wr=>∃ k:Nat,k<=l.length/\q=.int .i64 k/\wr=w/\∀ i (hi:i < l.length),i < k->signB l[i]=true) (fun q _=>l.length - (intOf q).toNat)
  case atStart=>exact ⟨0,by omega,rfl,rfl,fun i _ hi=>absurd hi (by omega)⟩
  case round =>
   obtain ⟨k,hk,rfl,rfl,hall⟩:=hrel
   have hk0:(0:Int)<=(k:Int):=Int.natCast_nonneg _
   by_cases hlt:k < l.length
   ·have hk1:(k:Int) < (Z.size:Int):=by omega
    have hidx:=HX.out k hlt
    have HN:=zh (fun h=>all_take_succ (p:=signB) hlt hall h)
    have HF:=zh (fun h=>not_all (p:=signB) hlt h)
    have HSG:=zh (sign_any l[k])
    generalize l[k]=c at *
    clear hall
    go_wp2_with fail
    with_reducible refine (HSG.out _).mono ?_
    rintro e wr ⟨rfl,rfl⟩
    rcases hs:signB c with _ | _
    ·go_wp2_with fail
     refine fin hR ⟨bool_ret ?_,rfl⟩
     rw [HMN.out,HF.out hs]
    ·go_wp2_with fail
     exact ⟨⟨k+1,by omega,rfl,trivial,HN.out hs⟩,by show l.length - ((k:Int)+1).toNat < l.length - (k:Int).toNat;omega⟩
   ·have HA:=zh (all_of (p:=signB) (by omega) hall)
    clear hall
    go_wp2_with fail
    refine fin hR ⟨bool_ret ?_,rfl⟩
    rw [HMN.out,HA.out]
 ·go_wp2_with fail
  with_reducible refine (HPL.out (HDN.out hd) _).mono ?_
  rintro e w ⟨rfl,rfl⟩
  rcases hp:plainB l with _ | _
  ·go_wp2_with fail
   refine fin hR ⟨bool_ret ?_,rfl⟩
   rw [HMD.out (by rw [hd,hp];rfl)]
  ·have HMN:=zh (HMC.out (by rw [hd,hp];rfl))
   clear HMC HMD HMB
   go_wp2_with fail
   go_loopw [22] (fun q wr=>∃ k:Nat,k<=l.length/\q=.int .i64 k/\wr=w/\∀ i (hi:i < l.length),i < k->signB l[i]=true) (fun q _=>l.length - (intOf q).toNat)
   case atStart=>exact ⟨0,by omega,rfl,rfl,fun i _ hi=>absurd hi (by omega)⟩
   case round =>
    obtain ⟨k,hk,rfl,rfl,hall⟩:=hrel
    have hk0:(0:Int)<=(k:Int):=Int.natCast_nonneg _
    by_cases hlt:k < l.length
    ·have hk1:(k:Int) < (Z.size:Int):=by omega
     have hidx:=HX.out k hlt
     have HN:=zh (fun h=>all_take_succ (p:=signB) hlt hall h)
     have HF:=zh (fun h=>not_all (p:=signB) hlt h)
     have HSG:=zh (sign_any l[k])
     generalize l[k]=c at *
     clear hall
     go_wp2_with fail
     with_reducible refine (HSG.out _).mono ?_
     rintro e wr ⟨rfl,rfl⟩
     rcases hs:signB c with _ | _
     ·go_wp2_with fail
      refine fin hR ⟨bool_ret ?_,rfl⟩
      rw [HMN.out,HF.out hs]
     ·go_wp2_with fail
      exact ⟨⟨k+1,by omega,rfl,trivial,HN.out hs⟩,by show l.length - ((k:Int)+1).toNat < l.length - (k:Int).toNat;omega⟩
    ·have HA:=zh (all_of (p:=signB) (by omega) hall)
     clear hall
     go_wp2_with fail
     refine fin hR ⟨bool_ret ?_,rfl⟩
     rw [HMN.out,HA.out]
theorem nameB_ne {l:List UInt8} (h:l ≠ []):nameB l=(decide (l.length<=32) && smallB (l.getD 0 0) && l.all nameC):=by
 cases l with
 | nil=>exact absurd rfl h
 | cons c l=>rfl
set_option maxRecDepth 100000 in
theorem small_any (c:UInt8) (w:World):Calls prog 214 #[.int .u8 (c.toNat:Int)] w fun e w'=>e=.returned (.bool (smallB c))/\w'=w:=by
 refine calls_hide fun R hR=>?_
 have HS:=zh (show smallB c=(decide (97<=c.toNat) && decide (c.toNat<=122)) from rfl)
 generalize smallB c=s at *
 generalize c.toNat=x at *
 go_enter func214,ntmps214
 by_cases h97:(97:Int)<=(x:Int)
 ·go_wp2_with fail
  refine fin hR ⟨bool_ret ?_,rfl⟩
  rw [HS.out,decide_eq_true (by omega:97<=x)]
  simp
  omega
 ·go_wp2_with fail
  refine fin hR ⟨bool_ret ?_,rfl⟩
  rw [HS.out,decide_eq_false (by omega:¬ 97<=x)]
  simp
set_option maxRecDepth 100000 in
set_option maxHeartbeats 4000000 in
theorem name_any (l:List UInt8) (hl:l.length<=1000000) (w:World):Calls prog 157 #[strV l] w fun e w'=>e=.returned (.bool (nameB l))/\w'=w:=by
 refine calls_hide fun R hR=>?_
 have HX:=zh (run_at l)
 have HX0:=zh (show 0 < l.length->∀ W,(Instr.index 9 (.string ⟨l.toArray⟩) (.int .i64 0)).run prog W=.ok (.int .u8 ((l.getD 0 0).toNat:Int)) W from fun h W=>by
  rw [List.getD_eq_getElem?_getD,List.getElem?_eq_getElem h];exact run_at l 0 h W)
 have HZ:=zh (str_len3 l)
 have HSM:=zh small_any
 have hT:=str_list l
 unfold strV at *
 generalize (⟨l.toArray⟩:ByteArray)=Z at *
 have hZs:(Z.size:Int)=(l.length:Int):=by rw [HZ.out]
 go_enter func157,ntmps157
 by_cases h0:l=[]
 ·subst h0
  have h00:([]:List UInt8).isEmpty=true:=rfl
  go_wp2_with fail
  refine fin hR ⟨bool_ret ?_,rfl⟩
  rfl
 have HNB:=zh (nameB_ne h0)
 have hie:l.isEmpty=false:=by simpa using h0
 have hn1:0 < l.length:=List.length_pos_iff.2 h0
 by_cases h32:(32:Int) < (l.length:Int)
 ·go_wp2_with fail
  refine fin hR ⟨bool_ret ?_,rfl⟩
  rw [HNB.out,decide_eq_false (by omega:¬ l.length<=32)]
  rfl
 have hidx0:=HX0.out hn1
 have HNC:=zh (show nameB l=(smallB (l.getD 0 0) && l.all nameC) by
  rw [HNB.out,decide_eq_true (by omega:l.length<=32)];rfl)
 clear HNB HX0
 generalize l.getD 0 0=z0 at *
 have HS0:=zh (HSM.out z0)
 go_wp2_with fail
 with_reducible refine (HS0.out _).mono ?_
 rintro e wB ⟨rfl,rfl⟩
 rcases hs0:smallB z0 with _ | _
 ·go_wp2_with fail
  refine fin hR ⟨bool_ret ?_,rfl⟩
  rw [HNC.out,hs0]
  rfl
 have HND:=zh (show nameB l=l.all nameC by rw [HNC.out,hs0];rfl)
 clear HNC HS0 hs0
 go_wp2_with fail
 clear hidx0
 go_loopw [20] (fun q wr=>∃ k:Nat,k<=l.length/\q=.int .i64 k/\wr=wB/\∀ i (hi:i < l.length),i < k->nameC l[i]=true) (fun q _=>l.length - (intOf q).toNat)
 case atStart=>exact ⟨0,by omega,rfl,rfl,fun i _ hi=>absurd hi (by omega)⟩
 case round =>
  obtain ⟨k,hk,rfl,rfl,hall⟩:=hrel
  have hk0:(0:Int)<=(k:Int):=Int.natCast_nonneg _
  by_cases hlt:k < l.length
  ·have hk1:(k:Int) < (Z.size:Int):=by omega
   have hidx:=HX.out k hlt
   have HN:=zh (fun h=>all_take_succ (p:=nameC) hlt hall h)
   have HF:=zh (fun h=>not_all (p:=nameC) hlt h)
   have HS:=zh (show nameC l[k]=(smallB l[k] || (decide (48<=l[k].toNat) && decide (l[k].toNat<=57)) || decide (l[k].toNat=45)) from rfl)
   have HSK:=zh (HSM.out l[k])
   generalize nameC l[k]=sg at *
   generalize smallB l[k]=sk at *
   generalize l[k].toNat=x at *
   clear hall
   go_wp2_with fail
   with_reducible refine (HSK.out _).mono ?_
   rintro e w2 ⟨rfl,rfl⟩
   rcases sk with _ | _
   ·rcases (show (57 < x)\/(48<=x/\x<=57)\/x=45\/(x < 48/\x ≠ 45) by omega) with h | h | h | h
    ·have a3:(48:Int)<=(x:Int):=by omega
     have a4:¬ (x:Int)<=57:=by omega
     have a5:((x:Int) == 45)=false:=by rw [beq_eq_false_iff_ne];omega
     have HF2:=zh (HF.out (by rw [HS.out,<- Bool.not_eq_true];simp;omega))
     go_wp2_with fail
     refine fin hR ⟨bool_ret ?_,rfl⟩
     rw [HND.out,HF2.out]
    ·have a3:(48:Int)<=(x:Int):=by omega
     have a4:(x:Int)<=57:=by omega
     have hn:=HN.out (by rw [HS.out];simp;omega)
     have HN2:=zh hn
     clear hn
     go_wp2_with fail
     exact ⟨⟨k+1,by omega,rfl,trivial,HN2.out⟩,by show l.length - ((k:Int)+1).toNat < l.length - (k:Int).toNat;omega⟩
    ·have a3:¬ (48:Int)<=(x:Int):=by omega
     have a5:((x:Int) == 45)=true:=by simp;omega
     have hn:=HN.out (by rw [HS.out];simp;omega)
     have HN2:=zh hn
     clear hn
     go_wp2_with fail
     exact ⟨⟨k+1,by omega,rfl,trivial,HN2.out⟩,by show l.length - ((k:Int)+1).toNat < l.length - (k:Int).toNat;omega⟩
    ·have a3:¬ (48:Int)<=(x:Int):=by omega
     have a5:((x:Int) == 45)=false:=by rw [beq_eq_false_iff_ne];omega
     have HF2:=zh (HF.out (by rw [HS.out,<- Bool.not_eq_true];simp;omega))
     go_wp2_with fail
     refine fin hR ⟨bool_ret ?_,rfl⟩
     rw [HND.out,HF2.out]
   ·have hn:=HN.out (by rw [HS.out];rfl)
    have HN2:=zh hn
    clear hn
    go_wp2_with fail
    exact ⟨⟨k+1,by omega,rfl,trivial,HN2.out⟩,by show l.length - ((k:Int)+1).toNat < l.length - (k:Int).toNat;omega⟩
  ·have HA:=zh (all_of (p:=nameC) (by omega) hall)
   clear hall
   go_wp2_with fail
   refine fin hR ⟨bool_ret ?_,rfl⟩
   rw [HND.out,HA.out]
theorem cont_great {x:Nat} (h:(x / 64 == 2)=true):128<=x:=by
 have:x / 64=2:=by simpa using h
 omega
theorem decode_any (s:ByteArray) (i:Nat):((s.get! i).toNat < 128/\Utf8.decode s i=((s.get! i).toNat,1)) ∨
  (128<=(s.get! i).toNat/\128<=(Utf8.decode s i).1/\1<=(Utf8.decode s i).2/\∀ k,1<=k->k < (Utf8.decode s i).2->i+k < s.size/\128<=(s.get! (i+k)).toNat):=by
 by_cases h0:(s.get! i).toNat < 128
 ·left
  refine ⟨h0,?_⟩
  unfold Utf8.decode
  exact if_pos h0
 ·right
  refine ⟨by omega,?_⟩
  have hr:128<=Utf8.runeError:=by decide
  have one:∀ k,1<=k->k < 1->i+k < s.size/\128<=(s.get! (i+k)).toNat:=fun k h1 h2=>absurd h1 (by omega)
  unfold Utf8.decode
  dsimp only
  rw [if_neg (show ¬ (s.get! (i+0)).toNat < 128 from h0)]
  split
  ·rename_i h
   rw [Bool.and_eq_true,Bool.and_eq_true] at h
   split
   ·rename_i hc
    refine ⟨hc,Nat.le_of_ble_eq_true rfl,fun k h1 h2=>?_⟩
    obtain rfl:k=1:=by dsimp only at h2;omega
    exact ⟨by simpa using h.2.1,cont_great h.2.2⟩
   ·exact ⟨hr,by decide,one⟩
  ·split
   ·rename_i h
    rw [Bool.and_eq_true,Bool.and_eq_true,Bool.and_eq_true,Bool.and_eq_true] at h
    split
    ·rename_i hc
     rw [Bool.and_eq_true] at hc
     have hc1:2048<=_:=of_decide_eq_true hc.1
     refine ⟨Nat.le_trans (by decide) hc1,Nat.le_of_ble_eq_true rfl,fun k h1 h2=>?_⟩
     have h3:k=1\/k=2:=by dsimp only at h2;omega
     rcases h3 with rfl | rfl
     ·exact ⟨by simpa using h.1.2.1,cont_great h.1.2.2⟩
     ·exact ⟨by simpa using h.2.1,cont_great h.2.2⟩
    ·exact ⟨hr,by decide,one⟩
   ·split
    ·rename_i h
     rw [Bool.and_eq_true,Bool.and_eq_true,Bool.and_eq_true,Bool.and_eq_true,Bool.and_eq_true,Bool.and_eq_true] at h
     split
     ·rename_i hc
      rw [Bool.and_eq_true] at hc
      have hc1:65536<=_:=of_decide_eq_true hc.1
      refine ⟨Nat.le_trans (by decide) hc1,Nat.le_of_ble_eq_true rfl,fun k h1 h2=>?_⟩
      have h3:k=1\/k=2\/k=3:=by dsimp only at h2;omega
      rcases h3 with rfl | rfl | rfl
      ·exact ⟨by simpa using h.1.1.2.1,cont_great h.1.1.2.2⟩
      ·exact ⟨by simpa using h.1.2.1,cont_great h.1.2.2⟩
      ·exact ⟨by simpa using h.2.1,cont_great h.2.2⟩
     ·exact ⟨hr,by decide,one⟩
    ·exact ⟨hr,by decide,one⟩
def spB:List UInt8->Nat->Option Nat->List (Nat × Nat)->List (Nat × Nat) × Option Nat
 | [],_,st,acc=>(acc,st)
 | c :: l,pos,st,acc=>if c=32 then (match st with
   | some a=>spB l (pos+1) none (acc++[(a,pos)])
   | none=>spB l (pos+1) none acc) else spB l (pos+1) (some (st.getD pos)) acc
theorem spB_cons (c:UInt8) (l:List UInt8) (pos:Nat) (st:Option Nat) (acc:List (Nat × Nat)):spB (c :: l) pos st acc=if c=32 then (match st with
   | some a=>spB l (pos+1) none (acc++[(a,pos)])
   | none=>spB l (pos+1) none acc) else spB l (pos+1) (some (st.getD pos)) acc:=by cases st <;> rfl
theorem spans_step (p:Nat->Bool) (s:ByteArray) (f pos:Nat) (st:Option Nat) (acc:List (Nat × Nat)) (h:pos < s.size):Lib.spansFromP p s (f+1) pos st acc =
  if p (Utf8.decode s pos).1 then (match st with
   | some a=>Lib.spansFromP p s f (pos+(Utf8.decode s pos).2) none (acc++[(a,pos)])
   | none=>Lib.spansFromP p s f (pos+(Utf8.decode s pos).2) none acc)
  else (match st with
   | some a=>Lib.spansFromP p s f (pos+(Utf8.decode s pos).2) (some a) acc
   | none=>Lib.spansFromP p s f (pos+(Utf8.decode s pos).2) (some pos) acc):=by
 cases st <;> exact if_pos h
theorem get_drop {l:List UInt8} {i:Nat} (h:i < l.length):l.drop i=(⟨l.toArray⟩:ByteArray).get! i :: l.drop (i+1):=by
 rw [List.drop_eq_getElem_cons h]
 congr 1
 show l[i]=l.toArray[i]!
 rw [getElem!_pos l.toArray i (by simpa using h)]
 simp
theorem spB_great (l:List UInt8) (a:Nat) (acc:List (Nat × Nat)):∀ (k pos:Nat),pos+k<=l.length->(∀ j,j < k->(⟨l.toArray⟩:ByteArray).get! (pos+j) ≠ 32)->spB (l.drop pos) pos (some a) acc=spB (l.drop (pos+k)) (pos+k) (some a) acc
 | 0,_,_,_=>rfl
 | k+1,pos,hk,h=>by
  have h0:=h 0 (by omega)
  rw [Nat.add_zero] at h0
  rw [get_drop (by omega),spB,if_neg h0]
  rw [show (some a).getD pos=a from rfl,spB_great l a acc k (pos+1) (by omega) (fun j hj=>by
   have:=h (j+1) (by omega)
   rwa [show pos+(j+1)=pos+1+j by omega] at this),show pos+1+k=pos+(k+1) by omega]
theorem spans_bytes (l:List UInt8):∀ (f pos:Nat) (st:Option Nat) (acc:List (Nat × Nat)),l.length<=pos+f->Lib.spansFromP (fun r=>r == 32) ⟨l.toArray⟩ f pos st acc=spB (l.drop pos) pos st acc:=by
 intro f
 have hsz:(⟨l.toArray⟩:ByteArray).size=l.length:=by simp [ByteArray.size]
 induction f with
 | zero =>
  intro pos st acc h
  rw [List.drop_of_length_le (by omega)]
  rfl
 | succ f ih =>
  intro pos st acc h
  by_cases hp:pos < l.length
  ·have hd:=decode_any ⟨l.toArray⟩ pos
   rw [spans_step _ _ _ _ _ _ (by rw [hsz];exact hp),get_drop hp,spB_cons]
   generalize hx:(⟨l.toArray⟩:ByteArray).get! pos=x at *
   rcases hd with ⟨h1,h2⟩ | ⟨h1,h2,h3,h4⟩
   ·rw [h2]
    by_cases he:x=32
    ·subst he
     rw [if_pos rfl,if_pos (by decide)]
     cases st with
     | none=>exact ih (pos+1) none acc (by omega)
     | some a=>exact ih (pos+1) none _ (by omega)
    ·have hne:¬ ((x.toNat == 32)=true):=by
      intro e
      exact he (UInt8.toNat_inj.1 (by simpa using e))
     rw [if_neg he,if_neg hne]
     cases st with
     | none=>exact ih (pos+1) _ acc (by omega)
     | some a=>exact ih (pos+1) _ acc (by omega)
   ·have he:x ≠ 32:=by rintro rfl;exact absurd h1 (by decide)
    have hne:¬ (((Utf8.decode ⟨l.toArray⟩ pos).1 == 32)=true):=by
     intro e
     have:(Utf8.decode ⟨l.toArray⟩ pos).1=32:=by simpa using e
     omega
    generalize hw:(Utf8.decode ⟨l.toArray⟩ pos).2=wd at *
    obtain ⟨wk,rfl⟩:∃ wk,wd=wk+1:=⟨wd - 1,by omega⟩
    rw [if_neg he,if_neg hne]
    have hle:pos+1+wk<=l.length:=by
     rcases Nat.eq_zero_or_pos wk with h0 | h0
     ·omega
     ·have:=(h4 wk h0 (by omega)).1
      rw [hsz] at this
      omega
    have hg:∀ a,spB (l.drop (pos+1)) (pos+1) (some a) acc=spB (l.drop (pos+(wk+1))) (pos+(wk+1)) (some a) acc:=fun a=>by
     rw [spB_great l a acc wk (pos+1) hle (fun j hj=>by
      have:=(h4 (j+1) (by omega) (by omega)).2
      rw [show pos+(j+1)=pos+1+j by omega] at this
      intro e
      rw [e] at this
      exact absurd this (by decide)),show pos+1+wk=pos+(wk+1) by omega]
    rw [hg]
    cases st with
    | none=>exact ih _ _ acc (by omega)
    | some a=>exact ih _ _ acc (by omega)
  ·rw [Lib.spansFromP_end _ _ _ _ _ _ (by rw [hsz];exact hp),List.drop_of_length_le (by omega)]
   rfl
theorem words_hit {x:List UInt8} (hx:∀ d ∈ x,d ≠ 32) (hn:x ≠ []) (l:List UInt8):wordsL (x++32 :: l)=x :: wordsL l:=by
 unfold wordsL
 rw [splitC_hit _ hx,List.filter_cons,if_pos (by cases x with | nil=>exact absurd rfl hn | cons a b=>rfl)]
theorem words_space (l:List UInt8):wordsL (32 :: l)=wordsL l:=by
 unfold wordsL
 have:=splitC_hit (c:=32) l (a:=[]) (fun _ h=>by cases h)
 rw [List.nil_append] at this
 rw [this]
 rfl
theorem words_end {x:List UInt8} (hx:∀ d ∈ x,d ≠ 32) (hn:x ≠ []):wordsL x=[x]:=by
 unfold wordsL
 rw [splitC_none hx,List.filter_cons,if_pos (by cases x with | nil=>exact absurd rfl hn | cons a b=>rfl)]
 rfl
theorem spB_words (l:List UInt8):∀ (n pos:Nat) (st:Option Nat) (acc:List (Nat × Nat)),l.length=pos+n->(∀ a,st=some a->a < pos/\∀ d ∈ (l.drop a).take (pos - a),d ≠ 32) →
  (Lib.closeSpans ⟨l.toArray⟩ (spB (l.drop pos) pos st acc)).map (fun x=>(⟨l.toArray⟩:ByteArray).extract x.1 x.2) =
   acc.map (fun x=>(⟨l.toArray⟩:ByteArray).extract x.1 x.2)++(wordsL ((match st with | some a=>(l.drop a).take (pos - a) | none=>[])++l.drop pos)).map (fun x=>(⟨x.toArray⟩:ByteArray)):=by
 have hex:∀ a b,(⟨l.toArray⟩:ByteArray).extract a b=⟨((l.drop a).take (b - a)).toArray⟩:=fun a b=>Lib.extract_mk l a b
 have hsz:(⟨l.toArray⟩:ByteArray).size=l.length:=by simp [ByteArray.size]
 intro n
 induction n with
 | zero =>
  intro pos st acc hl hst
  rw [List.drop_of_length_le (by omega),List.append_nil]
  unfold spB Lib.closeSpans
  cases st with
  | none=>simp [wordsL,splitC]
  | some a =>
   obtain ⟨h1,h2⟩:=hst a rfl
   have hne:(l.drop a).take (pos - a) ≠ []:=by
    intro e
    have:=congrArg List.length e
    simp at this
    omega
   dsimp only
   rw [words_end h2 hne,List.map_append]
   simp only [List.map_cons,List.map_nil,hex,hsz]
   rw [show l.length=pos by omega]
 | succ n ih =>
  intro pos st acc hl hst
  rw [List.drop_eq_getElem_cons (show pos < l.length by omega),spB_cons]
  by_cases hc:l[pos]'(by omega)=32
  ·rw [if_pos hc,hc]
   cases st with
   | none =>
    dsimp only
    rw [ih (pos+1) none acc (by omega) (fun _ h=>by cases h)]
    dsimp only
    rw [List.nil_append,List.nil_append,words_space]
   | some a =>
    obtain ⟨h1,h2⟩:=hst a rfl
    have hne:(l.drop a).take (pos - a) ≠ []:=by
     intro e
     have:=congrArg List.length e
     simp at this
     omega
    dsimp only
    rw [ih (pos+1) none _ (by omega) (fun _ h=>by cases h),words_hit h2 hne]
    simp [hex]
  ·rw [if_neg hc]
   have hpart:∀ a,a<=pos->(l.drop a).take (pos+1 - a)=(l.drop a).take (pos - a)++[l[pos]'(by omega)]:=fun a ha=>by
    rw [show pos+1 - a=(pos - a)+1 by omega,List.take_succ_eq_append_getElem (by rw [List.length_drop];omega),List.getElem_drop]
    congr 3
    omega
   cases st with
   | none =>
    have hp2:=hpart pos (Nat.le_refl _)
    rw [Nat.sub_self,List.take_zero,List.nil_append] at hp2
    rw [show (none:Option Nat).getD pos=pos from rfl,ih (pos+1) (some pos) acc (by omega) (fun a ha=>by
     cases ha
     refine ⟨by omega,fun d hd=>?_⟩
     rw [hp2] at hd
     obtain rfl:d=_:=by simpa using hd
     exact hc)]
    dsimp only
    rw [hp2]
    simp
   | some a =>
    obtain ⟨h1,h2⟩:=hst a rfl
    have hp2:=hpart a (by omega)
    rw [show (some a).getD pos=a from rfl,ih (pos+1) (some a) acc (by omega) (fun b hb=>by
     cases hb
     refine ⟨by omega,fun d hd=>?_⟩
     rw [hp2] at hd
     rcases List.mem_append.1 hd with hd | hd
     ·exact h2 d hd
     ·obtain rfl:d=_:=by simpa using hd
      exact hc)]
    dsimp only
    rw [hp2]
    simp
theorem fields_words (l:List UInt8):Lib.goFieldsP (fun r=>r == 32) ⟨l.toArray⟩=(wordsL l).map (fun x=>(⟨x.toArray⟩:ByteArray)):=by
 have hsz:(⟨l.toArray⟩:ByteArray).size=l.length:=by simp [ByteArray.size]
 unfold Lib.goFieldsP Lib.spansOfP
 rw [hsz,spans_bytes l l.length 0 none [] (by omega)]
 have:=spB_words l l.length 0 none [] (by omega) (fun _ h=>by cases h)
 rw [this]
 simp
end Go.Proofs.YtmppeipgjcjdkaaGreatDoor
