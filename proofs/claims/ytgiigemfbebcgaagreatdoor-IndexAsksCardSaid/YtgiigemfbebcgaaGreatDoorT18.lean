/-
  Layers 0 to 14: helps of the laws of indexes. No statement is proved here; no condition.
-/
import Derived.Test.YtgiigemfbebcgaaGreatDoorT14
import Derived.Test.YtgiigemfbebcgaaGreatDoorT09
import Derived.Test.YtgiigemfbebcgaaGreatDoorT13
import Derived.Test.YtgiigemfbebcgaaGreatDoorT02
import Derived.Lib.AppendStr
import Derived.Lib.SlBytesConst
import Derived.Lib.ConvBytes
namespace Go.Proofs.YtgiigemfbebcgaaGreatDoor
open _root_.Go.Proofs.Tryz
open Go.RowKit
structure FlX where
 f:Fl
 vv:Value
def FlX.cells (x:FlX):List Value:=[strV x.f.path,.bool x.f.dir,x.vv]
theorem FlX.cells_length (x:FlX):x.cells.length=3:=rfl
structure FlsAt (w:World) (v:Value) (xs:List FlX):Prop where
 each:∀ x ∈ xs,Sl w No 5 x.vv x.f.b.length (bv x.f.b)
 sl:Sl w No 122 v xs.length (xs.flatMap FlX.cells)
theorem strcells_bv (l:List UInt8):Lib.strCells ⟨l.toArray⟩=bv l:=by
 unfold Lib.strCells bv
 simp
def BufL (w:World) (base:Nat) (v:Value) (l:List UInt8):Prop :=
 (∃ g fz,v=.slice (some ⟨g,0,none⟩) l.length l.length/\base<=g/\w.heap[g]? = some (.cells (bv l).toArray 5 fz))\/w.ownsRow base 5 1 v l.length (bv l)
theorem BufL.len {w:World} {base:Nat} {v:Value} {l:List UInt8} (h:BufL w base v l):∃ a c,v=.slice a l.length c:=by
 rcases h with ⟨g,fz,h,-,-⟩ | h
 ·exact ⟨_,_,h⟩
 ·exact own_len h
theorem BufL.no {w w':World} {base:Nat} {v:Value} {l:List UInt8} (h:BufL w base v l) (hm:Mod No w w'):BufL w' base v l:=by
 rcases h with ⟨g,fz,h1,h2,h3⟩ | h
 ·exact .inl ⟨g,fz,h1,h2,hm.keep h3 (fun f=>f)⟩
 ·exact .inr (own_keepM h hm (fun _ _ f=>f))
theorem wpList_app_buf {ops:Array Oper} {rest:List Oper} {o:Oper} {a:Act} {Q:Exit->Act->World->Prop} (w:World) (hgd:o.guard=none) (s x:Operand)
  (ho:o.op=.call { callee:=.builtin .append,args:=#[s,x],argTypes:=#[29,29] }) (base:Nat) (v:Value) (l:List UInt8) (hs:a.eval s=v) (h:BufL w base v l) (hl:l.length<=1000000)
  (g:Nat) (d:Value) (hd:d.oneCell'=true) (hx:a.eval x=.slice (some ⟨g,0,none⟩) 1 1) (hg:w.heap[g]? = some (.cells #[d] 5 (0,0))) (hbase:base<=w.heap.size)
  (hk:∀ v' w',w'.ownsRow base 5 1 v' (l.length+1) (bv l++[d])->Mod (fun q=>base<=q) w w'->wpList prog ops Q rest (a.put o.dst v') w'):wpList prog ops Q (o :: rest) a w:=by
 obtain ⟨i0,hi0,hz0,hz1,hz2⟩:=info_parts info_byte
 rcases h with ⟨gs,fz,hv,hgb,hh⟩ | h
 ·refine wpList_plain hgd fun K hK=>?_
  refine wp_app_full w s x 29 ho base 5 i0 _ 1 1 underlying29 hi0 hz0 hz1 hz2 rfl v l.length (bv l) hs (.inr ⟨⟨gs,0,none⟩,hv,by simp,fun j u hj=>?_⟩) ⟨g,0,none⟩ 1 1 [d] hx (by omega) rfl (fun j u hj=>?_) (by unfold maxLen;omega) (by omega) hbase fun v' w' h1 h2=>hK _ _ (hk v' w' h1 (h2.weaken (fun _ _ f=>f.elim)))
  ·rw [Addr.add_lit,Nat.zero_add]
   exact cell_of hh hj
  ·rw [Addr.add_lit,Nat.zero_add]
   exact cell_ofA hg (by simpa using hj)
 ·exact app_sl w hgd s x 29 ho base 5 i0 _ 1 1 underlying29 hi0 hz0 hz1 hz2 rfl (by decide) v l.length (bv l) hs h No 5 (.slice (some ⟨g,0,none⟩) 1 1) 1 [d] hx (.inr ⟨g,0,1,_,(0,0),rfl,Nat.le_refl _,by unfold maxLen;omega,fun f=>f,hg,by simp,fun i hi=>by simp⟩) rfl (fun u hu=>by rw [List.mem_singleton.1 hu];exact hd) (by unfold maxLen;omega) (by omega) hbase fun v' w' h1 h2 _=>hk v' w' h1 (Mod.of_grown h2 (fun q e _=>own_base h e))
set_option maxRecDepth 100000 in
set_option maxHeartbeats 16000000 in
theorem pack_any (xs:List FlX) (v:Value) (w:World) (h:FlsAt w v xs) (hp:∀ x ∈ xs,x.f.path.length<=60000) (hlen:(packA (xs.map FlX.f)).length<=900000) :
  Calls prog 33 #[v] w fun e w'=>∃ v',e=.returned v'/\w'.ownsRow w.heap.size 5 1 v' (packA (xs.map FlX.f)).length (bv (packA (xs.map FlX.f)))/\Mod No w w':=by
 refine calls_hide fun R hR=>?_
 obtain ⟨i0,hi0,hz0,hz1,hz2⟩:=info_parts info_byte
 have HI:=zh (And.intro hi0 (And.intro hz0 (And.intro hz1 hz2)))
 have HE:=zh h.each
 have HS:=zh h.sl
 have HP:=zh hp
 have HPA:=zh (show packA (xs.map FlX.f)=pakT++((xs.map FlX.f).flatMap packF++[255]) from rfl)
 have HTK:=zh (show ∀ k (hk:k < xs.length),pakT++((xs.map FlX.f).take (k+1)).flatMap packF=pakT++((xs.map FlX.f).take k).flatMap packF++packF xs[k].f from fun k hk=>by
  rw [List.take_succ_eq_append_getElem (by rw [List.length_map];exact hk),List.flatMap_append,<- List.append_assoc,List.getElem_map]
  simp)
 have HLE:=zh (show ∀ k,(pakT++((xs.map FlX.f).take k).flatMap packF).length+1<=900000 from fun k=>by
  refine Nat.le_trans ?_ hlen
  rw [HPA.out]
  conv=>rhs;rw [<- List.take_append_drop k (xs.map FlX.f)]
  rw [List.flatMap_append]
  simp only [List.length_append,List.length_singleton]
  omega)
 have HFI:=zh (show pakT++((xs.map FlX.f).take xs.length).flatMap packF++[255]=packA (xs.map FlX.f) by
  rw [show xs.length=(xs.map FlX.f).length by rw [List.length_map],List.take_length,List.append_assoc];rfl)
 obtain ⟨va,vc,rfl⟩:=h.sl.len
 clear hi0 hz0 hz1 hz2 h hp hlen
 obtain ⟨n,hn⟩:∃ n,n=xs.length:=⟨_,rfl⟩
 have HN:=zh hn
 rw [<- hn] at HS HFI
 rw [<- hn]
 clear hn
 have hn6:n<=900000:=by
  have h1:=HLE.out n
  have h2:n<=(((xs.map FlX.f).take n).flatMap packF).length:=by
   have h3:∀ l:List Fl,l.length<=(l.flatMap packF).length:=by
    intro l
    induction l with
    | nil=>simp
    | cons f l ih =>
     have h5:1<=(packF f).length:=by unfold packF;rw [List.length_cons];omega
     rw [List.flatMap_cons,List.length_append,List.length_cons];omega
   have h4:=h3 ((xs.map FlX.f).take n)
   rw [List.length_take,List.length_map,<- HN.out,Nat.min_self] at h4
   exact h4
  rw [List.length_append] at h1
  omega
 obtain ⟨hi0,hz0,hz1,hz2⟩:=HI.out
 go_enter func33,ntmps33
 have hcv:(convert 29 29 (.slice (some ⟨w.heap.size,0,none⟩) 4 4)).run prog (w.alloc (.cells #[.int .u8 80,.int .u8 65,.int .u8 75,.int .u8 49] 5))=.ok (.slice (some ⟨w.heap.size,0,none⟩) 4 4) (w.alloc (.cells #[.int .u8 80,.int .u8 65,.int .u8 75,.int .u8 49] 5 (4,5))) :=
  Go.Lib.run_convert_bytes_const (P:=prog) w 29 5 #[.int .u8 80,.int .u8 65,.int .u8 75,.int .u8 49] 4 4 underlying29 underlying5
 go_wp2_with fail
 generalize hw1:World.alloc w _=w1
 have HM1:=zh (show Mod No w w1 by rw [<- hw1];exact (Mod.refl No w).alloc _)
 have HB1:=zh (show BufL w1 w.heap.size (.slice (some ⟨w.heap.size,0,none⟩) 4 4) pakT from .inl ⟨w.heap.size,(4,5),rfl,Nat.le_refl _,by rw [<- hw1];exact heap_alloc_new w _⟩)
 clear hw1 hcv
 go_loopw [3,4] (fun q3 q4 wr=>∃ (k:Nat) (u:Value),k<=n/\q4=.int .i64 (k:Int)/\q3=u/\BufL wr w.heap.size u (pakT++((xs.map FlX.f).take k).flatMap packF)/\Mod No w wr) (fun _ q _=>n - (intOf q).toNat)
 case atStart=>exact ⟨0,_,by omega,rfl,rfl,by simpa using HB1.out,HM1.out⟩
 case round =>
  obtain ⟨k,u,hk,rfl,rfl,hown,hm⟩:=hrel
  have HM:=zh hm
  have HO:=zh hown
  have hk0:(0:Int)<=(k:Int):=Int.natCast_nonneg _
  obtain ⟨ua,uc,rfl⟩:=hown.len
  clear hm hown
  by_cases hlt:k < n
  ·have hk1:(k:Int) < (n:Int):=by omega
   have hlt2:k < xs.length:=by rw [<- HN.out];exact hlt
   obtain ⟨b,o,c,hvs,_⟩:=HS.out.shape (by omega)
   cases hvs
   have HRG:=zh (show ∀ W,Mod No w W->W.rangeAt b (o+k*3) (FlX.cells xs[k]) from fun W hW=>hW.rangeAt (Sl.at FlX.cells_length HS.out hlt2) (fun f=>f))
   have HXB:=zh (HE.out _ (List.getElem_mem hlt2))
   have hxp:=HP.out _ (List.getElem_mem hlt2)
   have HTX:=zh (HTK.out k hlt2)
   have hle:=HLE.out (k+1)
   rw [HTX.out,List.length_append] at hle
   generalize xs[k]=x at *
   generalize pakT++((xs.map FlX.f).take k).flatMap packF=T at *
   have HTP:=zh (show x.f.path.take 65535=x.f.path from List.take_of_length_le (by omega))
   have HPF:=zh (show packF x.f=(if x.f.dir then 1 else 0) :: (numB8 x.f.path.length 2++(x.f.path++(if x.f.dir then [] else numB8 x.f.b.length 8++x.f.b))) by unfold packF;rw [HTP.out])
   have hsz:((⟨x.f.path.toArray⟩:ByteArray).size:Int)=(x.f.path.length:Int):=by rw [str_len3]
   have hszn:(⟨x.f.path.toArray⟩:ByteArray).size=x.f.path.length:=str_len3 _
   have h0:=HRG.out wr HM.out 0 (strV x.f.path) rfl
   have h1:=HRG.out wr HM.out 1 (.bool x.f.dir) rfl
   rw [Nat.add_zero] at h0
   obtain ⟨dr,hdr⟩:∃ dr,dr=x.f.dir:=⟨_,rfl⟩
   have HD:=zh (show FlX.cells x=[strV x.f.path,.bool dr,x.vv] by rw [hdr];rfl)
   rw [<- hdr] at h1 HPF
   have hng:¬ ((65535:Int) < (x.f.path.length:Int)):=by omega
   have hwp:IntKind.u64.wrap (x.f.path.length:Int)=(x.f.path.length:Int):=by rw [IntKind.wrap_u64];omega
   have hTl:T.length<=900000:=by omega
   have h2:=HRG.out wr HM.out 2 x.vv rfl
   obtain ⟨sa,sc,hsv⟩:=HXB.out.len
   obtain ⟨sm,hsm⟩:∃ sm,sm=x.f.b.length:=⟨_,rfl⟩
   have HSL:=zh (show x.f.b.length=sm from hsm.symm)
   have HB1x:=zh hsz
   unfold strV at *
   clear hdr
   rcases dr with _ | _
   ·have HFX:=zh (show ((T++[0])++numB8 x.f.path.length 2++x.f.path)++numB8 sm 8++x.f.b=T++packF x.f by rw [HPF.out,HSL.out];simp)
    have hls:x.f.b.length+11<=900000:=by
     rw [HPF.out] at hle
     simp only [Bool.false_eq_true,if_false,List.length_cons,List.length_append,numB8_length] at hle
     omega
    have hsm2:sm<=900000:=by omega
    have hpb:T.length+x.f.path.length+sm+11<=900000:=by
     rw [HPF.out] at hle
     simp only [Bool.false_eq_true,if_false,List.length_cons,List.length_append,numB8_length] at hle
     omega
    clear hle hsm
    have HO1:=zh (HO.out.no ((Mod.refl No wr).alloc (.cells #[.int .u8 0] 5)))
    have HB1:=zh (show w.heap.size<=(wr.alloc (.cells #[.int .u8 0] 5)).heap.size from Nat.le_trans HM.out.size ((Mod.refl No wr).alloc _).size)
    have HPX:=zh (HPF.out)
    clear HPF HB1x
    go_wp2_with (at_builtin;refine wpList_app_buf _ rfl _ _ rfl w.heap.size _ T rfl HO1.out (by omega) wr.heap.size (.int .u8 0) rfl rfl (heap_alloc_new wr _) HB1.out ?_;intro v7 w7 hown7 hm7;have HO7:=zh hown7;have HM7:=zh hm7;clear hown7 hm7)
    have HO8:=zh (show w7.ownsRow w.heap.size 5 1 v7 (T++[0]).length (bv (T++[0])) by rw [List.length_append,bv_append];exact HO7.out)
    have HM8:=zh (show Mod (fun q=>w.heap.size<=q) w w7 from ((HM.out.alloc _).weaken (fun _ _ f=>f.elim)).trans HM7.out)
    have HNU:=zh (show Calls prog 75 #[v7,.int .u64 (x.f.path.length:Int),.int .i64 2] w7 _ from ref7num_any x.f.path.length 2 (by omega) w.heap.size (T++[0]) (by rw [List.length_append,List.length_singleton];omega) v7 w7 HM8.out.size HO8.out)
    clear HO7 HO1
    with_reducible refine HNU.out.mono ?_
    rintro e w8 ⟨v8,rfl,hown8,hm8⟩
    have HO9:=zh hown8
    have HM9:=zh (HM8.out.trans hm8)
    have hl9:((T++[0])++numB8 x.f.path.length 2).length=T.length+3:=by rw [List.length_append,List.length_append,numB8_length,List.length_singleton]
    clear hown8 hm8 HNU HO8
    go_upto_region 12 with (at_builtin;refine Lib.wpList_append_own_string _ rfl _ _ 29 9 rfl w.heap.size 5 i0 underlying29 underlying9 hi0 hz0 hz1 hz2 v8 _ _ rfl HO9.out ⟨x.f.path.toArray⟩ rfl (by rw [hl9,hszn];unfold maxLen;omega) (by rw [hl9,hszn];omega) HM9.out.size ?_;intro v5 w5 hown5 hg5 _;have HOs:=zh hown5;have HG5:=zh hg5;clear hown5 hg5)
    have HO5:=zh (show w5.ownsRow w.heap.size 5 1 v5 ((T++[0])++numB8 x.f.path.length 2++x.f.path).length (bv ((T++[0])++numB8 x.f.path.length 2++x.f.path)) by
     have h9:=HOs.out
     rw [hszn,strcells_bv] at h9
     rw [List.length_append,bv_append]
     exact h9)
    have HM5:=zh (show Mod (fun q=>w.heap.size<=q) w w5 from HM9.out.trans (Mod.of_grown HG5.out (fun q e _=>own_base HO9.out e)))
    have HM5N:=zh (show Mod No w w5 from (Mod.refl No w).then HM5.out (fun q hq e=>absurd e (by omega)))
    clear HOs HG5 HO9 HM9
    obtain ⟨L5,hL5⟩:∃ L5,L5=(T++[0])++numB8 x.f.path.length 2++x.f.path:=⟨_,rfl⟩
    have hl5:L5.length=T.length+3+x.f.path.length:=by rw [hL5,List.length_append,hl9]
    rw [<- hL5] at HO5 HFX
    clear hL5
    have hwl:IntKind.u64.wrap (sm:Int)=(sm:Int):=by rw [IntKind.wrap_u64];omega
    have h1b:=HRG.out w5 HM5N.out 1 (.bool false) (by rw [HD.out];rfl)
    go_upto_region 13 with fail
    obtain ⟨wD,hwD⟩:∃ y,y=w5.drew:=⟨_,rfl⟩
    have hmD:Mod No w5 wD:=by rw [hwD];exact (Mod.refl No w5).drew
    have HMD:=zh (show Mod No w wD from HM5N.out.trans hmD)
    have HO5:=zh (own_keepM HO5.out hmD (fun _ _ f=>f))
    have HSM:=zh (show ∀ w',Mod (fun q=>w.heap.size<=q) wD w'->w'.cell? ⟨b,o+k*3+2,none⟩=some (.slice sa sm sc) from fun w' h=>by
     have h9:=HRG.out w' ((Mod.refl No w).then (show Mod (fun q=>w.heap.size<=q) w w' from (HMD.out.weaken (fun _ _ f=>f.elim)).trans h) (fun q hq e=>absurd e (by omega))) 2 x.vv rfl
     rw [hsv,HSL.out] at h9
     exact h9)
    have HSB:=zh (show ∀ w',Mod (fun q=>w.heap.size<=q) wD w'->Sl w' No 5 (.slice sa sm sc) sm (bv x.f.b) from fun w' h=>by
     have h9:=HXB.out.keep ((Mod.refl No w).then (show Mod (fun q=>w.heap.size<=q) w w' from (HMD.out.weaken (fun _ _ f=>f.elim)).trans h) (T:=fun q=>w.heap.size<=q) (S:=No) (fun q hq e=>absurd e (by omega))) (fun _ _ _ f=>f.elim)
     rw [hsv,HSL.out] at h9
     exact h9)
    have HWD:=zh hwD
    have hS0:=Mod.refl (fun q=>w.heap.size<=q) wD
    clear hwD hmD h1b
    refine wp_region_T (fun w'=>Mod (fun q=>w.heap.size<=q) wD w') 99 (by kernel_rfl) ?_
    rw [<- HWD.out]
    refine yT 0 (some 46) ?_ hS0 ?_ ?_
    rotate_left
    ·(intro w' hSw;go_simp;try with_reducible rfl)
    simp only [Act.put,yB,yC,yD]
    refine yT 1 (some 47) ?_ hS0 ?_ ?_
    rotate_left
    ·(intro w' hSw;go_simp;try with_reducible rfl)
    simp only [Act.put,yB,yC,yD]
    refine yT 2 (some 48) ?_ hS0 ?_ ?_
    rotate_left
    ·(intro w' hSw;go_simp;try with_reducible rfl)
    simp only [Act.put,yB,yC,yD]
    refine yT 3 (some 49) ?_ hS0 ?_ ?_
    rotate_left
    ·(intro w' hSw;go_simp;try with_reducible rfl)
    simp only [Act.put,yB,yC,yD]
    refine yT 4 (some 50) ?_ hS0 ?_ ?_
    rotate_left
    ·(intro w' hSw;go_simp;try with_reducible rfl)
    simp only [Act.put,yB,yC,yD]
    refine yT 5 (some 51) (.slice sa sm sc) hS0 ?_ ?_
    ·(intro w' hSw;have q0:=HSM.out w' hSw;go_simp;try with_reducible rfl)
    simp only [Act.put,yB,yC,yD]
    refine yT 6 (some 52) ?_ hS0 ?_ ?_
    rotate_left
    ·(intro w' hSw;go_simp;try with_reducible rfl)
    simp only [Act.put,yB,yC,yD]
    refine yT 7 (some 53) (.int .u64 (sm:Int)) hS0 ?_ ?_
    ·(intro w' hSw;go_simp;try rfl)
    simp only [Act.put,yB,yC,yD]
    refine yT 9 (some 55) ?_ hS0 ?_ ?_
    rotate_left
    ·(intro w' hSw;go_simp;try with_reducible rfl)
    simp only [Act.put,yB,yC,yD]
    refine yT 10 (some 56) ?_ hS0 ?_ ?_
    rotate_left
    ·(intro w' hSw;go_simp;try with_reducible rfl)
    simp only [Act.put,yB,yC,yD]
    refine yT 11 (some 57) ?_ hS0 ?_ ?_
    rotate_left
    ·(intro w' hSw;go_simp;try with_reducible rfl)
    simp only [Act.put,yB,yC,yD]
    refine yT 12 (some 58) ?_ hS0 ?_ ?_
    rotate_left
    ·(intro w' hSw;go_simp;try with_reducible rfl)
    simp only [Act.put,yB,yC,yD]
    refine yT 13 (some 59) (.slice sa sm sc) hS0 ?_ ?_
    ·(intro w' hSw;have q0:=HSM.out w' hSw;go_simp;try with_reducible rfl)
    simp only [Act.put,yB,yC,yD]
    refine wpAnyT_one 8 rfl (by kernel_rfl) rfl ?_
    intro K hK
    go_simp
    go_at_call 75
    have HNU:=zh (show Calls prog 75 #[v5,.int .u64 (sm:Int),.int .i64 8] wD _ from ref7num_any sm 8 (by omega) w.heap.size L5 (by omega) v5 wD HMD.out.size HO5.out)
    with_reducible refine HNU.out.mono ?_
    rintro e wE ⟨v6,rfl,hown6,hmE⟩
    have HO6:=zh hown6
    have HME:=zh hmE
    clear hown6 hmE
    show K _ _
    have hS1:=HME.out
    refine hK.out _ _ (fun _=>hS1) ?_
    clear hK K
    refine wpAnyT_one 14 rfl (by kernel_rfl) rfl ?_
    intro K hK
    refine wp_app_sl wE (.tmp 54) (.tmp 59) 29 (by rfl) w.heap.size 5 i0 _ 1 1 underlying29 hi0 hz0 hz1 hz2 rfl (by decide) v6 (L5++numB8 sm 8).length (bv (L5++numB8 sm 8)) (by rfl) HO6.out No 5 (.slice sa sm sc) sm (bv x.f.b) (by rfl) (HSB.out wE HME.out) (by rw [bv_length,HSL.out];omega) (bv_one _) (by rw [List.length_append,numB8_length];unfold maxLen;omega) (by rw [List.length_append,numB8_length];omega) (Nat.le_trans HMD.out.size HME.out.size) ?_
    intro v7 w7 hown7 hg7 _
    have HO7:=zh hown7
    have HM7:=zh (show Mod (fun q=>w.heap.size<=q) wD w7 from HME.out.trans (Mod.of_grown hg7 (fun q e _=>own_base HO6.out e)))
    clear hown7 hg7
    show K _ _
    have hS2:=HM7.out
    refine hK.out _ _ (fun _=>hS2) ?_
    clear hK K
    refine yT 15 (some 3) ?_ hS2 ?_ ?_
    rotate_left
    ·(intro w' hSw;go_simp;try with_reducible rfl)
    simp only [Act.put]
    refine wpAnyT_done (by kernel_rfl) ?_ _
    clear hS0 hS1 hS2
    go_wp2_with fail
    refine ⟨⟨k+1,v7,by omega,rfl,rfl,.inr ?_,HMD.out.then HM7.out (fun q hq e=>absurd e (by omega))⟩,by show n - ((k:Int)+1).toNat < n - (k:Int).toNat;omega⟩
    have h9:=HO7.out
    rw [<- bv_append,HFX.out] at h9
    have h8:(L5++numB8 sm 8).length+sm=(T++packF x.f).length:=by rw [<- HFX.out,List.length_append (bs:=x.f.b),HSL.out]
    rw [h8] at h9
    rw [HTX.out]
    exact h9
   ·have HFX:=zh (show ((T++[1])++numB8 x.f.path.length 2++x.f.path)=T++packF x.f by rw [HPF.out];simp)
    have hpb:T.length+x.f.path.length+3<=900000:=by
     rw [HPF.out] at hle
     simp only [if_true,List.length_cons,List.length_append,numB8_length] at hle
     omega
    clear hle hsm
    have HO1:=zh (HO.out.no ((Mod.refl No wr).alloc (.cells #[.int .u8 1] 5)))
    have HB1:=zh (show w.heap.size<=(wr.alloc (.cells #[.int .u8 1] 5)).heap.size from Nat.le_trans HM.out.size ((Mod.refl No wr).alloc _).size)
    have HPX:=zh (HPF.out)
    clear HPF HB1x
    go_wp2_with (at_builtin;refine wpList_app_buf _ rfl _ _ rfl w.heap.size _ T rfl HO1.out (by omega) wr.heap.size (.int .u8 1) rfl rfl (heap_alloc_new wr _) HB1.out ?_;intro v7 w7 hown7 hm7;have HO7:=zh hown7;have HM7:=zh hm7;clear hown7 hm7)
    have HO8:=zh (show w7.ownsRow w.heap.size 5 1 v7 (T++[1]).length (bv (T++[1])) by rw [List.length_append,bv_append];exact HO7.out)
    have HM8:=zh (show Mod (fun q=>w.heap.size<=q) w w7 from ((HM.out.alloc _).weaken (fun _ _ f=>f.elim)).trans HM7.out)
    have HNU:=zh (show Calls prog 75 #[v7,.int .u64 (x.f.path.length:Int),.int .i64 2] w7 _ from ref7num_any x.f.path.length 2 (by omega) w.heap.size (T++[1]) (by rw [List.length_append,List.length_singleton];omega) v7 w7 HM8.out.size HO8.out)
    clear HO7 HO1
    with_reducible refine HNU.out.mono ?_
    rintro e w8 ⟨v8,rfl,hown8,hm8⟩
    have HO9:=zh hown8
    have HM9:=zh (HM8.out.trans hm8)
    have hl9:((T++[1])++numB8 x.f.path.length 2).length=T.length+3:=by rw [List.length_append,List.length_append,numB8_length,List.length_singleton]
    clear hown8 hm8 HNU HO8
    go_upto_region 12 with (at_builtin;refine Lib.wpList_append_own_string _ rfl _ _ 29 9 rfl w.heap.size 5 i0 underlying29 underlying9 hi0 hz0 hz1 hz2 v8 _ _ rfl HO9.out ⟨x.f.path.toArray⟩ rfl (by rw [hl9,hszn];unfold maxLen;omega) (by rw [hl9,hszn];omega) HM9.out.size ?_;intro v5 w5 hown5 hg5 _;have HOs:=zh hown5;have HG5:=zh hg5;clear hown5 hg5)
    have HO5:=zh (show w5.ownsRow w.heap.size 5 1 v5 ((T++[1])++numB8 x.f.path.length 2++x.f.path).length (bv ((T++[1])++numB8 x.f.path.length 2++x.f.path)) by
     have h9:=HOs.out
     rw [hszn,strcells_bv] at h9
     rw [List.length_append,bv_append]
     exact h9)
    have HM5:=zh (show Mod (fun q=>w.heap.size<=q) w w5 from HM9.out.trans (Mod.of_grown HG5.out (fun q e _=>own_base HO9.out e)))
    have HM5N:=zh (show Mod No w w5 from (Mod.refl No w).then HM5.out (fun q hq e=>absurd e (by omega)))
    clear HOs HG5 HO9 HM9
    have h1b:=HRG.out w5 HM5N.out 1 (.bool true) (by rw [HD.out];rfl)
    go_wp2_with fail
    refine ⟨⟨k+1,v5,by omega,rfl,rfl,.inr ?_,HM5N.out⟩,by show n - ((k:Int)+1).toNat < n - (k:Int).toNat;omega⟩
    have h9:=HO5.out
    rw [HFX.out] at h9
    rw [HTX.out]
    exact h9
  ·obtain rfl:k=n:=by omega
   have hk1:¬ ((k:Int) < (k:Int)):=by omega
   have HFIN:=zh (show pakT++((xs.map FlX.f).take k).flatMap packF++[255]=packA (xs.map FlX.f) from HFI.out)
   have hle:=HLE.out k
   generalize pakT++((xs.map FlX.f).take k).flatMap packF=T at *
   have HO1:=zh (HO.out.no ((Mod.refl No wr).alloc (.cells #[.int .u8 255] 5)))
   have HB1:=zh (show w.heap.size<=(wr.alloc (.cells #[.int .u8 255] 5)).heap.size from Nat.le_trans HM.out.size ((Mod.refl No wr).alloc _).size)
   go_wp2_with (at_builtin;refine wpList_app_buf _ rfl _ _ rfl w.heap.size _ T rfl HO1.out (by omega) wr.heap.size (.int .u8 255) rfl rfl (heap_alloc_new wr _) HB1.out ?_;intro v7 w7 hown7 hm7;have HO7:=zh hown7;have HM7:=zh hm7;clear hown7 hm7)
   refine fin hR ⟨v7,rfl,?_,(HM.out.alloc _).then HM7.out (fun q hq e=>absurd e (by omega))⟩
   rw [<- HFIN.out,List.length_append,bv_append]
   exact HO7.out
theorem bytes_new (w:World) (l:List UInt8) (hl:l.length<=1000000):∃ c W,(convert 9 29 (.string ⟨l.toArray⟩)).run prog w=.ok (.slice (some ⟨w.heap.size,0,none⟩) l.length c) W/\Sl W No 5 (.slice (some ⟨w.heap.size,0,none⟩) l.length c) l.length (bv l)/\Mod No w W:=by
 have hs:=str_len3 l
 refine ⟨grownCap w l.length 0 5,Lib.bytesWorld w 5 ⟨l.toArray⟩,?_,?_,?_⟩
 ·have:=Lib.run_convert_string_bytes (P:=prog) w 9 29 5 ⟨l.toArray⟩ underlying9 underlying29 underlying5
  rw [hs] at this
  exact this
 ·refine .inr ⟨w.heap.size,0,_,_,_,rfl,?_,grownCap_le_maxLen w _ 0 _ (by unfold maxLen;omega),fun f=>f,Lib.bytesWorld_at_new w _ _,?_,fun i hi=>?_⟩
  ·exact grownCap_ge w _ 0 _
  ·unfold Lib.bytesCells;simp
  ·rw [bv_length] at hi
   unfold Lib.bytesCells
   rw [Nat.zero_add,Array.getElem?_append_left (by simpa using hi),bv_get _ i hi]
   simp [hi]
 ·exact ⟨rfl,rfl,rfl,by rw [Lib.bytesWorld_size];omega,fun k hk _=>Lib.bytesWorld_at_old w _ _ k hk⟩
set_option maxRecDepth 100000 in
theorem lit67 (t:Array Value) (h:t.size=67):∃ c:Nat->Value,t=#[c 0,c 1,c 2,c 3,c 4,c 5,c 6,c 7,c 8,c 9,c 10,c 11,c 12,c 13,c 14,c 15,c 16,c 17,c 18,c 19,c 20,c 21,c 22,c 23,c 24,c 25,c 26,c 27,c 28,c 29,c 30,c 31,c 32,c 33,c 34,c 35,c 36,c 37,c 38,c 39,c 40,c 41,c 42,c 43,c 44,c 45,c 46,c 47,c 48,c 49,c 50,c 51,c 52,c 53,c 54,c 55,c 56,c 57,c 58,c 59,c 60,c 61,c 62,c 63,c 64,c 65,c 66]/\∀ i,t.getD i undef=c i:=by
 refine ⟨fun i=>t.getD i undef,?_,fun _=>rfl⟩
 have h1:=arr_lits t
 rw [h] at h1
 exact h1.trans (by kernel_rfl)
noncomputable def bodyFl:Code:=Tryz.f34.body.getD .skip
noncomputable def blkFl0:Code:=(blockAt 0 bodyFl).getD .skip
theorem own_apartF {B:Nat} {w:World} {e:TypeId} {size:Nat} {v:Value} {n:Nat} {xs:List Value} (h:w.ownsRow B e size v n xs) {ts:List TypeId} (hne:e ∉ ts):Apart ts (fun k=>v.ownBlock=some k) w:=fun k cur fz e2 hk hc hm=>by
 obtain ⟨cur2,h5⟩:=own_heapM h hk
 rw [hc] at h5
 cases h5
 exact hne hm
theorem info_file:(prog.info? 122).map (fun i=>(i.zero,i.size,i.bytes))=some (some (.agg #[.string ⟨#[]⟩,.bool false,.slice none 0 0]),3,48):=by kernel_rfl
theorem bigB_take {k:Nat} (h:k < 200):bigB.take (k+1)=bigB.take k++[UInt8.ofNat k]:=by
 have hl:=bigB_length
 rw [List.take_succ_eq_append_getElem (by omega)]
 congr 2
 unfold bigB
 simp
set_option maxRecDepth 100000 in
set_option maxHeartbeats 16000000 in
theorem sw_part (K base:Nat) (v5:Value) (cs:List Value) (a:Act) (w:World) (hown:w.ownsRow base 122 3 v5 2 cs) (hb:base<=w.heap.size)
  (hF:Fr 67 [(5,v5),(6,.string ⟨#[]⟩),(27,.int .u8 ((K % 10:Nat):Int))] a) :
  Code.wp prog blkFl0 (Exit.then (fun a' w'=>∃ (v':Value) (ys:List FlX),Fr 67 [(5,v'),(6,strV (scriptK (K % 10)))] a'/\w'.ownsRow base 122 3 v' (2+ys.length) (cs++ys.flatMap FlX.cells)/\(∀ y ∈ ys,Sl w' No 5 y.vv y.f.b.length (bv y.f.b))/\ys.map FlX.f=(if K % 10=8 then [⟨bigT,false,bigB⟩] else [])/\Mod (fun q=>v5.ownBlock=some q) w w') Nope) a w:=by
 refine wp_part fun J K' hJ hK=>?_
 have HJ:=zh hJ
 clear hJ
 obtain ⟨ts,ds⟩:=a
 obtain ⟨hsz,hds,hs5,hs6,hs27,-⟩:=hF
 dsimp only at hsz hds hs5 hs6 hs27
 subst hds
 obtain ⟨c,rfl,hc⟩:=lit67 ts hsz
 rw [hc] at hs5
 rw [hc] at hs6
 rw [hc] at hs27
 simp only [hs5,hs6,hs27]
 clear hc hsz hs5 hs6 hs27
 have HO:=zh hown
 have HB:=zh hb
 have HX0:=zh (show w.ownsRow base 122 3 v5 (2+0) (cs++([]:List FlX).flatMap FlX.cells) by simpa using hown)
 clear hown hb
 conv=>arg 2;whnf
 obtain ⟨kk,hkk⟩:∃ kk,kk=K % 10:=⟨_,rfl⟩
 have h10:=ten_cases K
 rw [<- hkk] at h10 HJ ⊢
 clear hkk
 rcases h10 with rfl | rfl | rfl | rfl | rfl | rfl | rfl | rfl | rfl | rfl
 ·go_wp2_with fail
  exact Met.intro (HJ.out _ _ ⟨v5,[],⟨rfl,rfl,rfl,rfl,trivial⟩,HX0.out,(fun y hy=>by cases hy),rfl,Mod.refl _ _⟩)
 ·go_wp2_with fail
  exact Met.intro (HJ.out _ _ ⟨v5,[],⟨rfl,rfl,rfl,rfl,trivial⟩,HX0.out,(fun y hy=>by cases hy),rfl,Mod.refl _ _⟩)
 ·go_wp2_with fail
  exact Met.intro (HJ.out _ _ ⟨v5,[],⟨rfl,rfl,rfl,rfl,trivial⟩,HX0.out,(fun y hy=>by cases hy),rfl,Mod.refl _ _⟩)
 ·go_wp2_with fail
  exact Met.intro (HJ.out _ _ ⟨v5,[],⟨rfl,rfl,rfl,rfl,trivial⟩,HX0.out,(fun y hy=>by cases hy),rfl,Mod.refl _ _⟩)
 ·go_wp2_with fail
  exact Met.intro (HJ.out _ _ ⟨v5,[],⟨rfl,rfl,rfl,rfl,trivial⟩,HX0.out,(fun y hy=>by cases hy),rfl,Mod.refl _ _⟩)
 ·go_wp2_with fail
  exact Met.intro (HJ.out _ _ ⟨v5,[],⟨rfl,rfl,rfl,rfl,trivial⟩,HX0.out,(fun y hy=>by cases hy),rfl,Mod.refl _ _⟩)
 ·go_wp2_with fail
  exact Met.intro (HJ.out _ _ ⟨v5,[],⟨rfl,rfl,rfl,rfl,trivial⟩,HX0.out,(fun y hy=>by cases hy),rfl,Mod.refl _ _⟩)
 ·go_wp2_with fail
  exact Met.intro (HJ.out _ _ ⟨v5,[],⟨rfl,rfl,rfl,rfl,trivial⟩,HX0.out,(fun y hy=>by cases hy),rfl,Mod.refl _ _⟩)
 ·go_wp2_with fail
  go_loopw [7,8] (fun q7 q8 wr=>∃ (k:Nat) (u:Value),k<=200/\q8=.int .i64 (k:Int)/\q7=u/\wr.ownsRow w.heap.size 5 1 u k (bv (bigB.take k))/\Mod No w wr) (fun _ q _=>200 - (intOf q).toNat)
  case atStart=>exact ⟨0,.slice none 0 0,by omega,rfl,rfl,⟨by simp,.inl ⟨rfl,rfl⟩⟩,Mod.refl _ _⟩
  case round =>
   obtain ⟨k,u,hk,rfl,rfl,hown,hm⟩:=hrel
   have HM:=zh hm
   have HU:=zh hown
   have hk0:(0:Int)<=(k:Int):=Int.natCast_nonneg _
   obtain ⟨ua,uc,rfl⟩:=own_len hown
   clear hm hown
   by_cases hlt:k < 200
   ·have hk1:(k:Int) < 200:=by omega
    have HTK:=zh (bigB_take hlt)
    have hwk:IntKind.u8.wrap (k:Int)=(k:Int):=by rw [IntKind.wrap_u8];omega
    have hmk:(k:Int) % 256=(k:Int):=by omega
    obtain ⟨i0,hi0,hz0,hz1,hz2⟩:=info_parts info_byte
    have HUA:=zh (own_keepM HU.out ((Mod.refl No wr).alloc (.cells #[.int .u8 (k:Int)] 5)) (fun _ _ f=>f))
    go_wp2_with (at_builtin;refine app_sl _ rfl _ _ 29 rfl w.heap.size 5 i0 (.int .u8 0) 1 1 underlying29 hi0 hz0 hz1 hz2 rfl (by decide) _ k (bv (bigB.take k)) rfl HUA.out No 5 (.slice (some ⟨wr.heap.size,0,none⟩) 1 1) 1 [.int .u8 (k:Int)] rfl (.inr ⟨wr.heap.size,0,1,_,(0,0),rfl,Nat.le_refl _,by unfold maxLen;omega,fun f=>f,heap_alloc_new wr _,by simp,fun i hi=>by simp⟩) rfl (fun u hu=>by rw [List.mem_singleton.1 hu];rfl) (by unfold maxLen;omega) (by omega) (Nat.le_trans HM.out.size ((Mod.refl No wr).alloc _).size) ?_;intro v7 w7 hown7 hg7 _;have HO7:=zh hown7;have HG7:=zh hg7;clear hown7 hg7)
    have HM7:=zh (show Mod No w w7 from (HM.out.alloc (.cells #[.int .u8 (k:Int)] 5)).then (Mod.of_grown (S:=fun q=>w.heap.size<=q) HG7.out (fun q e _=>own_base HU.out e)) (fun q hq e=>absurd e (by omega)))
    refine ⟨⟨k+1,v7,by omega,rfl,rfl,?_,HM7.out⟩,by show 200 - ((k:Int)+1).toNat < 200 - (k:Int).toNat;omega⟩
    have h9:=HO7.out
    rw [HTK.out,bv_append]
    rw [show bv [UInt8.ofNat k]=[.int .u8 (k:Int)] by
     unfold bv
     simp only [List.map_cons,List.map_nil,UInt8.toNat_ofNat']
     rw [Nat.mod_eq_of_lt (by omega)]]
    exact h9
   ·obtain rfl:k=200:=by omega
    have HBT:=zh (show bigB.take 200=bigB from List.take_of_length_le (by rw [bigB_length];omega))
    have HUS:=zh (show Sl wr No 5 (.slice ua 200 uc) bigB.length (bv bigB) by
     have h9:=Sl.of_own (X:=No) HU.out (fun _ _ f=>f)
     rw [HBT.out] at h9
     rw [bigB_length]
     exact h9)
    obtain ⟨i0,hi0,hz0,hz1,hz2⟩:=info_parts info_file
    have HOA:=zh (own_keepM HO.out (HM.out.alloc (.cells #[.string ⟨#[98,105,103]⟩,.bool false,.slice ua 200 uc] 122)) (fun _ _ f=>f))
    go_wp2_with (at_builtin;refine app_sl _ rfl _ _ 74 rfl base 122 i0 _ 3 48 underlying74 hi0 hz0 hz1 hz2 rfl (by decide) v5 2 cs rfl HOA.out No 122 (.slice (some ⟨wr.heap.size,0,none⟩) 1 1) 1 [.string ⟨#[98,105,103]⟩,.bool false,.slice ua 200 uc] rfl (.inr ⟨wr.heap.size,0,1,_,(0,0),rfl,Nat.le_refl _,by unfold maxLen;omega,fun f=>f,heap_alloc_new wr _,by simp,fun i hi=>by simp⟩) rfl (fun u hu=>by simp only [List.mem_cons,List.not_mem_nil,or_false] at hu;rcases hu with rfl | rfl | rfl <;> rfl) (by unfold maxLen;omega) (by omega) (Nat.le_trans HB.out (Nat.le_trans HM.out.size ((Mod.refl No wr).alloc _).size)) ?_;intro v7 w7 hown7 hg7 _;have HO7:=zh hown7;have HG7:=zh hg7;clear hown7 hg7)
    have HM7:=zh (show Mod (fun q=>v5.ownBlock=some q) w w7 from ((HM.out.alloc (.cells #[.string ⟨#[98,105,103]⟩,.bool false,.slice ua 200 uc] 122)).weaken (fun _ _ f=>f.elim)).trans (Mod.of_grown HG7.out (fun q e _=>e)))
    have hap:=own_apartF HOA.out (ts:=[5]) (by decide)
    exact Met.intro (HJ.out _ _ ⟨v7,[⟨⟨bigT,false,bigB⟩,.slice ua 200 uc⟩],⟨rfl,rfl,rfl,rfl,trivial⟩,(by have h9:=HO7.out;exact h9),(fun y hy=>by
     obtain rfl:=List.mem_singleton.1 hy
     exact ((HUS.out.keep (S:=No) ((Mod.refl No wr).alloc _) (fun _ _ _ f=>f.elim)).apart (Mod.of_grown (S:=fun q=>v5.ownBlock=some q) HG7.out (fun q e _=>e)) hap)),rfl,HM7.out⟩)
 ·go_wp2_with fail
  exact Met.intro (HJ.out _ _ ⟨v5,[],⟨rfl,rfl,rfl,rfl,trivial⟩,HX0.out,(fun y hy=>by cases hy),rfl,Mod.refl _ _⟩)
set_option maxRecDepth 100000 in
set_option maxHeartbeats 16000000 in
theorem files_any (N V:Nat) (nd:List Nat) (na:Option Addr) (nn nc:Nat) (K L:Nat) (w:World) :
  Calls prog 34 #[.agg #[.int .u8 (N:Int),.int .u8 (V:Int),.slice na nn nc,.int .u8 (K:Int),.int .u8 (L:Int)]] w fun e w'=>(∃ v' xs,e=.returned v'/\FlsAt w' v' xs/\xs.map FlX.f=filesK ⟨N,V,nd,K,L⟩)/\Mod No w w':=by
 refine calls_hide fun R hR=>?_
 have hvl:=verTK_le V
 have hnl:(nameK N).length=1:=rfl
 have HFK:=zh (show filesK ⟨N,V,nd,K,L⟩=[⟨libT,true,[]⟩,⟨libT++47 :: nameK N,false,nameK N++32 :: verTK V⟩]++(if K % 10=8 then [⟨bigT,false,bigB⟩] else [])++(if scriptK (K % 10)=[] then [] else [⟨buildT,false,scriptK (K % 10)⟩]) from rfl)
 go_enter func34,ntmps34
 go_upto_region 1 with fail
 obtain ⟨gb,hgb⟩:∃ g,g=w.heap.size:=⟨_,rfl⟩
 rw [<- hgb]
 generalize hw1:World.alloc w _=w1
 have HG1:=zh (show w1.heap[gb]? = some (.cells #[.int .u8 (N:Int),.int .u8 (V:Int),.slice na nn nc,.int .u8 (K:Int),.int .u8 (L:Int)] 72 (0,0)) by rw [<- hw1,hgb];exact heap_alloc_new w _)
 have HM1:=zh (show Mod No w w1 by rw [<- hw1];exact (Mod.refl No w).alloc _)
 clear hw1 hgb
 obtain ⟨wD,hwD⟩:∃ y,y=w1.drew:=⟨_,rfl⟩
 have hmD:Mod No w1 wD:=by rw [hwD];exact (Mod.refl No w1).drew
 have HMD:=zh (HM1.out.trans hmD)
 have HGD:=zh (hmD.keep HG1.out (fun f=>f))
 have HSM:=zh (show ∀ w',Mod No wD w'->w'.cell? ⟨gb,0,none⟩=some (.int .u8 (N:Int))/\w'.cell? ⟨gb,1,none⟩=some (.int .u8 (V:Int)) from fun w' h =>
  ⟨cell_ofA (h.keep HGD.out (fun f=>f)) rfl,cell_ofA (h.keep HGD.out (fun f=>f)) rfl⟩)
 have HWD:=zh hwD
 have hS0:=Mod.refl No wD
 clear hwD hmD HG1 HM1
 refine wp_region_T (fun w'=>Mod No wD w') 99 (by kernel_rfl) ?_
 rw [<- HWD.out]
 refine yT 0 (some 9) ?_ hS0 ?_ ?_
 rotate_left
 ·(intro w' hSw;have q0:=(HSM.out w' hSw).1;have q1:=(HSM.out w' hSw).2;go_simp;try with_reducible rfl)
 simp only [Act.put,yB,yC,yD]
 refine yT 1 (some 10) ?_ hS0 ?_ ?_
 rotate_left
 ·(intro w' hSw;have q0:=(HSM.out w' hSw).1;have q1:=(HSM.out w' hSw).2;go_simp;try with_reducible rfl)
 simp only [Act.put,yB,yC,yD]
 refine yT 3 (some 12) ?_ hS0 ?_ ?_
 rotate_left
 ·(intro w' hSw;have q0:=(HSM.out w' hSw).1;have q1:=(HSM.out w' hSw).2;go_simp;try with_reducible rfl)
 simp only [Act.put,yB,yC,yD]
 refine yT 4 (some 13) ?_ hS0 ?_ ?_
 rotate_left
 ·(intro w' hSw;have q0:=(HSM.out w' hSw).1;have q1:=(HSM.out w' hSw).2;go_simp;try with_reducible rfl)
 simp only [Act.put,yB,yC,yD]
 refine wpAnyT_one 2 rfl (by kernel_rfl) rfl ?_
 intro K hK
 go_simp
 go_at_call 28
 with_reducible refine (seatname_any N wD).mono ?_
 rintro e wE ⟨rfl,hwE⟩
 have HMwE:=zh (show Mod No wD wE by rw [hwE];exact Mod.refl _ _)
 clear hwE
 show K _ _
 have hS1:=HMwE.out
 refine hK.out _ _ (fun _=>hS1) ?_
 clear hK K
 refine wpAnyT_one 5 rfl (by kernel_rfl) rfl ?_
 intro K hK
 go_simp
 go_at_call 25
 with_reducible refine (seatversion_any V wE).mono ?_
 rintro e wF ⟨rfl,hwF⟩
 have HMwF:=zh (HMwE.out.trans hwF)
 clear hwF
 show K _ _
 have hS2:=HMwF.out
 refine hK.out _ _ (fun _=>hS2) ?_
 clear hK K
 refine yT 6 (some 3) ?_ hS2 ?_ ?_
 rotate_left
 ·(intro w' hSw;have q0:=(HSM.out w' hSw).1;have q1:=(HSM.out w' hSw).2;go_simp;try with_reducible rfl)
 simp only [Act.put,yB,yC,yD]
 refine yT 7 (some 4) ?_ hS2 ?_ ?_
 rotate_left
 ·(intro w' hSw;have q0:=(HSM.out w' hSw).1;have q1:=(HSM.out w' hSw).2;go_simp;try with_reducible rfl)
 simp only [Act.put]
 refine wpAnyT_done (by kernel_rfl) ?_ _
 clear hS0 hS1 hS2
 have HMF:=zh (HMD.out.trans HMwF.out)
 clear HMwE HSM
 unfold strV
 obtain ⟨TX,hTX⟩:∃ TX,TX=nameK N++32 :: verTK V:=⟨_,rfl⟩
 have htl:TX.length<=20:=by rw [hTX,List.length_append,List.length_cons];omega
 obtain ⟨c1,wG,hcv,hsl,hm⟩:=bytes_new wF TX (by omega)
 have hca:(⟨#[108,105,98,47]⟩:ByteArray) ++ ⟨(nameK N).toArray⟩=⟨(libT++47 :: nameK N).toArray⟩:=str_app [108,105,98,47] (nameK N)
 have hcb:(⟨(nameK N).toArray⟩:ByteArray) ++ ⟨#[32]⟩ ++ ⟨(verTK V).toArray⟩=⟨TX.toArray⟩:=by rw [hTX,str_dot,str_app];simp
 have hz1:(⟨(nameK N).toArray⟩:ByteArray).size=(nameK N).length:=str_len3 _
 have hz2:(⟨(verTK V).toArray⟩:ByteArray).size=(verTK V).length:=str_len3 _
 have HTX:=zh hTX
 have hsk:=scriptK_le (K % 10)
 have HSLG:=zh hsl
 have HMG:=zh (HMF.out.trans hm)
 have HMX:=zh (HMwF.out.trans hm)
 clear hTX hsl hm
 generalize nameK N=NN at *
 generalize verTK V=VV at *
 go_upto_region 3 with fail
 obtain ⟨fb,hfb⟩:∃ g,g=wG.heap.size:=⟨_,rfl⟩
 rw [<- hfb]
 generalize hwH:World.alloc wG _=wH
 have hmH:Mod No wG wH:=by rw [<- hwH];exact (Mod.refl No wG).alloc _
 have HMH:=zh (HMG.out.trans hmH)
 have HSLH:=zh (HSLG.out.kn hmH)
 have HOF:=zh (show wH.ownsRow w.heap.size 122 3 (.slice (some ⟨fb,0,none⟩) 2 2) 2 [.string ⟨#[108,105,98]⟩,.bool true,.slice none 0 0,.string ⟨(libT++47 :: NN).toArray⟩,.bool false,.slice (some ⟨wF.heap.size,0,none⟩) TX.length c1] from ⟨rfl,.inr ⟨fb,2,_,rfl,by rw [hfb];exact HMG.out.size,by rw [<- hwH,hfb];exact heap_alloc_new wG _,Nat.le_refl _,by unfold maxLen;omega,rfl,rfl⟩⟩)
 have hc3:wH.cell? ⟨gb,3,none⟩=some (.int .u8 (K:Int)):=cell_ofA ((HMX.out.trans hmH).keep HGD.out (fun f=>f)) rfl
 have hm:(K:Int).tmod 10=((K % 10:Nat):Int):=(Int.ofNat_tmod K 10).symm
 have hm2:(K:Int) % 10=((K % 10:Nat):Int):=by omega
 have HSW:=zh (fun a=>sw_part K w.heap.size (.slice (some ⟨fb,0,none⟩) 2 2) [.string ⟨#[108,105,98]⟩,.bool true,.slice none 0 0,.string ⟨(libT++47 :: NN).toArray⟩,.bool false,.slice (some ⟨wF.heap.size,0,none⟩) TX.length c1] a wH HOF.out HMH.out.size)
 clear hfb hwH hmH hcv hca hcb
 generalize K % 10=kk at *
 go_upto_block 0 with fail
 refine wp_only (HSW.out _ ⟨rfl,rfl,rfl,rfl,rfl,trivial⟩) ?_
 rintro a9 w9 ⟨v9,ys,hF9,hown9,hys9,hym9,hm9⟩
 have HO9:=zh hown9
 have HY9:=zh hys9
 have HYM:=zh hym9
 have hyl:ys.length<=1:=by rw [<- List.length_map (f:=FlX.f),hym9];split <;> simp
 have HM9:=zh (show Mod No w w9 from HMH.out.then hm9 (fun q hq e=>by have h1:=own_base HOF.out e;omega))
 have HS9:=zh (show Sl w9 No 5 (.slice (some ⟨wF.heap.size,0,none⟩) TX.length c1) TX.length (bv TX) from HSLH.out.apart hm9 (own_apartF HOF.out (by decide)))
 clear hown9 hys9 hym9 hm9 HSW HOF HSLH hc3
 rename_i K1 hK1
 refine hK1 _ _ ?_
 clear hK1 K1
 obtain ⟨ts,ds⟩:=a9
 obtain ⟨hsz,hds,hs5,hs6,-⟩:=hF9
 dsimp only at hsz hds hs5 hs6
 subst hds
 obtain ⟨c,rfl,hc⟩:=lit67 ts hsz
 rw [hc] at hs5
 rw [hc] at hs6
 simp only [hs5,hs6]
 clear hc hsz hs5 hs6
 have hy2:∀ u ∈ ys.flatMap FlX.cells,u.oneCell'=true:=fun u hu=>by
  obtain ⟨y,hy,hu⟩:=List.mem_flatMap.1 hu
  obtain ⟨a1,a2,e⟩:=(HY9.out y hy).len
  unfold FlX.cells at hu
  rw [e] at hu
  simp only [List.mem_cons,List.not_mem_nil,or_false] at hu
  rcases hu with rfl | rfl | rfl <;> rfl
 obtain ⟨xs2,hxs2⟩:∃ xs2:List FlX,xs2=[⟨⟨libT,true,[]⟩,.slice none 0 0⟩,⟨⟨libT++47 :: NN,false,TX⟩,.slice (some ⟨wF.heap.size,0,none⟩) TX.length c1⟩]++ys:=⟨_,rfl⟩
 have hxl:xs2.length=2+ys.length:=by rw [hxs2,List.length_append];rfl
 have HO2:=zh (show w9.ownsRow w.heap.size 122 3 v9 xs2.length (xs2.flatMap FlX.cells) by rw [hxl,hxs2,List.flatMap_append];exact HO9.out)
 have HE2:=zh (show ∀ x ∈ xs2,Sl w9 No 5 x.vv x.f.b.length (bv x.f.b) from fun x hx=>by
  rw [hxs2] at hx
  rcases List.mem_append.1 hx with hx | hx
  ·rcases List.mem_cons.1 hx with rfl | hx
   ·exact .inl ⟨rfl,rfl,rfl⟩
   ·obtain rfl:=List.mem_singleton.1 hx
    exact HS9.out
  ·exact HY9.out x hx)
 have HM2:=zh (show xs2.map FlX.f=[⟨libT,true,[]⟩,⟨libT++47 :: NN,false,NN++32 :: VV⟩]++(if kk=8 then [⟨bigT,false,bigB⟩] else []) by rw [hxs2,List.map_append,HYM.out,<- HTX.out];rfl)
 clear hxs2 HO9 HY9 HYM HS9
 generalize scriptK kk=s at *
 by_cases hs:s=[]
 ·subst hs
  unfold strV
  obtain ⟨qa,qc,rfl⟩:=own_len HO2.out
  clear hxl
  go_wp2_with fail
  exact fin hR ⟨⟨_,xs2,rfl,⟨HE2.out,Sl.of_own HO2.out (fun _ _ f=>f)⟩,by rw [HM2.out,HFK.out];simp⟩,HM9.out⟩
 ·have hse:(⟨s.toArray⟩:ByteArray).toList.isEmpty=false:=by rw [str_list];cases s with | nil=>exact absurd rfl hs | cons c l=>rfl
  obtain ⟨c2,wI,hcv,hsl2,hmI⟩:=bytes_new w9 s (by omega)
  have HSI:=zh hsl2
  have HMI:=zh hmI
  obtain ⟨i0,hi0,hz0,hz1,hz2⟩:=info_parts info_file
  have HFK2:=zh (show filesK ⟨N,V,nd,K,L⟩=xs2.map FlX.f++[⟨buildT,false,s⟩] by rw [HFK.out,HM2.out,if_neg hs])
  unfold strV
  generalize hSS:(⟨s.toArray⟩:ByteArray)=SS at *
  have HOA:=zh (own_keepM HO2.out (hmI.alloc (.cells #[.string ⟨#[98,117,105,108,100,46,104,115]⟩,.bool false,.slice (some ⟨w9.heap.size,0,none⟩) s.length c2] 122)) (fun _ _ f=>f))
  clear hsl2 hmI HFK hSS hs
  go_wp2_with (at_builtin;refine app_sl _ rfl _ _ 74 rfl w.heap.size 122 i0 _ 3 48 underlying74 hi0 hz0 hz1 hz2 rfl (by decide) v9 _ _ rfl HOA.out No 122 (.slice (some ⟨wI.heap.size,0,none⟩) 1 1) 1 [.string ⟨#[98,117,105,108,100,46,104,115]⟩,.bool false,.slice (some ⟨w9.heap.size,0,none⟩) s.length c2] rfl (.inr ⟨wI.heap.size,0,1,_,(0,0),rfl,Nat.le_refl _,by unfold maxLen;omega,fun f=>f,heap_alloc_new wI _,by simp,fun i hi=>by simp⟩) rfl (fun u hu=>by simp only [List.mem_cons,List.not_mem_nil,or_false] at hu;rcases hu with rfl | rfl | rfl <;> rfl) (by rw [hxl];unfold maxLen;omega) (by rw [hxl];omega) (Nat.le_trans HM9.out.size (Nat.le_trans HMI.out.size ((Mod.refl No wI).alloc _).size)) ?_;intro v7 w7 hown7 hg7 _;have HO7:=zh hown7;have HG7:=zh hg7;clear hown7 hg7)
  have hap:=own_apartF HOA.out (ts:=[5]) (by decide)
  have hmg:=Mod.of_grown (S:=fun q=>v9.ownBlock=some q) HG7.out (fun q e _=>e)
  have hma:=(HMI.out.alloc (.cells #[.string ⟨#[98,117,105,108,100,46,104,115]⟩,.bool false,.slice (some ⟨w9.heap.size,0,none⟩) s.length c2] 122))
  refine fin hR ⟨⟨v7,xs2++[⟨⟨buildT,false,s⟩,.slice (some ⟨w9.heap.size,0,none⟩) s.length c2⟩],rfl,⟨fun x hx=>?_,?_⟩,by rw [HFK2.out,List.map_append];rfl⟩,(HM9.out.trans hma).then hmg (fun q hq e=>by have h1:=own_base HO2.out e;omega)⟩
  ·rcases List.mem_append.1 hx with hx | hx
   ·exact ((HE2.out x hx).kn hma).apart hmg hap
   ·obtain rfl:=List.mem_singleton.1 hx
    exact (HSI.out.keep (S:=No) ((Mod.refl No wI).alloc _) (fun _ _ _ f=>f.elim)).apart hmg hap
  ·rw [List.length_append,List.flatMap_append]
   exact Sl.of_own (by have h9:=HO7.out;exact h9) (fun _ _ f=>f)
end Go.Proofs.YtgiigemfbebcgaaGreatDoor
