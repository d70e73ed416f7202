/-
  Layers 0 to 14: helps of the laws of indexes. No statement is proved here; no condition.
-/
import Derived.Test.YtgiigemfbebcgaaGreatDoorQ42
import Derived.Test.YtgiigemfbebcgaaGreatDoorQ43
import Derived.Test.YtgiigemfbebcgaaGreatDoorQ00
import Derived.Deep.Upon
namespace Go.Proofs.YtgiigemfbebcgaaGreatDoor
open _root_.Go.Proofs.Tryz
open Go.RowKit Go.Sort
theorem by_head (g o n c k:Nat) (hk:k<=n) (hn:n<=c) (W:World):(Instr.sliceAt 29 (.slice (some ⟨g,o,none⟩) n c) none (some (.int .i64 (k:Int))) (some (.int .i64 (k:Int)))).run prog W=.ok (.slice (some ⟨g,o,none⟩) k k) W:=by
 have h1:(0:Int)<=(k:Int):=Int.natCast_nonneg _
 have h2:(k:Int)<=(c:Int):=by omega
 go_simp
theorem by_tail (g o n c k:Nat) (hk:k<=n) (hn:n<=c) (W:World):(Instr.sliceAt 29 (.slice (some ⟨g,o,none⟩) n c) (some (.int .i64 (k:Int))) none none).run prog W=.ok (.slice (some ⟨g,if c=k then o else o+k,none⟩) (n - k) (c - k)) W:=by
 have h1:(0:Int)<=(k:Int):=Int.natCast_nonneg _
 have h2:(k:Int)<=(n:Int):=by omega
 have h3:(n:Int)<=(c:Int):=by omega
 go_simp
 split <;> rfl
theorem ymin {w:World} {a b:Nat} {o:Oper} {ρ:Operand->Value} (x y:Operand) (ho:o.op=.call { callee:=.builtin .min,args:=#[x,y],argTypes:=#[3,3] }) (hx:ρ x=.int .i64 ((a:Int)+1)) (hy:ρ y=.int .i64 (b:Int)) :
  (execOp ρ o).run prog w=.ok (.value (.int .i64 ((min (a+1) b:Nat):Int))) w:=by
 unfold execOp
 simp only [ho,Sem.run_bind]
 go_simp
 omega
theorem wrap_u8 (z:Int):∃ d:UInt8,IntKind.u8.wrap z=(d.toNat:Int):=by
 have h0:0<=z % 256:=Int.emod_nonneg _ (by decide)
 have h1:z % 256 < 256:=Int.emod_lt_of_pos _ (by decide)
 have e:IntKind.u8.wrap z=z % 256:=rfl
 refine ⟨UInt8.ofNat (z % 256).toNat,?_⟩
 rw [e,UInt8.toNat_ofNat']
 have:(z % 256).toNat % 2 ^ 8=(z % 256).toNat:=Nat.mod_eq_of_lt (by omega)
 rw [this]
 omega
theorem xor_u8 (a b:Int):∃ d:UInt8,bits .xor .u8 a b=(d.toNat:Int):=wrap_u8 _
theorem bytes_open (w:World) (l:List UInt8) (hl:l.length<=1000000):∃ c W,(convert 9 29 (.string ⟨l.toArray⟩)).run prog w=.ok (.slice (some ⟨w.heap.size,0,none⟩) l.length c) W/\Sl W No 5 (.slice (some ⟨w.heap.size,0,none⟩) l.length c) l.length (bv l)/\Mod No w W/\∀ i,i < l.length->W.frozen? ⟨w.heap.size,i,none⟩=false:=by
 have hs:=str_len3 l
 refine ⟨grownCap w l.length 0 5,Lib.bytesWorld w 5 ⟨l.toArray⟩,?_,?_,?_,?_⟩
 ·have:=Lib.run_convert_string_bytes (P:=prog) w 9 29 5 ⟨l.toArray⟩ underlying9 underlying29 underlying5
  rw [hs] at this
  exact this
 ·refine .inr ⟨w.heap.size,0,_,_,_,rfl,?_,grownCap_le_maxLen w _ 0 _ (by unfold maxLen;omega),fun f=>f,Lib.bytesWorld_at_new w _ _,?_,fun i hi=>?_⟩
  ·exact grownCap_ge w _ 0 _
  ·unfold Lib.bytesCells;simp
  ·rw [bv_length] at hi
   unfold Lib.bytesCells
   rw [Nat.zero_add,Array.getElem?_append_left (by simpa using hi),bv_get _ i hi]
   simp [hi]
 ·exact ⟨rfl,rfl,rfl,by rw [Lib.bytesWorld_size];omega,fun k hk _=>Lib.bytesWorld_at_old w _ _ k hk⟩
 ·intro i hi
  have hge:l.length<=(Lib.bytesCells w 5 ⟨l.toArray⟩).size:=by unfold Lib.bytesCells;simp
  unfold World.frozen?
  rw [Lib.bytesWorld_at_new]
  simp only [Bool.and_eq_false_imp,decide_eq_true_eq,decide_eq_false_iff_not]
  omega
theorem Sl.fullB {w:World} {b n c m:Nat} {xs:List Value} (h:Sl w No 5 (.slice (some ⟨b,0,none⟩) n c) n xs) (hx:xs.length=n) (hm:m<=n):Sl w No 5 (.slice (some ⟨b,0,none⟩) m m) m (xs.take m):=by
 rcases h.takeN hx hm with ⟨h,_⟩ | ⟨blk,o',c',cur,fz,hv,hn,hc,hX,hh,hl,hr⟩
 ·cases h
 ·cases hv
  exact .inr ⟨b,0,m,cur,fz,rfl,Nat.le_refl _,Nat.le_trans hn hc,hX,hh,hl,hr⟩
theorem Sl.setB {w:World} {b n c:Nat} {l:List UInt8} (h:Sl w No 5 (.slice (some ⟨b,0,none⟩) n c) n (bv l)) (i:Nat) (hi:i < l.length) (d:UInt8) :
  Sl (w.setCell ⟨b,i,none⟩ (.int .u8 (d.toNat:Int))) No 5 (.slice (some ⟨b,0,none⟩) n c) n (bv (l.set i d)):=by
 rcases h with ⟨h,_⟩ | ⟨blk,o,c',cur,fz,hv,hn,hc,hX,hh,hl,hr⟩
 ·cases h
 ·cases hv
  rw [bv_length] at hl
  refine .inr ⟨b,0,c,_,fz,rfl,hn,hc,fun f=>f,heap_setCell hh _,?_,fun k hk=>?_⟩
  ·rw [Array.size_setIfInBounds,bv_length,List.length_set];exact hl
  ·rw [bv_length,List.length_set] at hk
   have h1:=hr k (by rw [bv_length];exact hk)
   rw [Nat.zero_add] at h1 ⊢
   rw [Array.getElem?_setIfInBounds,bv_get _ k (by rw [List.length_set];exact hk)]
   by_cases e:i=k
   ·subst e
    rw [if_pos rfl,if_pos (by omega)]
    simp
   ·rw [if_neg e,h1,bv_get _ k hk]
    simp [List.getElem_set_ne e]
theorem run_app_bytes {w:World} (ty:TypeId) (sv:Value) (n:Nat) (olds:List Value) (hsv:Sl w No 5 sv n olds)
  (hcase:(sv=.slice none 0 0/\n=0/\olds=[])\/∃ a0,sv=.slice (some a0) n n/\olds.length=n*1/\∀ j v,olds[j]? = some v->w.cell? (a0.add j)=some v)
  (tv:Value) (m:Nat) (news:List Value) (htv:Sl w No 5 tv m news) (hl:news.length=m) (h63:n+m<=maxLen) (hbytes:n+m<=140737488355328) :
  ∃ v' w',(Builtin.append_ #[29,29] ty #[sv,tv]).run prog w=.ok v' w'/\Sl w' No 5 v' (n+m) (olds++news)/\Mod No w w':=by
 obtain ⟨i0,hi0,hz0,hz1,hz2⟩:=info_parts info_byte
 obtain ⟨sa,sc,hsvs⟩:=hsv.len
 rcases Nat.eq_zero_or_pos m with h0 | h0
 ·subst h0
  have hne:news=[]:=List.eq_nil_of_length_eq_zero hl
  subst hne
  obtain ⟨ta,tc,htvs⟩:=htv.len
  have hle:n<=sc:=by
   rcases hcase with ⟨e,e2,_⟩ | ⟨a0,e,_⟩
   ·omega
   ·rw [hsvs] at e;injection e with e1 e2 e3;omega
  subst hsvs
  subst htvs
  refine ⟨_,_,Go.run_append_nothing w _ _ ty 5 i0 underlying29 hi0 sa n sc hle _ ?_,by simpa using hsv,Mod.refl _ _⟩
  cases ta with
  | none=>exact Src.ofNil _ underlying29 tc
  | some a=>exact Src.ofSlice _ underlying29 a 0 tc [] (by simp) (fun j u h=>by simp at h) (fun u h=>by cases h)
 ·obtain ⟨blk,o,c,rfl,hc1,hc2,-⟩:=htv.shape h0
  obtain ⟨v',w',hr,h1,h2⟩:=run_app_full (P:=prog) (w:=w) 29 ty 5 i0 (.int .u8 0) 1 1 w.heap.size underlying29 hi0 hz0 hz1 hz2 rfl sv n olds hcase ⟨blk,o,none⟩ m c news h0 (by omega) (fun j u e=>by
   have h9:=htv.cell (i:=j) (List.getElem?_eq_some_iff.1 e).1
   rw [e] at h9
   rw [Addr.add_mid]
   exact h9) h63 (by omega) (Nat.le_refl _)
  exact ⟨v',w',hr,Sl.of_own h1 (fun _ _ f=>f),h2⟩
theorem wp_app_bytes (w:World) {o:Oper} {a:Act} {K:Act->World->Prop} {Q:Exit->Act->World->Prop} (s x:Operand)
  (ho:o.op=.call { callee:=.builtin .append,args:=#[s,x],argTypes:=#[29,29] })
  (sv:Value) (n:Nat) (olds:List Value) (hs:a.eval s=sv) (hsv:Sl w No 5 sv n olds)
  (hcase:(sv=.slice none 0 0/\n=0/\olds=[])\/∃ a0,sv=.slice (some a0) n n/\olds.length=n*1/\∀ j v,olds[j]? = some v->w.cell? (a0.add j)=some v)
  (tv:Value) (m:Nat) (news:List Value) (hx:a.eval x=tv) (htv:Sl w No 5 tv m news) (hl:news.length=m) (h63:n+m<=maxLen) (hbytes:n+m<=140737488355328)
  (h:∀ v' w',Sl w' No 5 v' (n+m) (olds++news)->Mod No w w'->K (a.put o.dst v') w'):o.wp prog a w K Q:=by
 obtain ⟨v',w',hr,h1,h2⟩:=run_app_bytes (w:=w) o.type sv n olds hsv hcase tv m news htv hl h63 hbytes
 unfold Oper.wp
 simp only [execOp,ho,resolve,invoke,builtin,Sem.run_bind,Sem.run_pure,Result.andThen_ok,List.map_toArray,List.map_cons,List.map_nil,hs,hx,hr]
 exact h v' w' h1 h2
end Go.Proofs.YtgiigemfbebcgaaGreatDoor
