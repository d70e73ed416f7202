/-
  Layers 0 to 14: helps of the laws of indexes. No statement is proved here; no condition.
-/
import Derived.Test.YtmppeipgjcjdkaaGreatDoorW09
import Derived.Test.YtmppeipgjcjdkaaGreatDoorW36
import Derived.Test.YtmppeipgjcjdkaaGreatDoorW08
namespace Go.Proofs.YtmppeipgjcjdkaaGreatDoor
open _root_.Go.Proofs.Tryz
open Go.RowKit Go.Maps
def lenV:Value->Nat
 | .string s=>s.size
 | _=>0
theorem lenV_str (l:List UInt8):lenV (strV l)=l.length:=str_len3 l
def AheadPost (w:World) (w':World) (t:Tr) (p:List UInt8) (e:Ending):Prop:=match aheadT t p with
 | none=>e=.returned (.tuple #[.slice none 0 0,.int .i64 54])
 | some l=>∃ v,e=.returned (.tuple #[v,.int .i64 0])/\w'.ownsRow w.heap.size 9 1 v l.length (strs l)
set_option maxRecDepth 100000 in
set_option maxHeartbeats 4000000 in
theorem tahead_any {w:World} {q m:Nat} {g:List UInt8->Nat} {t:Tr} {sz:Int} (h:TrM w q m g t sz) (p:List UInt8) (hp:p.length<=1000000) :
  Calls prog 136 #[.pointer (some ⟨q,0,none⟩),strV p] w fun e w'=>AheadPost w w' t p e/\Mod No w w':=by
 refine calls_hide fun R hR=>?_
 have H:=zh h
 have HPA:=zh (parent_any p hp)
 clear h
 unfold strV at HPA ⊢
 generalize (⟨p.toArray⟩:ByteArray)=Z at *
 go_enter func136,ntmps136
 go_wp2_with fail
 with_reducible refine (HPA.out w).mono ?_
 rintro e w1 ⟨rfl,hm1⟩
 have HM1:=zh hm1
 clear hm1 HPA
 go_wp2_with fail
 go_loopw [6,7] (fun q6 q7 wr=>∃ (d:List UInt8) (out:List (List UInt8)) (n:Nat),q7=strV d/\d.length<=n/\d.length<=1000000/\n+out.length<=p.length/\aheadT t p=aheadG t n d out/\wr.ownsRow w.heap.size 9 1 q6 out.length (strs out)/\Mod No w wr) (fun _ q7 _=>lenV q7)
 case atStart =>
  have h1:=parent_len p
  exact ⟨parentP p,[],p.length,rfl,by omega,by omega,by simp,rfl,⟨rfl,.inl ⟨rfl,rfl⟩⟩,HM1.out⟩
 case round =>
  obtain ⟨d,out,n,rfl,hdn,hd6,hno,hah,hown,hm⟩:=hrel
  have HM:=zh hm
  have HO:=zh hown
  have HA:=zh hah
  have hT:=str_list d
  have HT:=zh (H.out.no hm)
  have hlk:=HT.out.look d hd6
  have HPA:=zh (parent_any d hd6)
  have HLV:=zh (lenV_str d)
  have hpl:=parent_len d
  clear hm hown hah
  obtain ⟨oa,oc,rfl⟩:=own_len HO.out
  unfold strV at *
  generalize hDD:(⟨d.toArray⟩:ByteArray)=D at *
  have HDD:=zh hDD
  clear hDD
  by_cases h0:d=[]
  ·subst h0
   have HE:=zh (show ∀ w' e,(∃ v,e=.returned (.tuple #[v,.int .i64 0])/\w'.ownsRow w.heap.size 9 1 v out.length (strs out))->AheadPost w w' t p e from fun w' e h=>by
    unfold AheadPost
    rw [HA.out]
    cases n <;> exact h)
   clear hlk
   go_wp2_with fail
   exact fin hR ⟨HE.out _ _ ⟨_,rfl,HO.out⟩,HM.out⟩
  ·have hie:d.isEmpty=false:=by simpa using h0
   have hd1:0 < d.length:=List.length_pos_iff.2 h0
   obtain ⟨n',rfl⟩:∃ n',n=n'+1:=⟨n - 1,by omega⟩
   have c0:=cell_ofA HT.out.obj (i:=0) rfl
   cases hx:atT t d with
   | none =>
    rw [hx] at hlk
    have HA2:=zh (show aheadT t p=aheadG t n' (parentP d) (out++[d]) by rw [HA.out,aheadG,if_neg h0,hx])
    simp only [ptrV] at hlk
    obtain ⟨i1,hi1,hz0,hz1,hz2⟩:=info_parts info_strP
    have HOV:=zh (own_keepM HO.out ((Mod.refl No wr).alloc (.cells #[.string D] 9)) (fun _ _ f=>f))
    have hbase:w.heap.size<=(wr.alloc (.cells #[.string D] 9)).heap.size:=Nat.le_trans HM.out.size ((Mod.refl No wr).alloc _).size
    have HSD:=zh (show strs (out++[d])=strs out++[.string D] by unfold strs;rw [List.map_append,<- HDD.out];rfl)
    clear hx HA
    go_wp2_with (at_builtin;refine app_sl _ rfl _ _ 43 rfl w.heap.size 9 i1 (.string ⟨#[]⟩) 1 16 underlying43 hi1 hz0 hz1 hz2 rfl (by decide) _ _ _ rfl HOV.out No 9 _ 1 [.string D] rfl (sl_new wr 9 [.string D] (Nat.le_refl 1) (by unfold maxLen;omega)) rfl (by simp [Value.oneCell']) (by unfold maxLen;omega) (by omega) hbase ?_)
    intro v7 w7 hown7 hg7 _
    have HM7:=zh (show Mod No w w7 from (HM.out.trans ((Mod.refl No wr).alloc (.cells #[.string D] 9))).then (Mod.of_grown (S:=fun q=>w.heap.size<=q) hg7 (fun q e _=>(own_block_heapP HOV.out e).1)) (fun q hq e=>Nat.lt_irrefl _ (Nat.lt_of_lt_of_le hq e)))
    have HO7:=zh hown7
    clear hown7 hg7 HOV
    go_wp2_with fail
    with_reducible refine (HPA.out _).mono ?_
    rintro e w8 ⟨rfl,hm8⟩
    have HM8:=zh (HM7.out.trans hm8)
    have HO8:=zh (own_keepM HO7.out hm8 (fun _ _ f=>f))
    clear hm8 HPA
    go_wp2_with fail
    exact ⟨⟨parentP d,out++[d],n',rfl,by omega,by omega,by simp;omega,HA2.out,by rw [HSD.out,List.length_append];exact HO8.out,HM8.out⟩,by rw [show lenV (.string ⟨(parentP d).toArray⟩)=(parentP d).length from lenV_str _,HLV.out];omega⟩
   | some f =>
    rw [hx] at hlk
    simp only [ptrV] at hlk
    obtain ⟨nv,hnd,-⟩:=HT.out.node hx
    have n0:=cell_ofA hnd (i:=0) rfl
    rcases hfd:f.dir with _ | _
    ·have HE:=zh (show ∀ w' e,e=.returned (.tuple #[.slice none 0 0,.int .i64 54])->AheadPost w w' t p e from fun w' e h=>by
      unfold AheadPost
      rw [HA.out,aheadG,if_neg h0,hx]
      dsimp only
      rw [hfd]
      exact h)
     rw [hfd] at n0
     clear hx HA hnd
     go_wp2_with fail
     exact fin hR ⟨HE.out _ _ rfl,HM.out⟩
    ·have HA2:=zh (show aheadT t p=aheadG t n' (parentP d) out by
      rw [HA.out,aheadG,if_neg h0,hx]
      dsimp only
      rw [hfd]
      rfl)
     rw [hfd] at n0
     clear hx HA hnd
     go_wp2_with fail
     with_reducible refine (HPA.out _).mono ?_
     rintro e w2 ⟨rfl,hm2⟩
     have HM2:=zh (HM.out.trans hm2)
     have HO2:=zh (own_keepM HO.out hm2 (fun _ _ f=>f))
     clear hm2 HPA
     go_wp2_with fail
     exact ⟨⟨parentP d,out,n',rfl,by omega,by omega,by omega,HA2.out,HO2.out,HM2.out⟩,by rw [show lenV (.string ⟨(parentP d).toArray⟩)=(parentP d).length from lenV_str _,HLV.out];omega⟩
theorem sizeT_make:∀ (l:List (List UInt8)) {t:Tr},AscT t->(∀ d ∈ l,∀ f,atT t d=some f->f.b=[])->sizeT (makeT t l)=sizeT t
 | [],t,_,_=>rfl
 | d :: l,t,h,hd=>by
  show sizeT (makeT (putT t ⟨d,true,[]⟩) l)=_
  have h1:=(put_count h ⟨d,true,[]⟩).2
  rw [sizeT_make l (asc_put h _) (fun x hx f hf=>by
   rw [at_put] at hf
   by_cases e:d=x
   ·rw [if_pos e] at hf;cases hf;rfl
   ·rw [if_neg e] at hf
    exact hd x (by simp [hx]) f hf)]
  cases hx:atT t d with
  | none=>rw [hx] at h1;simpa using h1
  | some f =>
   have:=hd d (by simp) f hx
   rw [hx] at h1
   simp [this] at h1
   exact h1
theorem asc_make:∀ (l:List (List UInt8)) {t:Tr},AscT t->AscT (makeT t l)
 | [],_,h=>h
 | _ :: l,_,h=>asc_make l (asc_put h _)
theorem at_make:∀ (l:List (List UInt8)) (t:Tr) (p:List UInt8),p ∉ l->atT (makeT t l) p=atT t p
 | [],t,p,_=>rfl
 | d :: l,t,p,h=>by
  show atT (makeT (putT t ⟨d,true,[]⟩) l) p=_
  rw [at_make l _ p (fun e=>h (by simp [e])),at_put,if_neg (fun e=>h (by rw [<- e];simp))]
theorem ahead_lack (t:Tr):∀ (n:Nat) (d:List UInt8) (out out':List (List UInt8)),aheadG t n d out=some out'->(∀ x ∈ out,atT t x=none)->∀ x ∈ out',atT t x=none
 | 0,d,out,out',h,ho=>by unfold aheadG at h;cases h;exact ho
 | n+1,d,out,out',h,ho=>by
  unfold aheadG at h
  split at h
  ·cases h;exact ho
  ·split at h
   ·rename_i hx
    exact ahead_lack t n _ _ _ h (fun x hx2=>by
     rcases List.mem_append.1 hx2 with e | e
     ·exact ho x e
     ·rw [List.mem_singleton.1 e];exact hx)
   ·split at h
    ·exact ahead_lack t n _ _ _ h ho
    ·cases h
theorem aheadT_lack {t:Tr} {p:List UInt8} {l:List (List UInt8)} (h:aheadT t p=some l) (hp:p ≠ []):(∀ x ∈ l,atT t x=none)/\p ∉ l:=by
 refine ⟨ahead_lack t _ _ _ _ h (fun x hx=>by cases hx),fun e=>?_⟩
 obtain ⟨-,-,h3⟩:=ahead_all t _ _ _ _ h
 rcases h3 p e with e2 | e2
 ·cases e2
 ·have h4:=parent_len p
  have h5:=List.length_pos_iff.2 hp
  omega
theorem mem_size {f:Fl}:∀ {t:Tr},f ∈ t->f.b.length<=sizeT t
 | g :: t,h=>by
  simp only [sizeT,List.map_cons,List.sum_cons]
  rcases List.mem_cons.1 h with rfl | h
  ·omega
  ·have:=mem_size h
   simp only [sizeT] at this
   omega
theorem node_size {t:Tr} {p c:List UInt8} {d:Bool} (h:nodeT t p=some (d,c)):c.length<=sizeT t:=by
 unfold nodeT at h
 split at h
 ·cases h;exact Nat.zero_le _
 ·obtain ⟨f,hf,e⟩:=Option.map_eq_some_iff.1 h
  cases e
  exact mem_size (at_path hf).2
theorem node_old {t:Tr} {p c:List UInt8} {d:Bool} (h:nodeT t p=some (d,c)) (hp:p ≠ []):(match atT t p with | some g=>g.b.length | none=>0)=c.length:=by
 unfold nodeT at h
 rw [if_neg hp] at h
 obtain ⟨f,hf,e⟩:=Option.map_eq_some_iff.1 h
 cases e
 rw [hf]
theorem node_none {t:Tr} {p:List UInt8} (h:nodeT t p=none) (hp:p ≠ []):(match atT t p with | some g=>g.b.length | none=>0)=0:=by
 unfold nodeT at h
 rw [if_neg hp] at h
 rw [Option.map_eq_none_iff.1 h]
theorem write_count {t:Tr} (h:AscT t) {p b:List UInt8} {l:List (List UInt8)} (hl:aheadT t p=some l) (hp:p ≠ []) :
  sizeT (putT (makeT t l) ⟨p,false,b⟩)+(match atT t p with | some g=>g.b.length | none=>0)=sizeT t+b.length:=by
 obtain ⟨h1,h2⟩:=aheadT_lack hl hp
 have h3:=(put_count (asc_make l h) ⟨p,false,b⟩).2
 rw [show (⟨p,false,b⟩:Fl).path=p from rfl,at_make l t p h2,sizeT_make l h (fun d hd f hf=>by rw [h1 d hd] at hf;cases hf)] at h3
 exact h3
def ChgPost (w':World) (q m:Nat) (t:Tr) (r:Tr ⊕ Nat) (e:Ending):Prop:=match r with
 | .inr c=>e=.returned (.int .i64 (c:Int))/\∃ g',TrM w' q m g' t (sizeT t:Int)
 | .inl t'=>e=.returned (.int .i64 0)/\∃ g',TrM w' q m g' t' (sizeT t':Int)
set_option maxRecDepth 100000 in
set_option maxHeartbeats 8000000 in
theorem tput_any {w:World} {q m:Nat} {g:List UInt8->Nat} {t:Tr} (h:TrM w q m g t (sizeT t:Int)) (s b:List UInt8) (v:Value) (hs:s.length<=1000000) (hv:SvX w No v b.length (bv b)) (hb:b.length<=1000000) (ht:t.length<=10000) (hz:sizeT t<=10000000) (hgl:Gl w) :
  Calls prog 139 #[.pointer (some ⟨q,0,none⟩),strV s,v,.bool false] w fun e w'=>ChgPost w' q m t (writeT t s b) e/\Mod (fun k=>k=q\/k=m) w w':=by
 refine calls_hide fun R hR=>?_
 have H:=zh h
 have HV:=zh hv
 have HCL:=zh (clean_any s hs w hgl)
 have HCA:=zh (clean_all s)
 have HWT:=zh (show writeT t s b=match cleanP s with
  |(p,e)=>if e ≠ 0 then .inr e else match nodeT t p with
   | some (true,_)=>.inr 54
   | some (false,c)=>match aheadT t p with
    | none=>.inr 54
    | some lack=>if 65536 < b.length\/roomT t 0 b.length c.length=false then .inr 55 else .inl (putT (makeT t lack) ⟨p,false,b⟩)
   | none=>match aheadT t p with
    | none=>.inr 54
    | some lack=>if 65536 < b.length\/roomT t (lack.length+1) b.length 0=false then .inr 55 else .inl (putT (makeT t lack) ⟨p,false,b⟩) from rfl)
 obtain ⟨va,vc,rfl⟩:=hv.1
 obtain ⟨⟨p,c⟩,hcl⟩:∃ z,z=cleanP s:=⟨_,rfl⟩
 rw [<- hcl] at HCL HCA HWT
 dsimp only at HCL HCA HWT
 clear h hv hcl
 unfold strV at *
 generalize (⟨s.toArray⟩:ByteArray)=Z at *
 go_enter func139,ntmps139
 go_wp2_with fail
 with_reducible refine HCL.out.mono ?_
 rintro e w1 ⟨rfl,hm1⟩
 have HM1:=zh hm1
 have H1:=zh (H.out.no hm1)
 clear hm1 HCL
 by_cases hc:c=0
 ·subst hc
  have hpl:p.length<=1000000:=by have:=HCA.out.1;omega
  have HAT:=zh (tat_any H1.out p hpl)
  unfold strV at *
  generalize hPP:(⟨p.toArray⟩:ByteArray)=P at *
  have HPP:=zh (show strV p=.string P by unfold strV;rw [hPP])
  clear hPP
  go_wp2_with fail
  with_reducible refine HAT.out.mono ?_
  rintro e w2 ⟨hat,hm2⟩
  have HM2:=zh (HM1.out.trans hm2)
  have H2:=zh (H1.out.no hm2)
  clear hm2 HAT
  by_cases hp0:p=[]
  ·subst hp0
   obtain ⟨nb,nv,rfl,hnb,-⟩:∃ b v,e=.returned (.pointer (some ⟨b,0,none⟩))/\w2.heap[b]? = some (.cells #[.bool true,v] 150 (0,0))/\Sl w2 No 5 v 0 (bv []):=hat
   have n0:=cell_ofA hnb (i:=0) rfl
   have HW2:=zh (show writeT t s b=.inr 54 from HWT.out)
   clear HWT
   go_wp2_with fail
   refine fin hR ⟨?_,HM2.out.weaken (fun _ _ f=>f.elim)⟩
   rw [HW2.out]
   exact ⟨rfl,_,H2.out⟩
  have HP0:=zh hp0
  have HAH0:=zh (tahead_any H2.out p hpl)
  have HAH:=zh (show Calls prog 136 #[.pointer (some ⟨q,0,none⟩),.string P] w2 fun e w'=>AheadPost w2 w' t p e/\Mod No w2 w' from by rw [<- HPP.out];exact HAH0.out)
  clear HAH0
  unfold AtPost at hat
  cases hnd:nodeT t p with
  | none =>
   rw [hnd] at hat HWT
   have hat:e=.returned (.pointer none):=hat
   subst hat
   go_wp2_with fail
   with_reducible refine HAH.out.mono ?_
   rintro e w3 ⟨hah,hm3⟩
   have HM3:=zh (HM2.out.trans hm3)
   have H3:=zh (H2.out.no hm3)
   have HMB:=zh hm3
   clear hm3 HAH
   unfold AheadPost at hah
   cases hal:aheadT t p with
   | none =>
    rw [hal] at hah HWT
    have hah:e=.returned (.tuple #[.slice none 0 0,.int .i64 54]):=hah
    subst hah
    have HW2:=zh (show writeT t s b=.inr 54 from HWT.out)
    clear HWT hal
    go_wp2_with fail
    refine fin hR ⟨?_,HM3.out.weaken (fun _ _ f=>f.elim)⟩
    rw [HW2.out]
    exact ⟨rfl,_,H3.out⟩
   | some lack =>
    rw [hal] at hah HWT
    obtain ⟨lv,rfl,hown⟩:=hah
    have HW2:=zh (show writeT t s b=if 65536 < b.length\/roomT t (lack.length+1) b.length 0=false then .inr 55 else .inl (putT (makeT t lack) ⟨p,false,b⟩) from HWT.out)
    have HLK:=zh (aheadT_lack hal HP0.out)
    have HWC:=zh (show sizeT (putT (makeT t lack) ⟨p,false,b⟩)+0=sizeT t+b.length from by have h:=write_count (b:=b) H3.out.asc hal HP0.out;rw [node_none hnd HP0.out] at h;exact h)
    have HLA:=zh (aheadT_all hal)
    have hll:lack.length<=11:=by have h1:=HLA.out.1;have h2:=HCA.out.2;omega
    have HLS:=zh (Sl.of_own (X:=No) hown (fun _ _ f=>f))
    obtain ⟨la,lc,rfl⟩:=own_len hown
    clear HWT hown
    have HRM:=zh (troom_any H3.out ((lack.length:Int)+1) (b.length:Int) (by omega) (by omega) (by omega) (by omega))
    have HRE:=zh (show (decide (((lack.length:Int)+1)<=500 - (t.length:Int)) && decide ((b.length:Int)<=1048576 - (sizeT t:Int)))=roomT t (lack.length+1) b.length 0 by
     unfold roomT
     rw [Bool.eq_iff_iff]
     simp
     omega)
    by_cases hbig:65536 < b.length
    ·have hb1:(65536:Int) < (b.length:Int):=by omega
     go_wp2_with fail
     refine fin hR ⟨?_,HM3.out.weaken (fun _ _ f=>f.elim)⟩
     rw [HW2.out,if_pos (.inl hbig)]
     exact ⟨rfl,_,H3.out⟩
    ·have hb1:¬ (65536:Int) < (b.length:Int):=by omega
     rw [HRE.out] at HRM
     go_wp2_with fail
     with_reducible refine HRM.out.mono ?_
     rintro e w4 ⟨rfl,rfl⟩
     clear HRM HRE
     cases hrm:roomT t (lack.length+1) b.length 0 with
     | false =>
      go_wp2_with fail
      refine fin hR ⟨?_,HM3.out.weaken (fun _ _ f=>f.elim)⟩
      rw [HW2.out,if_pos (.inr hrm)]
      exact ⟨rfl,_,H3.out⟩
     | true =>
      have HW3:=zh (show writeT t s b=.inl (putT (makeT t lack) ⟨p,false,b⟩) by rw [HW2.out,if_neg (by rintro (h | h);exact hbig h;rw [hrm] at h;cases h)])
      have HMK:=zh (tmake_any H3.out lack (.slice la lack.length lc) HLS.out (fun d hd=>by have h1:=HLA.out.2 d hd;omega) (by omega))
      clear hbig hrm HW2
      go_wp2_with fail
      with_reducible refine HMK.out.mono ?_
      rintro e w5 ⟨rfl,⟨g5,h5⟩,hm5⟩
      have hmm:Mod (fun k=>k=q\/k=m) w w5:=(HM3.out.weaken (fun _ _ f=>f.elim)).trans (hm5.weaken (fun _ _ e=>.inr e))
      have H5:=zh h5
      have HM5:=zh hmm
      have HV5:=zh (show SvX w5 No (.slice va b.length vc) b.length (bv b) from (HV.out.kn HM3.out).keepM hm5 (fun k cur e fz hk hc=>by subst hk;exact H3.out.map.not_cells _ _ _ hc))
      clear h5 hm5 hmm HMK H3 HM3 HV
      obtain ⟨t',ht'⟩:∃ t',t'=putT (makeT t lack) ⟨p,false,b⟩:=⟨_,rfl⟩
      have hml:=(make_all lack t).1
      rw [<- ht'] at HWC HW3
      have HTT:=zh ht'
      have e9:(sizeT t:Int)+(b.length:Int)=(sizeT t':Int):=by have h:=HWC.out;omega
      clear ht' HWC HLK HLA HLS hal hnd
      go_upto_region 18 with fail
      have hm6:Mod No w5 w5.drew:=(Mod.refl No w5).drew
      have HD5:=zh (H5.out.no hm6)
      have k1:=cell_ofA HD5.out.obj (i:=0) rfl
      have HCL:=zh (clone_sv (.slice va b.length vc) (bv b) w5.drew (by rw [bv_length];exact HV5.out.kn hm6) (bv_one _) (by rw [bv_length];omega))
      clear hm6 HV5
      go_region_held3 (fun w'=>w'.cell? ⟨q,0,none⟩=some (.map (some m))) (first | assumption) ((first | (go_at_call 81;refine HCL.out.mono ?_;rintro e w6 ⟨⟨v',rfl,hown⟩,hm6⟩;rw [bv_length] at hown;obtain ⟨a6,c6,rfl⟩:=own_len hown;have HO6:=zh hown;have HM6:=zh hm6;have k2:=Mod.cell hm6 (show World.cell? w5.drew _=_ from k1) (fun f=>f);have hm7:=(Mod.refl No w6).alloc (.cells #[.bool false,.slice a6 b.length c6] 150);have k7:=Mod.cell hm7 k2 (fun f=>f);have ht7:=(HD5.out.no hm6).no hm7;obtain ⟨w8,hst,hvm,hm8,-⟩:=ht7.map.put (t:=159) underlying159 (by unfold maxLen;omega) p (by omega) (.pointer (some ⟨w6.heap.size,0,none⟩));have HVM:=zh hvm;have HM8:=zh hm8;have HT7:=zh ht7;have k8:=Mod.cell hm8 k7 (fun e=>ht7.ne e);rw [show (.string ⟨p.toArray⟩:Value)=.string P from HPP.out] at hst;clear hown hm6 hm7 ht7 hvm hm8)))
      have hnd7:=heap_alloc_new w6 (.cells #[.bool false,.slice a6 b.length c6] 150)
      have hnd8:=HM8.out.keep hnd7 (fun e=>HT7.out.map.not_cells _ _ _ (e ▸ hnd7))
      have hsl8:Sl w8 No 5 (.slice a6 b.length c6) b.length (bv b):=((Sl.of_own (X:=No) HO6.out (fun _ _ f=>f)).keep (S:=No) ((Mod.refl No w6).alloc _) (fun _ _ _ f=>f.elim)).keep HM8.out (fun k cur fz hk _ hc=>by subst hk;exact HT7.out.map.not_cells _ _ _ hc)
      have ht8:=HT7.out.put (f:=⟨p,false,b⟩) HVM.out HM8.out ⟨_,hnd8,hsl8⟩
      rw [<- HTT.out] at ht8
      have HT8:=zh ht8
      have HM9:=zh (show Mod (fun k=>k=q\/k=m) w w8 from ((HM5.out.trans ((Mod.refl No w5).drew.weaken (fun _ _ f=>f.elim))).trans (HM6.out.weaken (fun _ _ f=>f.elim))).trans ((((Mod.refl No w6).alloc (.cells #[.bool false,.slice a6 b.length c6] 150)).weaken (fun _ _ f=>f.elim)).trans (HM8.out.weaken (fun _ _ e=>.inr e))))
      have c1:=cell_ofA ht8.obj (i:=1) rfl
      have f1:=frozen_of 1 ht8.obj
      clear hnd7 hnd8 hsl8 ht8 k1 k2 k7 k8 hst HVM HM8 HT7 HO6 HM6 HCL HD5 H5 HM5
      go_wp2_with fail
      refine fin hR ⟨?_,HM9.out.setCell (fun _=>.inl rfl) _⟩
      rw [HW3.out]
      exact ⟨rfl,_,HT8.out.sized _⟩
  | some dc =>
   obtain ⟨d,ct⟩:=dc
   rw [hnd] at hat HWT
   obtain ⟨nb,nv,rfl,hnb,hnv⟩:=hat
   have n0:=cell_ofA hnb (i:=0) rfl
   cases d with
   | true =>
    have HW2:=zh (show writeT t s b=.inr 54 from HWT.out)
    clear HWT HAH
    go_wp2_with fail
    refine fin hR ⟨?_,HM2.out.weaken (fun _ _ f=>f.elim)⟩
    rw [HW2.out]
    exact ⟨rfl,_,H2.out⟩
   | false =>
    have HNB:=zh hnb
    obtain ⟨na,nc,rfl⟩:=hnv.len
    have hctl:ct.length<=10000000:=Nat.le_trans (node_size hnd) hz
    clear hnb hnv
    go_wp2_with fail
    with_reducible refine HAH.out.mono ?_
    rintro e w3 ⟨hah,hm3⟩
    have HM3:=zh (HM2.out.trans hm3)
    have H3:=zh (H2.out.no hm3)
    have HMB:=zh hm3
    clear hm3 HAH
    unfold AheadPost at hah
    cases hal:aheadT t p with
    | none =>
     rw [hal] at hah HWT
     have hah:e=.returned (.tuple #[.slice none 0 0,.int .i64 54]):=hah
     subst hah
     have HW2:=zh (show writeT t s b=.inr 54 from HWT.out)
     clear HWT hal
     go_wp2_with fail
     refine fin hR ⟨?_,HM3.out.weaken (fun _ _ f=>f.elim)⟩
     rw [HW2.out]
     exact ⟨rfl,_,H3.out⟩
    | some lack =>
     rw [hal] at hah HWT
     obtain ⟨lv,rfl,hown⟩:=hah
     have HW2:=zh (show writeT t s b=if 65536 < b.length\/roomT t 0 b.length ct.length=false then .inr 55 else .inl (putT (makeT t lack) ⟨p,false,b⟩) from HWT.out)
     have HLK:=zh (aheadT_lack hal HP0.out)
     have HWC:=zh (show sizeT (putT (makeT t lack) ⟨p,false,b⟩)+ct.length=sizeT t+b.length from by have h:=write_count (b:=b) H3.out.asc hal HP0.out;rw [node_old hnd HP0.out] at h;exact h)
     have HLA:=zh (aheadT_all hal)
     have hll:lack.length<=11:=by have h1:=HLA.out.1;have h2:=HCA.out.2;omega
     have HLS:=zh (Sl.of_own (X:=No) hown (fun _ _ f=>f))
     obtain ⟨la,lc,rfl⟩:=own_len hown
     clear HWT hown
     have HRM:=zh (troom_any H3.out 0 ((b.length:Int) - (ct.length:Int)) (by omega) (by omega) (by omega) (by omega))
     have HRE:=zh (show (decide (0<=500 - (t.length:Int)) && decide (((b.length:Int) - (ct.length:Int))<=1048576 - (sizeT t:Int)))=roomT t 0 b.length ct.length by
      unfold roomT
      rw [Bool.eq_iff_iff]
      simp
      omega)
     have hnb3:=HMB.out.keep HNB.out (fun f=>f)
     have n1:=cell_ofA hnb3 (i:=1) rfl
     by_cases hbig:65536 < b.length
     ·have hb1:(65536:Int) < (b.length:Int):=by omega
      go_wp2_with fail
      refine fin hR ⟨?_,HM3.out.weaken (fun _ _ f=>f.elim)⟩
      rw [HW2.out,if_pos (.inl hbig)]
      exact ⟨rfl,_,H3.out⟩
     ·have hb1:¬ (65536:Int) < (b.length:Int):=by omega
      rw [HRE.out] at HRM
      go_wp2_with fail
      with_reducible refine HRM.out.mono ?_
      rintro e w4 ⟨rfl,rfl⟩
      clear HRM HRE
      cases hrm:roomT t 0 b.length ct.length with
      | false =>
       go_wp2_with fail
       refine fin hR ⟨?_,HM3.out.weaken (fun _ _ f=>f.elim)⟩
       rw [HW2.out,if_pos (.inr hrm)]
       exact ⟨rfl,_,H3.out⟩
      | true =>
       have HW3:=zh (show writeT t s b=.inl (putT (makeT t lack) ⟨p,false,b⟩) by rw [HW2.out,if_neg (by rintro (h | h);exact hbig h;rw [hrm] at h;cases h)])
       have HMK:=zh (tmake_any H3.out lack (.slice la lack.length lc) HLS.out (fun d hd=>by have h1:=HLA.out.2 d hd;omega) (by omega))
       clear hbig hrm HW2
       go_wp2_with fail
       with_reducible refine HMK.out.mono ?_
       rintro e w5 ⟨rfl,⟨g5,h5⟩,hm5⟩
       have hmm:Mod (fun k=>k=q\/k=m) w w5:=(HM3.out.weaken (fun _ _ f=>f.elim)).trans (hm5.weaken (fun _ _ e=>.inr e))
       have H5:=zh h5
       have HM5:=zh hmm
       have HV5:=zh (show SvX w5 No (.slice va b.length vc) b.length (bv b) from (HV.out.kn HM3.out).keepM hm5 (fun k cur e fz hk hc=>by subst hk;exact H3.out.map.not_cells _ _ _ hc))
       clear h5 hm5 hmm HMK H3 HM3 HV
       obtain ⟨t',ht'⟩:∃ t',t'=putT (makeT t lack) ⟨p,false,b⟩:=⟨_,rfl⟩
       have hml:=(make_all lack t).1
       rw [<- ht'] at HWC HW3
       have HTT:=zh ht'
       have e9:(sizeT t:Int)+((b.length:Int) - (ct.length:Int))=(sizeT t':Int):=by have h:=HWC.out;omega
       clear ht' HWC HLK HLA HLS hal hnd
       go_upto_region 18 with fail
       have hm6:Mod No w5 w5.drew:=(Mod.refl No w5).drew
       have HD5:=zh (H5.out.no hm6)
       have k1:=cell_ofA HD5.out.obj (i:=0) rfl
       have HCL:=zh (clone_sv (.slice va b.length vc) (bv b) w5.drew (by rw [bv_length];exact HV5.out.kn hm6) (bv_one _) (by rw [bv_length];omega))
       clear hm6 HV5
       go_region_held3 (fun w'=>w'.cell? ⟨q,0,none⟩=some (.map (some m))) (first | assumption) ((first | (go_at_call 81;refine HCL.out.mono ?_;rintro e w6 ⟨⟨v',rfl,hown⟩,hm6⟩;rw [bv_length] at hown;obtain ⟨a6,c6,rfl⟩:=own_len hown;have HO6:=zh hown;have HM6:=zh hm6;have k2:=Mod.cell hm6 (show World.cell? w5.drew _=_ from k1) (fun f=>f);have hm7:=(Mod.refl No w6).alloc (.cells #[.bool false,.slice a6 b.length c6] 150);have k7:=Mod.cell hm7 k2 (fun f=>f);have ht7:=(HD5.out.no hm6).no hm7;obtain ⟨w8,hst,hvm,hm8,-⟩:=ht7.map.put (t:=159) underlying159 (by unfold maxLen;omega) p (by omega) (.pointer (some ⟨w6.heap.size,0,none⟩));have HVM:=zh hvm;have HM8:=zh hm8;have HT7:=zh ht7;have k8:=Mod.cell hm8 k7 (fun e=>ht7.ne e);rw [show (.string ⟨p.toArray⟩:Value)=.string P from HPP.out] at hst;clear hown hm6 hm7 ht7 hvm hm8)))
       have hnd7:=heap_alloc_new w6 (.cells #[.bool false,.slice a6 b.length c6] 150)
       have hnd8:=HM8.out.keep hnd7 (fun e=>HT7.out.map.not_cells _ _ _ (e ▸ hnd7))
       have hsl8:Sl w8 No 5 (.slice a6 b.length c6) b.length (bv b):=((Sl.of_own (X:=No) HO6.out (fun _ _ f=>f)).keep (S:=No) ((Mod.refl No w6).alloc _) (fun _ _ _ f=>f.elim)).keep HM8.out (fun k cur fz hk _ hc=>by subst hk;exact HT7.out.map.not_cells _ _ _ hc)
       have ht8:=HT7.out.put (f:=⟨p,false,b⟩) HVM.out HM8.out ⟨_,hnd8,hsl8⟩
       rw [<- HTT.out] at ht8
       have HT8:=zh ht8
       have HM9:=zh (show Mod (fun k=>k=q\/k=m) w w8 from ((HM5.out.trans ((Mod.refl No w5).drew.weaken (fun _ _ f=>f.elim))).trans (HM6.out.weaken (fun _ _ f=>f.elim))).trans ((((Mod.refl No w6).alloc (.cells #[.bool false,.slice a6 b.length c6] 150)).weaken (fun _ _ f=>f.elim)).trans (HM8.out.weaken (fun _ _ e=>.inr e))))
       have c1:=cell_ofA ht8.obj (i:=1) rfl
       have f1:=frozen_of 1 ht8.obj
       clear hnd7 hnd8 hsl8 ht8 k1 k2 k7 k8 hst HVM HM8 HT7 HO6 HM6 HCL HD5 H5 HM5
       go_wp2_with fail
       refine fin hR ⟨?_,HM9.out.setCell (fun _=>.inl rfl) _⟩
       rw [HW3.out]
       exact ⟨rfl,_,HT8.out.sized _⟩
 ·have hc0:((c:Int) == 0)=false:=by rw [beq_eq_false_iff_ne];omega
  go_wp2_with fail
  refine fin hR ⟨?_,HM1.out.weaken (fun _ _ f=>f.elim)⟩
  rw [HWT.out,if_pos hc]
  exact ⟨rfl,_,H1.out⟩
set_option maxRecDepth 100000 in
theorem twrite_any {w:World} {q m:Nat} {g:List UInt8->Nat} {t:Tr} (h:TrM w q m g t (sizeT t:Int)) (s b:List UInt8) (v:Value) (hs:s.length<=1000000) (hv:SvX w No v b.length (bv b)) (hb:b.length<=1000000) (ht:t.length<=10000) (hz:sizeT t<=10000000) (hgl:Gl w) :
  Calls prog 75 #[.pointer (some ⟨q,0,none⟩),strV s,v] w fun e w'=>ChgPost w' q m t (writeT t s b) e/\Mod (fun k=>k=q\/k=m) w w':=by
 refine calls_hide fun R hR=>?_
 have HP:=zh (tput_any h s b v hs hv hb ht hz hgl)
 obtain ⟨va,vc,rfl⟩:=hv.1
 clear h hv
 unfold strV at *
 generalize (⟨s.toArray⟩:ByteArray)=Z at *
 go_enter func75,ntmps75
 go_wp2_with fail
 with_reducible refine HP.out.mono ?_
 rintro e w1 ⟨hp,hm1⟩
 have HM1:=zh hm1
 clear hm1 HP
 unfold ChgPost at hp
 cases hw:writeT t s b with
 | inr c =>
  rw [hw] at hp
  obtain ⟨rfl,hp2⟩:=hp
  have HP2:=zh hp2
  clear hp2
  go_wp2_with fail
  exact fin hR ⟨by rw [hw];exact ⟨rfl,HP2.out⟩,HM1.out⟩
 | inl t' =>
  rw [hw] at hp
  obtain ⟨rfl,hp2⟩:=hp
  have HP2:=zh hp2
  clear hp2
  go_wp2_with fail
  exact fin hR ⟨by rw [hw];exact ⟨rfl,HP2.out⟩,HM1.out⟩
set_option maxRecDepth 100000 in
set_option maxHeartbeats 8000000 in
theorem tmkdir_any {w:World} {q m:Nat} {g:List UInt8->Nat} {t:Tr} (h:TrM w q m g t (sizeT t:Int)) (s:List UInt8) (hs:s.length<=1000000) (ht:t.length<=10000) (hz:sizeT t<=10000000) (hgl:Gl w) :
  Calls prog 74 #[.pointer (some ⟨q,0,none⟩),strV s] w fun e w'=>ChgPost w' q m t (mkdirT t s) e/\Mod (fun k=>k=q\/k=m) w w':=by
 refine calls_hide fun R hR=>?_
 have H:=zh h
 have HCL:=zh (clean_any s hs w hgl)
 have HCA:=zh (clean_all s)
 have HWT:=zh (show mkdirT t s=match cleanP s with
  |(p,e)=>if e ≠ 0 then .inr e else match nodeT t p with
   | some (true,_)=>.inl t
   | some (false,_)=>.inr 54
   | none=>match aheadT t p with
    | none=>.inr 54
    | some lack=>if roomT t (lack.length+1) 0 0=false then .inr 55 else .inl (makeT t (lack++[p])) from rfl)
 obtain ⟨⟨p,c⟩,hcl⟩:∃ z,z=cleanP s:=⟨_,rfl⟩
 rw [<- hcl] at HCL HCA HWT
 dsimp only at HCL HCA HWT
 clear h hcl
 unfold strV at *
 generalize (⟨s.toArray⟩:ByteArray)=Z at *
 go_enter func74,ntmps74
 go_wp2_with fail
 with_reducible refine HCL.out.mono ?_
 rintro e w1 ⟨rfl,hm1⟩
 have HM1:=zh hm1
 have H1:=zh (H.out.no hm1)
 clear hm1 HCL
 by_cases hc:c=0
 ·subst hc
  have hpl:p.length<=1000000:=by have:=HCA.out.1;omega
  have HAT:=zh (tat_any H1.out p hpl)
  unfold strV at *
  generalize hPP:(⟨p.toArray⟩:ByteArray)=P at *
  have HPP:=zh (show strV p=.string P by unfold strV;rw [hPP])
  clear hPP
  go_wp2_with fail
  with_reducible refine HAT.out.mono ?_
  rintro e w2 ⟨hat,hm2⟩
  have HM2:=zh (HM1.out.trans hm2)
  have H2:=zh (H1.out.no hm2)
  clear hm2 HAT
  unfold AtPost at hat
  cases hnd:nodeT t p with
  | some dc =>
   obtain ⟨d,ct⟩:=dc
   rw [hnd] at hat HWT
   obtain ⟨nb,nv,rfl,hnb,-⟩:=hat
   have n0:=cell_ofA hnb (i:=0) rfl
   cases d with
   | true =>
    have HW2:=zh (show mkdirT t s=.inl t from HWT.out)
    clear HWT hnb hnd
    go_wp2_with fail
    refine fin hR ⟨?_,HM2.out.weaken (fun _ _ f=>f.elim)⟩
    rw [HW2.out]
    exact ⟨rfl,_,H2.out⟩
   | false =>
    have HW2:=zh (show mkdirT t s=.inr 54 from HWT.out)
    clear HWT hnb hnd
    go_wp2_with fail
    refine fin hR ⟨?_,HM2.out.weaken (fun _ _ f=>f.elim)⟩
    rw [HW2.out]
    exact ⟨rfl,_,H2.out⟩
  | none =>
   rw [hnd] at hat HWT
   have hat:e=.returned (.pointer none):=hat
   subst hat
   have hp0:p ≠ []:=fun e=>by rw [e] at hnd;cases hnd
   have HP0:=zh hp0
   have HPN:=zh (show atT t p=none from by unfold nodeT at hnd;rw [if_neg hp0] at hnd;exact Option.map_eq_none_iff.1 hnd)
   have HAH0:=zh (tahead_any H2.out p hpl)
   have HAH:=zh (show Calls prog 136 #[.pointer (some ⟨q,0,none⟩),.string P] w2 fun e w'=>AheadPost w2 w' t p e/\Mod No w2 w' from by rw [<- HPP.out];exact HAH0.out)
   clear HAH0 hnd
   go_wp2_with fail
   with_reducible refine HAH.out.mono ?_
   rintro e w3 ⟨hah,hm3⟩
   have HM3:=zh (HM2.out.trans hm3)
   have H3:=zh (H2.out.no hm3)
   have hsz3:=hm3.size
   have HMB:=zh hm3
   clear hm3 HAH
   unfold AheadPost at hah
   cases hal:aheadT t p with
   | none =>
    rw [hal] at hah HWT
    have hah:e=.returned (.tuple #[.slice none 0 0,.int .i64 54]):=hah
    subst hah
    have HW2:=zh (show mkdirT t s=.inr 54 from HWT.out)
    clear HWT hal
    go_wp2_with fail
    refine fin hR ⟨?_,HM3.out.weaken (fun _ _ f=>f.elim)⟩
    rw [HW2.out]
    exact ⟨rfl,_,H3.out⟩
   | some lack =>
    rw [hal] at hah HWT
    obtain ⟨lv,rfl,hown⟩:=hah
    have HW2:=zh (show mkdirT t s=if roomT t (lack.length+1) 0 0=false then .inr 55 else .inl (makeT t (lack++[p])) from HWT.out)
    have HLK:=zh (aheadT_lack hal HP0.out)
    have HLA:=zh (aheadT_all hal)
    have hll:lack.length<=11:=by have h1:=HLA.out.1;have h2:=HCA.out.2;omega
    have HO3:=zh hown
    obtain ⟨la,lc,rfl⟩:=own_len hown
    clear HWT hown
    have HRM:=zh (troom_any H3.out ((lack.length:Int)+1) 0 (by omega) (by omega) (by omega) (by omega))
    have HRE:=zh (show (decide ((lack.length:Int)+1<=500 - (t.length:Int)) && decide ((0:Int)<=1048576 - (sizeT t:Int)))=roomT t (lack.length+1) 0 0 by
     unfold roomT
     rw [Bool.eq_iff_iff]
     simp
     omega)
    rw [HRE.out] at HRM
    go_wp2_with fail
    with_reducible refine HRM.out.mono ?_
    rintro e w4 ⟨rfl,rfl⟩
    clear HRM HRE
    cases hrm:roomT t (lack.length+1) 0 0 with
    | false =>
     go_wp2_with fail
     refine fin hR ⟨?_,HM3.out.weaken (fun _ _ f=>f.elim)⟩
     rw [HW2.out,if_pos hrm]
     exact ⟨rfl,_,H3.out⟩
    | true =>
     have HW3:=zh (show mkdirT t s=.inl (makeT t (lack++[p])) by rw [HW2.out,if_neg (by rw [hrm];decide)])
     obtain ⟨i1,hi1,hz0,hz1,hz2⟩:=info_parts info_strP
     have hmA:Mod No w4 (w4.alloc (.cells #[.string P] 9)):=(Mod.refl No w4).alloc _
     have HOV:=zh (own_keepM HO3.out hmA (fun _ _ f=>f))
     have hbase:w2.heap.size<=(w4.alloc (.cells #[.string P] 9)).heap.size:=Nat.le_trans hsz3 hmA.size
     have HHA:=zh hmA
     clear hrm HW2 hmA
     go_wp2_with (at_builtin;refine app_sl _ rfl _ _ 43 rfl w2.heap.size 9 i1 (.string ⟨#[]⟩) 1 16 underlying43 hi1 hz0 hz1 hz2 rfl (by decide) _ _ _ rfl HOV.out No 9 _ 1 [.string P] rfl (sl_new w4 9 [.string P] (Nat.le_refl 1) (by unfold maxLen;omega)) rfl (by simp [Value.oneCell']) (by unfold maxLen;omega) (by omega) hbase ?_)
     intro v7 w7 hown7 hg7 _
     have HM7:=zh (show Mod No w2 w7 from (HMB.out.trans HHA.out).then (Mod.of_grown (S:=fun q=>w2.heap.size<=q) hg7 (fun q e _=>(own_block_heapP HOV.out e).1)) (fun q hq e=>Nat.lt_irrefl _ (Nat.lt_of_lt_of_le hq e)))
     have hsl7:Sl w7 No 9 v7 (lack++[p]).length (strs (lack++[p])):=by
      rw [List.length_append,show strs (lack++[p])=strs lack++[.string P] by unfold strs;rw [List.map_append,<- HPP.out];rfl]
      exact Sl.of_own (X:=No) hown7 (fun _ _ f=>f)
     have HMK:=zh (tmake_any (H2.out.no HM7.out) (lack++[p]) v7 hsl7 (fun d hd=>by
      rcases List.mem_append.1 hd with h | h
      ·have h1:=HLA.out.2 d h;omega
      ·rw [List.mem_singleton.1 h];omega) (by rw [List.length_append,List.length_singleton];omega))
     have HSZ:=zh (show sizeT (makeT t (lack++[p]))=sizeT t from sizeT_make _ H2.out.asc (fun d hd f hf=>by
      rcases List.mem_append.1 hd with h | h
      ·rw [HLK.out.1 d h] at hf;cases hf
      ·rw [List.mem_singleton.1 h,HPN.out] at hf;cases hf))
     obtain ⟨a7,c7,rfl⟩:=own_len hown7
     clear hown7 hg7 hsl7 HOV HHA
     go_wp2_with fail
     with_reducible refine HMK.out.mono ?_
     rintro e w8 ⟨rfl,⟨g8,h8⟩,hm8⟩
     rw [<- HSZ.out] at h8
     have H8:=zh h8
     have HM8:=zh (show Mod (fun k=>k=q\/k=m) w w8 from ((HM2.out.trans HM7.out).weaken (fun _ _ f=>f.elim)).trans (hm8.weaken (fun _ _ e=>.inr e)))
     clear h8 hm8 HMK
     go_wp2_with fail
     refine fin hR ⟨?_,HM8.out⟩
     rw [HW3.out]
     exact ⟨rfl,_,H8.out⟩
 ·have hc0:((c:Int) == 0)=false:=by rw [beq_eq_false_iff_ne];omega
  go_wp2_with fail
  refine fin hR ⟨?_,HM1.out.weaken (fun _ _ f=>f.elim)⟩
  rw [HWT.out,if_pos hc]
  exact ⟨rfl,_,H1.out⟩
end Go.Proofs.YtmppeipgjcjdkaaGreatDoor
