/-
  Layers 0 to 14: helps of the laws of indexes. No statement is proved here; no condition.
-/
import Derived.Test.YticfcmdjplmaeaaGreatDoorX00
import Derived.Test.YticfcmdjplmaeaaGreatDoorX03
import Derived.Test.YticfcmdjplmaeaaGreatDoorX02
import Derived.Test.YticfcmdjplmaeaaGreatDoorX01
import Derived.Maps.Own
import Derived.Maps.OwnOps
import Derived.Maps.OwnSet
import Derived.Maps.RangeWalk
import Derived.Deep.WholeRow
import Derived.Lib.ConvBytes
import Derived.Lib.AppendStr
import Derived.Lib.SlBytesConst
set_option maxRecDepth 100000
set_option maxHeartbeats 64000000
namespace Go.Proofs.YticfcmdjplmaeaaGreatDoor
open _root_.Go.Proofs.Tryz
open Go.RowKit Go.Maps
def heldR:Value->Option (DataW Value × List MemPlace):=fun v=>some (.held v,[])
def Mp (w:World) (k:TypeId) (b:Nat) (D:DataW Value):Prop:=w.ownsMap prog k heldR b (Maps.size D) D
theorem Mp.of_owns {w:World} {k:TypeId} {b n:Nat} {D:DataW Value} (h:w.ownsMap prog k heldR b n D):Mp w k b D:=by
 obtain ⟨es,clock,hb,F,_,rfl⟩:=h;exact ⟨es,clock,hb,F,by simp [Maps.size,length_sorted],rfl⟩
theorem Mp.heap {w:World} {k:TypeId} {b:Nat} {D:DataW Value} (h:Mp w k b D):∃ es clock,w.heap[b]? = some (.map es clock):=by
 obtain ⟨es,clock,hb,_⟩:=h;exact ⟨es,clock,hb⟩
theorem Mp.keep {S:Nat->Prop} {w w':World} {k:TypeId} {b:Nat} {D:DataW Value} (h:Mp w k b D) (hm:Mod S w w') (hs:¬ S b):Mp w' k b D:=by
 obtain ⟨es,clock,hb,r⟩:=h;exact ⟨es,clock,hm.keep hb hs,r⟩
theorem Mp.made (w:World) (k:TypeId):Mp (w.alloc (.map #[] 0)) k w.heap.size (.map []):=World.ownsMap_made w _ _ _
section
variable {w:World} {t k e:TypeId} {b:Nat} {D:DataW Value} {key:Value} {kl:Lit}
theorem Mp.look_hit {v:Value} {z:Value} (h:Mp w k b D) (K:Keyed prog k) (ht:prog.underlying t=some (.map k e)) (hz:(zeroValue e).run prog w=.ok z w) (hkey:keyOf prog k key=some kl)
  (hh:Maps.has D kl=true) (hat:∀ zd,D.atKey kl zd=.held v):(Instr.lookup t (.map (some b)) key true).run prog w=.ok (.tuple #[v,.bool true]) w:=by
 obtain ⟨v',ps,hrun,hv⟩:=World.ownsMap.look_ok h K ht hz (zd:=.held z) (zp:=[]) rfl hkey;rw [hh] at hrun;rw [hat] at hv;cases hv
 exact hrun
theorem Mp.look_miss {z:Value} (h:Mp w k b D) (K:Keyed prog k) (ht:prog.underlying t=some (.map k e)) (hz:(zeroValue e).run prog w=.ok z w) (hkey:keyOf prog k key=some kl)
  (hh:Maps.has D kl=false):(Instr.lookup t (.map (some b)) key true).run prog w=.ok (.tuple #[z,.bool false]) w:=by
 obtain ⟨v',ps,hrun,hv⟩:=World.ownsMap.look_ok h K ht hz (zd:=.held z) (zp:=[]) rfl hkey;rw [hh] at hrun;rw [Maps.atKey_of_not_has hh] at hv;cases hv
 exact hrun
theorem Mp.get_hit {v:Value} {z:Value} (h:Mp w k b D) (K:Keyed prog k) (ht:prog.underlying t=some (.map k e)) (hz:(zeroValue e).run prog w=.ok z w) (hkey:keyOf prog k key=some kl)
  (hat:∀ zd,D.atKey kl zd=.held v):(Instr.lookup t (.map (some b)) key false).run prog w=.ok v w:=by
 obtain ⟨v',ps,hrun,hv⟩:=World.ownsMap.lookup h K ht hz (zd:=.held z) (zp:=[]) rfl hkey;rw [hat] at hv;cases hv
 exact hrun
theorem Mp.get_miss {z:Value} (h:Mp w k b D) (K:Keyed prog k) (ht:prog.underlying t=some (.map k e)) (hz:(zeroValue e).run prog w=.ok z w) (hkey:keyOf prog k key=some kl)
  (hh:Maps.has D kl=false):(Instr.lookup t (.map (some b)) key false).run prog w=.ok z w:=by
 obtain ⟨v',ps,hrun,hv⟩:=World.ownsMap.lookup h K ht hz (zd:=.held z) (zp:=[]) rfl hkey;rw [Maps.atKey_of_not_has hh] at hv;cases hv
 exact hrun
theorem mod_of_turned {w w':World} {b:Nat} (h:w.mapTurned w' b):Mod (· = b) w w'/\w'.heap.size=w.heap.size:=by
 refine ⟨Mod.of_grown h.grown (by rintro k ⟨⟩ _;rfl),?_⟩
 obtain ⟨es,clock,es',clock',hb,rfl⟩:=h;simp [Go.ChangeMaps.setBlock]
theorem Mp.store {val:Value} (h:Mp w k b D) (K:Keyed prog k) (ht:prog.underlying t=some (.map k e)) (hn:Maps.size D < maxLen) (hkey:keyOf prog k key=some kl) :
  ∃ w',(Instr.mapUpdate t (.map (some b)) key val).run prog w=.ok () w'/\Mp w' k b (D.put kl (.held val))/\Mod (· = b) w w'/\w'.heap.size=w.heap.size:=by
 obtain ⟨w',hrun,ho,ht'⟩:=World.ownsMap.store h K ht hn (val:=val) (d:=.held val) (ps:=[]) hkey rfl;obtain ⟨h1,h2⟩:=mod_of_turned ht';exact ⟨w',hrun,Mp.of_owns ho,h1,h2⟩
theorem Mp.drop (h:Mp w k b D) (K:Keyed prog k) (ht:prog.underlying t=some (.map k e)) (hkey:keyOf prog k key=some kl) (ty:TypeId) :
  ∃ w',(Builtin.delete_ #[t,k] ty #[.map (some b),key]).run prog w=.ok (.tuple #[]) w'/\Mp w' k b (D.del kl)/\Mod (· = b) w w'/\w'.heap.size=w.heap.size:=by
 obtain ⟨w',hrun,ho,ht'⟩:=World.ownsMap.drop h K ht hkey ty;obtain ⟨h1,h2⟩:=mod_of_turned ht';exact ⟨w',hrun,Mp.of_owns ho,h1,h2⟩
theorem Mp.clear (h:Mp w k b D) (ht:prog.underlying t=some (.map k e)) :
  ∃ w',(∀ ty,(Builtin.clear_ #[t] ty #[.map (some b)]).run prog w=.ok (.tuple #[]) w')/\Mp w' k b (.map [])/\Mod (· = b) w w'/\w'.heap.size=w.heap.size:=by
 obtain ⟨es,clock,hb,F,_,_⟩:=h;refine ⟨Go.ChangeMaps.setBlock w b (.map #[] clock),fun ty=>?_,⟨#[],clock,Go.ChangeMaps.heap_setBlock_same hb _,?_,by simp,rfl⟩,?_⟩
 ·simp [Builtin.clear_,run_underlying ht,Go.MapKept.run_getObj_map hb,Go.MapKept.run_setObj_map _ hb,Result.andThen,Go.ChangeMaps.setBlock]
 ·exact ⟨by simp,Go.MapKept.stamped_empty clock,by simp⟩
 ·exact mod_of_turned ⟨es,clock,#[],clock,hb,rfl⟩
theorem wpList_store {ops:Array Oper} {rest:List Oper} {o:Oper} {a:Act} {Q:Exit->Act->World->Prop} (hg:o.guard=none) (m x v:Operand) (t:TypeId) (hop:o.op=Op.mapUpdate t m x v)
  (K:Keyed prog k) (ht:prog.underlying t=some (.map k e)) (hm:a.eval m=.map (some b)) (h:Mp w k b D) (hn:Maps.size D < maxLen) (key val:Value) (kl:Lit) (hx:a.eval x=key) (hv:a.eval v=val)
  (hkey:keyOf prog k key=some kl)
  (hK:∀ w',Mp w' k b (D.put kl (.held val))->Mod (· = b) w w'->w'.heap.size=w.heap.size->wpList prog ops Q rest (a.put o.dst undef) w') :
  wpList prog ops Q (o :: rest) a w:=by
 refine wpList_plain hg fun K' hK'=>?_
 obtain ⟨w',hrun,r1,r2,r3⟩:=h.store K ht hn (val:=val) hkey;unfold Oper.wp;simp [execOp,hop,hm,hx,hv,hrun,Result.andThen]
 exact hK' _ _ (hK w' r1 r2 r3)
theorem wpList_drop {ops:Array Oper} {rest:List Oper} {o:Oper} {a:Act} {Q:Exit->Act->World->Prop} (hg:o.guard=none) (m x:Operand) (t k:TypeId)
  (hop:o.op=Op.call { callee:=Callee.builtin Builtin.delete,args:=#[m,x],argTypes:=#[t,k] })
  (K:Keyed prog k) (ht:prog.underlying t=some (.map k e)) (hm:a.eval m=.map (some b)) (h:Mp w k b D) (key:Value) (kl:Lit) (hx:a.eval x=key)
  (hkey:keyOf prog k key=some kl)
  (hK:∀ w',Mp w' k b (D.del kl)->Mod (· = b) w w'->w'.heap.size=w.heap.size->wpList prog ops Q rest (a.put o.dst (.tuple #[])) w') :
  wpList prog ops Q (o :: rest) a w:=by
 refine wpList_plain hg fun K' hK'=>?_
 obtain ⟨w',hrun,r1,r2,r3⟩:=h.drop K ht hkey o.type;unfold Oper.wp;simp [execOp,hop,resolve,invoke,builtin,hm,hx,hrun,Result.andThen]
 exact hK' _ _ (hK w' r1 r2 r3)
theorem Mp.tidy (h:Mp w k b D) (K:Keyed prog k):Tidy D:=World.ownsMap.tidy h K
end
theorem has_iff {es:List (Lit × DataW Value)} {kl:Lit}:Maps.has (.map es) kl=true ↔ ∃ p ∈ es,p.1.sameKey kl=true:=by
 simp [Maps.has_eq,List.any_eq_true]
theorem ranges_keep {S:Nat->Prop} {w w':World} {k:TypeId} {b r n:Nat} {D:DataW Value} {left:Lit->Bool} {cnt:Nat} (h:w.ranges prog k heldR b r n D left cnt) (hm:Mod S w w') (hb:¬ S b) (hr:¬ S r):w'.ranges prog k heldR b r n D left cnt:=by
 obtain ⟨es,clock,since,seen,c0,h1,h2,h3,h4,h5,h6⟩:=h;exact ⟨es,clock,since,seen,c0,hm.keep h1 hb,h2,h3,h4,hm.keep h5 hr,h6⟩
end Go.Proofs.YticfcmdjplmaeaaGreatDoor
namespace Go.Proofs.YticfcmdjplmaeaaGreatDoor
open _root_.Go.Proofs.Tryz
open Go.RowKit
theorem run_row {P:Program} {w:World} {g:Nat} {t:TypeId} {old:Array Value} {vs:List Value} (hg:w.heap[g]? = some (.cells old t (0,0))) (ho:old.size=vs.length) (h1:∀ v ∈ vs,v.oneCell'=true) :
  Sem.run P (storeCells ⟨g,0,none⟩ vs 0) w=.ok () (w.setRow g vs.toArray):=by
 have:=run_storeCells_from (P:=P) g t vs 0 old w hg (by omega) h1;simpa using this
theorem Mod.setRow {S:Nat->Prop} {w w':World} (h:Mod S w w') {g:Nat} (hg:g < w.heap.size->S g) (cs:Array Value):Mod S w (w'.setRow g cs) :=
 h.then (T:=fun p=>p=g) ⟨rfl,rfl,rfl,by simp [World.setRow],fun k hk hn=>setRow_other _ _ k _ hn⟩ (fun i hi e=>by cases e;exact hg hi)
abbrev keyV (K:List UInt8):Value:=.agg (bv K).toArray
theorem key_size {K:List UInt8} (h:K.length=32):(prog.info? 105).map (·.size)=some (bv K).toArray.size:=by
 rw [show (bv K).toArray.size=32 by simp [h]];kernel_rfl
theorem lit22 (t:Array Value) (h:t.size=22):∃ c:Nat->Value,t=#[c 0,c 1,c 2,c 3,c 4,c 5,c 6,c 7,c 8,c 9,c 10,c 11,c 12,c 13,c 14,c 15,c 16,c 17,c 18,c 19,c 20,c 21]/\∀ i,t.getD i undef=c i:=by
 refine ⟨fun i=>t.getD i undef,?_,fun _=>rfl⟩
 have h1:=arr_lits t;rw [h] at h1;exact h1.trans (by kernel_rfl)
def digs:List UInt8:=[48,49,50,51,52,53,54,55,56,57,97,98,99,100,101,102]
def digit (n:Nat):UInt8:=digs.getD n 0
def hexL (S:List UInt8):List UInt8:=S.flatMap fun c=>[digit (c.toNat / 16),digit (c.toNat % 16)]
theorem hexL_length (S:List UInt8):(hexL S).length=2*S.length:=by
 unfold hexL;induction S with
 | nil=>rfl
 | cons c S ih=>rw [List.flatMap_cons,List.length_append,ih,List.length_cons];simp;omega
theorem hexL_take {S:List UInt8} {i:Nat} (h:i < S.length):hexL (S.take (i+1))=hexL (S.take i)++[digit ((S.getD i 0).toNat / 16),digit ((S.getD i 0).toNat % 16)]:=by
 have e:S[i]=S.getD i 0:=by rw [List.getD_eq_getElem?_getD,List.getElem?_eq_getElem h];rfl
 rw [List.take_succ_eq_append_getElem h,e];simp [hexL]
theorem and15 (y:Nat) (h:y < 256):bits .and .u8 (y:Int) 15=((y % 16:Nat):Int):=by
 have hx:y &&& 15 < 2 ^ 8:=Nat.and_lt_two_pow _ (by omega);have h1:(BitVec.ofInt 8 (y:Int)).toNat=y:=by rw [BitVec.ofInt_natCast,BitVec.toNat_ofNat];exact Nat.mod_eq_of_lt (by omega)
 have e:y &&& 15=y % 2 ^ 4:=Nat.and_two_pow_sub_one_eq_mod y 4;show IntKind.u8.wrap ((BitVec.ofInt 8 (y:Int) &&& BitVec.ofInt 8 15).toNat:Int)=_
 rw [BitVec.toNat_and,h1,show (BitVec.ofInt 8 15).toNat=15 from rfl,e];have h2:IntKind.u8.wrap ((y % 2 ^ 4:Nat):Int)=((y % 2 ^ 4:Nat):Int):=by rw [IntKind.wrap_u8];omega
 rw [h2]
theorem run_dig (n:Nat) (h:n < 16) (W:World):(Instr.index 9 (.string ⟨#[48,49,50,51,52,53,54,55,56,57,97,98,99,100,101,102]⟩) (.int .u8 (n:Int))).run prog W=.ok (.int .u8 ((digit n).toNat:Int)) W:=by
 have hi:(0:Int)<=(n:Int)/\(n:Int) < ((⟨#[48,49,50,51,52,53,54,55,56,57,97,98,99,100,101,102]⟩:ByteArray).size:Int):=⟨Int.natCast_nonneg _,by show (n:Int) < 16;omega⟩
 rw [run_index_string W 9 _ .u8 n underlying9,dif_pos hi];match n,h with
 | 0,_=>rfl
 | 1,_=>rfl
 | 2,_=>rfl
 | 3,_=>rfl
 | 4,_=>rfl
 | 5,_=>rfl
 | 6,_=>rfl
 | 7,_=>rfl
 | 8,_=>rfl
 | 9,_=>rfl
 | 10,_=>rfl
 | 11,_=>rfl
 | 12,_=>rfl
 | 13,_=>rfl
 | 14,_=>rfl
 | 15,_=>rfl
 | k+16,h=>exact absurd h (by omega)
theorem run_index_key {S:List UInt8} (hS:S.length=32) {i:Nat} (hi:i < 32) (W:World):(Instr.index 105 (keyV S) (.int .i64 (i:Int))).run prog W=.ok (.int .u8 ((S.getD i 0).toNat:Int)) W:=by
 have h1:0<=(i:Int)/\(i:Int) < 32:=by omega
 have h2:(bv S)[i]? = some (.int .u8 ((S.getD i 0).toNat:Int)):=bv_bf (by omega);simp [Instr.index,run_underlying underlying105,asIntOf,h1]
 rw [if_pos hi];have h4:(isAgg 5).run prog W=.ok false W:=by kernel_rfl
 have h3:(bv S).toArray[i]? = some (.int .u8 ((S.getD i 0).toNat:Int)):=by rw [List.getElem?_toArray];exact h2
 unfold part;simp only [Sem.run_bind,h4,Result.andThen_ok,h3,Bool.false_eq_true,if_false,Sem.run_pure];rw [List.getD_eq_getElem?_getD]
noncomputable def bodyH:Code:=Tryz.f164.body.getD .skip
noncomputable def blkH1:Code:=(blockAt 1 bodyH).getD .skip
noncomputable def blkH0:Code:=(blockAt 0 bodyH).getD .skip
theorem hexstep_any (S:List UInt8) (hS:S.length=32) (base i n:Nat) (v:Value) (a:Act) (w:World) (hi:i < 32) (hn:n=2*i) (hb:base<=w.heap.size) (hown:w.ownsRow base 5 1 v n (bv (hexL (S.take i))))
  (hF:Fr 22 [(3,v),(6,keyV S),(7,.int .i64 (i:Int))] a) :
  Code.wp prog blkH1 (Exit.then (fun a' w'=>(∃ v',Fr 22 [(3,v'),(6,keyV S),(7,.int .i64 (i:Int))] a'/\w'.ownsRow base 5 1 v' (n+2) (bv (hexL (S.take (i+1)))))/\base<=w'.heap.size/\Mod (fun p=>base<=p) w w') Nope) a w:=by
 refine wp_part fun J K' hJ hK=>?_
 obtain ⟨i0,hi0,hz0,hz1,hz2⟩:=info_parts info_byte;have HJ:=zh hJ;clear hJ;obtain ⟨ts,ds⟩:=a;obtain ⟨hsz,hds,hs3,hs6,hs7,-⟩:=hF;dsimp only at hsz hds hs3 hs6 hs7;subst hds;obtain ⟨c,rfl,hc⟩:=lit22 ts hsz;rw [hc] at hs3;rw [hc] at hs6;rw [hc] at hs7;simp only [hs3,hs6,hs7];clear hc hsz hs3 hs6 hs7;have RK:=run_index_key hS hi;have HT:=zh (hexL_take (S:=S) (i:=i) (by omega));generalize hy:(S.getD i 0).toNat=y at *;have hy2:y < 256:=by rw [<- hy];exact UInt8.toNat_lt _
 have HH:=zh hn;have hn64:n<=62:=by omega
 obtain ⟨q,hq⟩:∃ q,q=y / 16:=⟨_,rfl⟩
 obtain ⟨r,hr⟩:∃ r,r=y % 16:=⟨_,rfl⟩
 obtain ⟨d1,hd1⟩:∃ d,d=(digit q).toNat:=⟨_,rfl⟩
 obtain ⟨d2,hd2⟩:∃ d,d=(digit r).toNat:=⟨_,rfl⟩
 have EQ:=zh (show (y:Int) / 16=(q:Int) by omega);have ER:=zh (show bits .and .u8 (y:Int) 15=(r:Int) by rw [and15 y hy2,hr]);have RQ:=zh (fun W=>show (Instr.index 9 (.string ⟨#[48,49,50,51,52,53,54,55,56,57,97,98,99,100,101,102]⟩) (.int .u8 (q:Int))).run prog W=.ok (.int .u8 (d1:Int)) W by rw [hd1];exact run_dig q (by omega) W);have RR:=zh (fun W=>show (Instr.index 9 (.string ⟨#[48,49,50,51,52,53,54,55,56,57,97,98,99,100,101,102]⟩) (.int .u8 (r:Int))).run prog W=.ok (.int .u8 (d2:Int)) W by rw [hd2];exact run_dig r (by omega) W);have HTT:=zh (show bv (hexL (S.take (i+1)))=bv (hexL (S.take i))++[.int .u8 (d1:Int),.int .u8 (d2:Int)] by rw [HT.out,bv_append,hd1,hd2,hq,hr];rfl);have HO:=zh hown;have HB:=zh hb;clear hy hq hr hd1 hd2 HT hown hb hn;conv=>arg 2;whnf
 go_upto_region 5 with fail
 obtain ⟨wA,hwA⟩:∃ y,y=w.drew:=⟨_,rfl⟩
 have HWA:=zh hwA;have HMA:=zh (show Mod No w wA by rw [hwA];exact (Mod.refl No w).drew);have HOA:=zh (own_keepM HO.out HMA.out (fun _ _ f=>f));have HBA:=zh (Nat.le_trans HB.out HMA.out.size);have hS0:True:=trivial;clear hwA;refine wp_region_T (fun _=>True) 99 (by kernel_rfl) ?_;rw [<- HWA.out];refine yS 0 10 hS0 ?_;refine yS 1 11 hS0 ?_;refine yT 2 (some 12) (.int .u8 (q:Int)) hS0 ?_ ?_
 ·(intro w' hSw;go_simp;exact EQ.out)
 simp only [Act.put,yB,yC,yD];refine yT 3 (some 13) (.int .u8 (d1:Int)) hS0 ?_ ?_
 ·(intro w' hSw;have rr:=RQ.out w';go_simp;try with_reducible rfl)
 simp only [Act.put,yB,yC,yD];refine yS 4 14 hS0 ?_;refine yT 5 (some 15) (.int .u8 (r:Int)) hS0 ?_ ?_
 ·(intro w' hSw;go_simp;exact ER.out)
 simp only [Act.put,yB,yC,yD];refine yT 6 (some 16) (.int .u8 (d2:Int)) hS0 ?_ ?_
 ·(intro w' hSw;have rr:=RR.out w';go_simp;try with_reducible rfl)
 simp only [Act.put,yB,yC,yD];refine wpAnyT_one 7 rfl (by kernel_rfl) rfl ?_;intro K hK;obtain ⟨g,hg⟩:∃ g,g=wA.heap.size:=⟨_,rfl⟩
 obtain ⟨wB,hwB⟩:∃ y,y=wA.alloc (.cells #[.int .u8 (d1:Int),.int .u8 (d2:Int)] 5):=⟨_,rfl⟩
 have HGB:=zh (show wB.heap[g]? = some (.cells #[.int .u8 (d1:Int),.int .u8 (d2:Int)] 5 (0,0)) by rw [hwB,hg];exact heap_alloc_new _ _);have HMB:=zh (show Mod No wA wB by rw [hwB];exact (Mod.refl No wA).alloc _);have HOB:=zh (own_keepM HOA.out HMB.out (fun _ _ f=>f));have HBB:=zh (show base<=wB.heap.size from Nat.le_trans HBA.out HMB.out.size);have HWB:=zh hwB;have HG:=zh hg;clear hg hwB;go_simp
 rw [<- HG.out,<- HWB.out];show K _ _
 have hS1:=trivial;refine hK.out _ _ (fun _=>hS1) ?_;clear hK K;refine wpAnyT_one 8 rfl (by kernel_rfl) rfl ?_;intro K hK;refine wp_app_sl _ (.tmp 10) (.tmp 17) 76 (by rfl) base 5 i0 (.int .u8 0) 1 1 underlying76 hi0 hz0 hz1 hz2 rfl (by decide) v n _ (by rfl) HOB.out No 5 (.slice (some ⟨g,0,none⟩) 2 2) 2 [.int .u8 (d1:Int),.int .u8 (d2:Int)] (by rfl) (.inr ⟨g,0,2,_,_,rfl,Nat.le_refl _,by unfold maxLen;omega,fun f=>f,HGB.out,by simp,fun i hi=>by match i,hi with | 0,_=>rfl | 1,_=>rfl | k+2,h=>exact absurd h (by simp)⟩) rfl (by simp [Value.oneCell']) (by unfold maxLen;omega) (by omega) HBB.out ?_;intro v5 w5 hown hg5 _;show K (Act.put _ (some 18) v5) w5
 have HO5:=zh hown;have HM5:=zh (show Mod (fun p=>base<=p) wA w5 from (HMB.out.weaken fun _ _ f=>f.elim:Mod (fun p=>base<=p) wA wB).trans (Mod.of_grown hg5 (fun k e _=>(HOB.out.lt _ e).1)));have HB5:=zh (show base<=w5.heap.size from Nat.le_trans HBB.out hg5.size);clear hown hg5;show K _ _
 have hS2:=trivial;refine hK.out _ _ (fun _=>hS2) ?_;clear hK K;refine yT 9 (some 3) ?_ hS2 ?_ ?_;rotate_left
 ·(intro w' hSw;go_simp;try with_reducible rfl)
 simp only [Act.put];refine wpAnyT_done (by kernel_rfl) ?_ _
 go_wp2_with fail
 exact Met.intro (HJ.out _ _ ⟨⟨_,⟨rfl,rfl,rfl,rfl,rfl,trivial⟩,by rw [HTT.out];exact HO5.out⟩,HB5.out,(HMA.out.weaken fun _ _ f=>f.elim:Mod (fun p=>base<=p) w wA).trans HM5.out⟩)
def LpH (w0:World) (S:List UInt8) (base:Nat) (k:Nat) (a:Act) (w:World):Prop :=
 ∃ i n v,i+k=32/\n=2*i/\base<=w.heap.size/\w.ownsRow base 5 1 v n (bv (hexL (S.take i)))/\Mod (fun p=>base<=p) w0 w/\Fr 22 [(3,v),(6,keyV S),(7,.int .i64 (i:Int))] a
theorem hexloop_any (S:List UInt8) (hS:S.length=32) (base:Nat) (v:Value) (f:Act) (w:World) (hb:base<=w.heap.size) (hown:w.ownsRow base 5 1 v 0 [])
  (hF:Fr 22 [(3,v),(6,keyV S),(7,.int .i64 0)] f) :
  Code.wp prog blkH0 (Exit.then (fun a' w'=>(∃ v',Fr 22 [(3,v')] a'/\w'.ownsRow base 5 1 v' (hexL S).length (bv (hexL S)))/\Mod (fun p=>base<=p) w w') Nope) f w:=by
 refine wp_part fun J K' hJ hK=>?_
 have H0:=zh (show LpH w S base 32 f w from ⟨0,0,v,rfl,rfl,hb,hown,Mod.refl _ w,hF⟩);have HJ:=zh hJ;obtain ⟨w0,hw0⟩:∃ w0,w0=w:=⟨_,rfl⟩
 rw [<- hw0] at HJ H0;clear hF hJ hb hown;conv=>arg 2;whnf
 go_step
 refine wp_loop_ghost_k (LpH w0 S base) 32 (by rw [hw0] at H0 ⊢;exact H0.out) ?_;clear H0 hw0 f w v;intro k f w hI J2 K2 hJ2 hK2;have HJ2:=zh hJ2;obtain ⟨i,n,v,hik,hn,hb,hown,hmod,hF⟩:=hI;have HO:=zh hown;have HM:=zh hmod;have HB:=zh hb;have HN:=zh hn;clear hJ2 hown hmod hb hn;obtain ⟨ts,ds⟩:=f;obtain ⟨hsz,hds,hs3,hs6,hs7,-⟩:=hF;dsimp only at hsz hds hs3 hs6 hs7;subst hds;obtain ⟨c,rfl,hc⟩:=lit22 ts hsz;rw [hc] at hs3;rw [hc] at hs6;rw [hc] at hs7;simp only [hs3,hs6,hs7];clear hc hsz hs3 hs6 hs7;have hi0:(0:Int)<=(i:Int):=Int.natCast_nonneg _;by_cases hi:i < 32
 ·have hi64:(i:Int) < 32:=by omega
  go_upto_block 1 with fail
  rename_i K5 hK5;refine wp_only (hexstep_any S hS base i n v _ w hi HN.out HB.out HO.out ⟨rfl,rfl,rfl,rfl,rfl,trivial⟩) ?_;rintro a2 w2 ⟨⟨v2,hF,hown2⟩,hb2,hm2⟩;have HM2:=zh (HM.out.trans hm2);have HO2:=zh hown2;have HB2:=zh hb2;clear hown2 hb2 hm2 HO HB;refine hK5 _ _ ?_;obtain ⟨ts,ds⟩:=a2;obtain ⟨hsz,hds,hs3,hs6,hs7,-⟩:=hF;dsimp only at hsz hds hs3 hs6 hs7;subst hds;obtain ⟨c,rfl,hc⟩:=lit22 ts hsz;rw [hc] at hs3;rw [hc] at hs6;rw [hc] at hs7;simp only [hs3,hs6,hs7];clear hc hsz hs3 hs6 hs7;clear hK5 K5;go_wp2_with fail
  exact Handed.intro (k - 1) (by omega) (HJ2.out _ _ _ ⟨i+1,n+2,v2,by omega,by have:=HN.out;omega,HB2.out,HO2.out,HM2.out,rfl,rfl,rfl,rfl,by go_num,trivial⟩)
 ·have hi64:i=32:=by omega
  subst hi64;have HF:=zh (show w.ownsRow base 5 1 v (hexL S).length (bv (hexL S)) by
   have h1:=HO.out;rw [List.take_of_length_le (by omega)] at h1;rw [hexL_length,hS];rw [HN.out] at h1;exact h1)
  go_wp2_with fail
  exact Met.intro (HJ.out _ _ ⟨⟨_,⟨rfl,rfl,rfl,trivial⟩,HF.out⟩,HM.out⟩)
theorem hex_any (S:List UInt8) (hS:S.length=32) (w:World) :
  Calls prog 164 #[keyV S] w fun e w'=>e=.returned (.string ⟨(hexL S).toArray⟩)/\Mod No w w':=by
 refine calls_hide fun R hR=>?_
 go_enter func164,ntmps164
 go_upto_region 1 with fail
 obtain ⟨g,hg⟩:∃ g,g=w.heap.size:=⟨_,rfl⟩
 obtain ⟨w1,hw1⟩:∃ y,y=w.alloc (.cells (bv S).toArray 105):=⟨_,rfl⟩
 rw [<- hg,<- hw1];have HM1:=zh (show Mod No w w1 by rw [hw1];exact (Mod.refl No w).alloc _);have hk:w1.heap[g]? = some (.cells (bv S).toArray 105 (0,0)):=by rw [hw1,hg];exact heap_alloc_new w _
 clear hw1 hg;go_upto_region 2 with fail
 rename_i K2 hK2;refine wp_region_lit ?_;refine wpList_load_row rfl 105 _ rfl g rfl 105 (bv S).toArray (0,0) _ hk underlying105 rfl (key_size hS) ?_;go_upto_block 0 with fail
 rename_i K5 hK5;refine wp_only (hexloop_any S hS w1.heap.size (.slice none 0 0) _ w1 (Nat.le_refl _) (World.ownsRow_nil _ _ _ _) ⟨rfl,rfl,rfl,rfl,rfl,trivial⟩) ?_;rintro a2 w2 ⟨⟨v2,hF,hown2⟩,hm2⟩;have HM2:=zh (HM1.out.then hm2 (S:=No) (fun i hi e=>by have e:w1.heap.size<=i:=e;have:=HM1.out.size;omega));have hcv:=string_of (P:=prog) (Sl.of_own hown2 (X:=No) (fun _ _ f=>f)) underlying76 underlying5 underlying9;refine hK5 _ _ ?_;clear hm2 hown2 hK5 K5;obtain ⟨ts,ds⟩:=a2;obtain ⟨hsz,hds,hs3,-⟩:=hF;dsimp only at hsz hds hs3;subst hds;obtain ⟨c,rfl,hc⟩:=lit22 ts hsz;rw [hc] at hs3;simp only [hs3];clear hc hsz hs3;go_wp2_with fail
 exact fin hR ⟨rfl,HM2.out⟩
def decT (n:Nat):List UInt8:=if n < 10 then [UInt8.ofNat (48+n)] else decT (n / 10)++[UInt8.ofNat (48+n % 10)]
decreasing_by omega
theorem decT_small {n:Nat} (h:n < 10):decT n=[UInt8.ofNat (48+n)]:=by rw [decT,if_pos h]
theorem decT_great {n:Nat} (h:¬ n < 10):decT n=decT (n / 10)++[UInt8.ofNat (48+n % 10)]:=by rw [decT,if_neg h]
theorem dig_of {n:Nat} (h:n < 10):(UInt8.ofNat (48+n)).toNat=48+n/\dig (UInt8.ofNat (48+n))=true:=by
 have e:(UInt8.ofNat (48+n)).toNat=48+n:=by rw [UInt8.toNat_ofNat'];exact Nat.mod_eq_of_lt (by omega)
 refine ⟨e,?_⟩
 unfold dig;rw [e];simp
 omega
theorem decT_all (n:Nat):(decT n).all dig=true/\decT n ≠ []/\decV (decT n)=n/\∀ k,n < 10 ^ (k+1)->(decT n).length<=k+1:=by
 induction n using Nat.strongRecOn with
 | ind n ih =>
  by_cases h:n < 10
  ·obtain ⟨h1,h2⟩:=dig_of h;rw [decT_small h];generalize UInt8.ofNat (48+n)=c at *;refine ⟨by simp [h2],by simp,by simp [decV,h1],fun k _=>by simp⟩
  ·obtain ⟨h1,h2⟩:=dig_of (n:=n % 10) (by omega);obtain ⟨a,b,c,d⟩:=ih (n / 10) (by omega);rw [decT_great h];generalize UInt8.ofNat (48+n % 10)=x at *;refine ⟨by rw [List.all_append,a];simp [h2],by simp,?_,fun k hk=>?_⟩
   ·rw [decV_snoc,c,h1];omega
   ·match k,hk with
    | 0,hk=>exact absurd hk (by omega)
    | k+1,hk =>
     have:=d k (by rw [Nat.pow_succ] at hk;omega);rw [List.length_append];simp
     omega
def joinC (c:UInt8):List (List UInt8)->List UInt8
 | []=>[]
 | [x]=>x
 | x :: l=>x++c :: joinC c l
def verT (v:Ver):List UInt8:=decT v.ma.toNat++46 :: (decT v.mi.toNat++46 :: (decT v.pa.toNat++(if v.pre=[] then [] else 45 :: joinC 46 v.pre)))
def needT' (n:Nd):List UInt8:=needT++32 :: (n.name++32 :: (n.text++[10]))
def packT' (r:Rw):List UInt8:=packT++32 :: (r.name++32 :: (verT r.v++32 :: (hexL r.sum++32 :: (decT r.size.toNat++[10]))))
def rowT (r:Rw):List UInt8:=packT' r++(sortR ltNd r.needs).flatMap needT'
def indexT (l:List Rw):List UInt8:=l.flatMap rowT
theorem lines_split:∀ (ls:List (List UInt8)),(∀ x ∈ ls,∀ d ∈ x,d ≠ 10)->splitC 10 (ls.flatMap (fun x=>x++[10]))=ls++[[]]
 | [],_=>rfl
 | x :: ls,h=>by
  rw [List.flatMap_cons,List.append_assoc];show splitC 10 (x++10 :: ls.flatMap (fun x=>x++[10]))=_
  rw [splitC_hit _ (h x (by simp)),lines_split ls (fun y hy=>h y (by simp [hy]))];rfl
theorem lines_of (ls:List (List UInt8)) (h:∀ x ∈ ls,∀ d ∈ x,d ≠ 10):linesL (ls.flatMap (fun x=>x++[10]))=ls:=by
 unfold linesL;rw [lines_split ls h,if_pos (by simp),List.dropLast_concat]
def wordB (c:UInt8):Bool:=decide (33<=c.toNat)
theorem word_ne {l:List UInt8} (h:l.all wordB=true) {d:UInt8} (hd:d ∈ l):d ≠ 32/\d ≠ 10:=by
 have:=List.all_eq_true.1 h d hd;unfold wordB at this;have h2:33<=d.toNat:=by simpa using this
 constructor <;> (rintro rfl;exact absurd h2 (by decide))
theorem all_mono {p q:UInt8->Bool} {l:List UInt8} (h:l.all p=true) (hpq:∀ c,p c=true->q c=true):l.all q=true :=
 List.all_eq_true.2 fun x hx=>hpq x (List.all_eq_true.1 h x hx)
theorem dig_word (c:UInt8) (h:dig c=true):wordB c=true:=by
 have:=dig_bounds h;unfold wordB;simp
 omega
theorem nameC_word (c:UInt8) (h:nameC c=true):wordB c=true:=by
 unfold nameC smallB dig at h;unfold wordB;simp at h ⊢
 omega
theorem name_word {l:List UInt8} (h:nameB l=true):l.all wordB=true:=by
 unfold nameB at h;simp only [Bool.and_eq_true] at h;exact all_mono h.2 nameC_word
theorem digit_word:∀ n:Fin 16,wordB (digit n.1)=true:=by decide +kernel
theorem hex_word:∀ S:List UInt8,(hexL S).all wordB=true
 | []=>rfl
 | c :: S=>by
  have hc:=UInt8.toNat_lt c;have e1:hexL (c :: S)=digit (c.toNat / 16) :: digit (c.toNat % 16) :: hexL S:=rfl;have h1:=digit_word ⟨c.toNat / 16,by omega⟩;have h2:=digit_word ⟨c.toNat % 16,by omega⟩;dsimp only at h1 h2;rw [e1,List.all_cons,List.all_cons,h1,h2,hex_word S];rfl
structure GoodN (n:Nd):Prop where
 name:nameB n.name=true
 span:spanL n.text=some n.span
 text:∀ d ∈ n.text,d ≠ 10
structure GoodR (r:Rw):Prop where
 name:nameB r.name=true
 ver:verOf (verT r.v)=some r.v
 word:(verT r.v).all wordB=true
 sum:r.sum.length=32
 size:0<=r.size/\r.size<=262144
 needs:∀ n ∈ r.needs,GoodN n/\n.name ≠ r.name
 rises:Rises Nd.name r.needs
 most:r.needs.length<=20
def packW (r:Rw):List UInt8:=packT++32 :: (r.name++32 :: (verT r.v++32 :: (hexL r.sum++32 :: decT r.size.toNat)))
def needW (n:Nd):List UInt8:=needT++32 :: (n.name++32 :: n.text)
theorem sortR_rises {l:List Nd} (h:Rises Nd.name l):sortR ltNd l=l:=by
 have:∀ k,k<=l.length->sortR ltNd (l.take k)=l.take k:=by
  intro k;induction k with
  | zero=>intro _;rw [List.take_zero];rfl
  | succ k ih =>
   intro hk;rw [sortR_take ltNd l (by omega),ih (by omega),List.take_succ_eq_append_getElem (by omega)];have:=insR_scan (p:=ltNd l[k]) (x:=l[k]) (A:=l.take k) (B:=[]) (fun _ h=>by cases h) (by
    rcases List.eq_nil_or_concat (l.take k) with h2 | ⟨C,z,h2⟩
    ·exact .inl h2
    ·refine .inr ⟨C,z,by simpa using h2,decide_eq_false fun h3=>?_⟩
     have hz:z ∈ l.take k:=by rw [h2];simp
     obtain ⟨i,hi,rfl⟩:=List.getElem_of_mem hz;rw [List.length_take] at hi;rw [List.getElem_take] at h3;exact absurd (text_trans h3 (h.get (i:=i) (j:=k) (by omega) (by omega))) (by simp))
   rw [List.append_nil] at this;exact this
 have h2:=this l.length (Nat.le_refl _);rw [List.take_length] at h2;exact h2
theorem packW_no {r:Rw} (h:GoodR r):∀ d ∈ packW r,d ≠ 10:=by
 have h1:=(decT_all r.size.toNat).1;intro d hd;unfold packW at hd;simp only [List.mem_append,List.mem_cons] at hd;rcases hd with hd | rfl | hd | rfl | hd | rfl | hd | rfl | hd
 ·exact (show ∀ d ∈ packT,d ≠ 10 by decide) d hd
 ·decide
 ·exact (word_ne (name_word h.name) hd).2
 ·decide
 ·exact (word_ne h.word hd).2
 ·decide
 ·exact (word_ne (hex_word _) hd).2
 ·decide
 ·exact (word_ne (all_mono h1 dig_word) hd).2
theorem needW_no {n:Nd} (h:GoodN n):∀ d ∈ needW n,d ≠ 10:=by
 intro d hd;unfold needW at hd;simp only [List.mem_append,List.mem_cons] at hd;rcases hd with hd | rfl | hd | rfl | hd
 ·exact (show ∀ d ∈ needT,d ≠ 10 by decide) d hd
 ·decide
 ·exact (word_ne (name_word h.name) hd).2
 ·decide
 ·exact h.text d hd
structure SRow where
 n:Nat
 v:Nat
 needs:List Nat
 kind:Nat
 lie:Nat
def nameK (k:Nat):List UInt8:=[UInt8.ofNat (97+k % 6)]
def verTexts:List (List UInt8):=[[49,46,48,46,48],[49,46,49,46,48],[50,46,48,46,48],[48,46,51,46,48],[49,46,48,46,48,45,120,46,49],[49,46,50,46,51]]
def verTK (k:Nat):List UInt8:=verTexts.getD (k % 6) []
def vers:List Ver:=[⟨1,0,0,[]⟩,⟨1,1,0,[]⟩,⟨2,0,0,[]⟩,⟨0,3,0,[]⟩,⟨1,0,0,[[120],[49]]⟩,⟨1,2,3,[]⟩]
def verK (k:Nat):Ver:=vers.getD (k % 6) ⟨0,0,0,[]⟩
def spanTexts:List (List UInt8):=[[42],[94,49,46,48,46,48],[126,49,46,48,46,48],[62,61,49,46,49,46,48],[50,46,48,46,48],[60,50,46,48,46,48],[94,48,46,51,46,48],
 [62,61,49,46,48,46,48,45,97,32,60,49,46,48,46,48,32,124,124,32,50,46,48,46,48],[49,46,48,46,48,45,120,46,49],[42]]
def spanTK (k:Nat):List UInt8:=spanTexts.getD (k % 10) []
def spanK (k:Nat):Spn:=(spanL (spanTK k)).getD ⟨true,[]⟩
theorem ver_all:∀ k:Fin 6,verOf (verTK k.1)=some (verK k.1):=by decide +kernel
theorem span_all:∀ k:Fin 10,(spanL (spanTK k.1)).isSome=true/\∀ d ∈ spanTK k.1,d ≠ 10:=by decide +kernel
theorem name_all:∀ k:Fin 6,nameB (nameK k.1)=true:=by decide +kernel
theorem nameK_good (k:Nat):nameB (nameK k)=true:=by
 have:=name_all ⟨k % 6,Nat.mod_lt _ (by omega)⟩;unfold nameK at *;dsimp only at this;rw [Nat.mod_mod] at this;exact this
theorem verK_good (k:Nat):verOf (verTK k)=some (verK k):=by
 have:=ver_all ⟨k % 6,Nat.mod_lt _ (by omega)⟩;unfold verTK verK at *;dsimp only at this;rw [Nat.mod_mod] at this;exact this
theorem spanK_good (k:Nat):spanL (spanTK k)=some (spanK k)/\∀ d ∈ spanTK k,d ≠ 10:=by
 have:=span_all ⟨k % 10,Nat.mod_lt _ (by omega)⟩;have e:spanTK (k % 10)=spanTK k:=by unfold spanTK;rw [Nat.mod_mod]
 dsimp only at this;rw [e] at this;refine ⟨?_,this.2⟩
 obtain ⟨s,hs⟩:=Option.isSome_iff_exists.1 this.1;unfold spanK;rw [hs];rfl
theorem verT_K (k:Nat):verT (verK k)=verTK k:=by
 have h:k % 6 < 6:=Nat.mod_lt _ (by omega);have e1:verK k=vers.getD (k % 6) ⟨0,0,0,[]⟩:=rfl;have e2:verTK k=verTexts.getD (k % 6) []:=rfl;rw [e1,e2];match k % 6,h with
 | 0,_=>simp [vers,verTexts,verT,decT_small]
 | 1,_=>simp [vers,verTexts,verT,decT_small]
 | 2,_=>simp [vers,verTexts,verT,decT_small]
 | 3,_=>simp [vers,verTexts,verT,decT_small]
 | 4,_=>simp [vers,verTexts,verT,decT_small,joinC]
 | 5,_=>simp [vers,verTexts,verT,decT_small]
def ndK (x:Nat):Nd:=⟨nameK (x % 6),spanK (x / 6 % 10),spanTK (x / 6 % 10)⟩
def ndsK (name:List UInt8) (l:List Nat):List Nd:=l.foldl (fun a x=>if (ndK x).name=name\/(ndK x).name ∈ a.map Nd.name then a else insR (ltNd (ndK x)) (ndK x) a) []
theorem ndsK_good (name:List UInt8):∀ (l:List Nat) (a:List Nd),Rises Nd.name a->(∀ n ∈ a,GoodN n/\n.name ≠ name) →
  let r:=l.foldl (fun a x=>if (ndK x).name=name\/(ndK x).name ∈ a.map Nd.name then a else insR (ltNd (ndK x)) (ndK x) a) a
  Rises Nd.name r/\(∀ n ∈ r,GoodN n/\n.name ≠ name)/\r.length<=a.length+l.length:=by
 intro l;induction l with
 | nil=>exact fun a h1 h2=>⟨h1,h2,Nat.le_refl _⟩
 | cons x l ih =>
  intro a h1 h2;dsimp only;rw [List.foldl_cons];by_cases h:(ndK x).name=name\/(ndK x).name ∈ a.map Nd.name
  ·rw [if_pos h];obtain ⟨a1,a2,a3⟩:=ih a h1 h2;exact ⟨a1,a2,by rw [List.length_cons];omega⟩
  ·rw [if_neg h];have hr:=insR_rises (f:=Nd.name) h1 (x:=ndK x) (fun h3=>h (.inr h3));obtain ⟨a1,a2,a3⟩:=ih (insR (ltNd (ndK x)) (ndK x) a) hr (fun n hn=>by
    rcases (insR_mem _ _ _ _).1 hn with rfl | hn
    ·exact ⟨⟨nameK_good _,(spanK_good _).1,(spanK_good _).2⟩,fun h3=>h (.inl h3)⟩
    ·exact h2 n hn)
   refine ⟨a1,a2,?_⟩
   rw [insR_length] at a3;rw [List.length_cons];omega
def madeL (sm:SRow->List UInt8) (sz:SRow->Int):List Rw->List SRow->List Rw
 | st,[]=>st
 | st,r :: l=>madeL sm sz (if (atL st (nameK r.n) (verK r.v)).isSome then st else st++[⟨nameK r.n,verK r.v,sm r,sz r,ndsK (nameK r.n) r.needs⟩]) l
structure Fl where
 path:List UInt8
 dir:Bool
 b:List UInt8
deriving DecidableEq
def libT:List UInt8:=[108,105,98]
def buildT:List UInt8:=[98,117,105,108,100,46,104,115]
def bigT:List UInt8:=[98,105,103]
def scriptK (k:Nat):List UInt8 :=
 if k=1 then [119,114,105,116,101,32,111,117,116,32,34,98,117,105,108,116,32,36,110,97,109,101,32,36,118,101,114,115,105,111,110,34,10]
 else if k=2 then [109,107,100,105,114,32,98,105,110,10,114,101,112,101,97,116,32,51,10,97,112,112,101,110,100,32,98,105,110,47,114,117,110,32,34,36,110,97,109,101,34,10,101,110,100,10,114,101,109,111,118,101,32,108,105,98,10]
 else if k=3 then [105,102,32,101,120,105,115,116,115,32,108,105,98,10,114,101,110,97,109,101,32,108,105,98,32,115,114,99,10,101,108,115,101,10,102,97,105,108,32,34,110,111,34,10,101,110,100,10]
 else if k=4 then [102,97,105,108,32,34,110,101,118,101,114,34,10]
 else if k=5 then [119,114,105,116,101,32,46,46,47,111,117,116,32,34,120,34,10]
 else if k=6 then [99,111,112,121,32,108,105,98,10]
 else if k=7 then [114,101,112,101,97,116,32,49,48,48,48,10,114,101,112,101,97,116,32,49,48,48,48,10,101,110,100,10,101,110,100,10]
 else []
def bigB:List UInt8:=(List.range 200).map UInt8.ofNat
def filesK (r:SRow):List Fl :=
 [⟨libT,true,[]⟩,⟨libT++47 :: nameK r.n,false,nameK r.n++32 :: verTK r.v⟩]++(if r.kind % 10=8 then [⟨bigT,false,bigB⟩] else [])++(if scriptK (r.kind % 10)=[] then [] else [⟨buildT,false,scriptK (r.kind % 10)⟩])
def numB8 (n:Nat):Nat->List UInt8
 | 0=>[]
 | k+1=>UInt8.ofNat (n / 256 ^ k) :: numB8 n k
theorem numB8_length (n:Nat):∀ k,(numB8 n k).length=k
 | 0=>rfl
 | k+1=>by rw [numB8,List.length_cons,numB8_length n k]
def packF (f:Fl):List UInt8:=(if f.dir then 1 else 0) :: (numB8 (f.path.take 65535).length 2++(f.path.take 65535++(if f.dir then [] else numB8 f.b.length 8++f.b)))
def pakT:List UInt8:=[80,65,75,49]
def packA (l:List Fl):List UInt8:=pakT++(l.flatMap packF++[255])
def archK (r:SRow):List UInt8:=packA (filesK r)++(if r.kind % 10=9 then [7] else [])
def smK (r:SRow):List UInt8:=if r.lie % 12=1 then (sumF (archK r)).set 3 ((sumF (archK r)).getD 3 0 ^^^ 4) else if r.lie % 12=4 then sumF [] else sumF (archK r)
def szK (r:SRow):Int:=if r.lie % 12=2 then (archK r).length+9 else if r.lie % 12=3 then (if (archK r).length < 9 then 0 else (archK r).length - 9) else if r.lie % 12=4 then 0 else (archK r).length
def rowK (r:SRow):Rw:=⟨nameK r.n,verK r.v,smK r,szK r,ndsK (nameK r.n) r.needs⟩
def keptK:List SRow->List SRow->List SRow
 | st,[]=>st
 | st,r :: l=>keptK (if (atL (st.map rowK) (nameK r.n) (verK r.v)).isSome then st else st++[r]) l
theorem kept_made:∀ (l st:List SRow),madeL smK szK (st.map rowK) l=(keptK st l).map rowK
 | [],st=>rfl
 | r :: l,st=>by
  rw [madeL,keptK];by_cases h:(atL (st.map rowK) (nameK r.n) (verK r.v)).isSome=true
  ·rw [if_pos h,if_pos h];exact kept_made l st
  ·rw [if_neg h,if_neg h,<- kept_made l (st++[r]),List.map_append];rfl
theorem kept_snoc (l st:List SRow) (r:SRow):keptK st (l++[r])=if (atL ((keptK st l).map rowK) (nameK r.n) (verK r.v)).isSome then keptK st l else keptK st l++[r]:=by
 induction l generalizing st with
 | nil=>rfl
 | cons x l ih=>exact ih _
theorem kept_length:∀ (l st:List SRow),(keptK st l).length<=st.length+l.length
 | [],st=>Nat.le_refl _
 | r :: l,st=>by
  rw [keptK];rw [List.length_cons];by_cases h:(atL (st.map rowK) (nameK r.n) (verK r.v)).isSome=true
  ·rw [if_pos h];have:=kept_length l st;omega
  ·rw [if_neg h];have:=kept_length l (st++[r]);rw [List.length_append,List.length_singleton] at this;omega
theorem kept_mem:∀ (l st:List SRow) (x:SRow),x ∈ keptK st l->x ∈ st\/x ∈ l
 | [],st,x,h=>.inl h
 | r :: l,st,x,h=>by
  rw [keptK] at h;rcases kept_mem l _ x h with h | h
  ·split at h
   ·exact .inl h
   ·rcases List.mem_append.1 h with h | h
    ·exact .inl h
    ·exact .inr (by simp at h;simp [h])
  ·exact .inr (by simp [h])
theorem scriptK_le (k:Nat):(scriptK k).length<=100:=by
 unfold scriptK;repeat' split
 all_goals decide
theorem verTK_le (k:Nat):(verTK k).length<=9:=by
 have h:∀ k:Fin 6,(verTK k.1).length<=9:=by decide +kernel
 have:=h ⟨k % 6,Nat.mod_lt _ (by omega)⟩;unfold verTK at *;dsimp only at this;rw [Nat.mod_mod] at this;exact this
theorem packF_le (f:Fl) (hp:f.path.length<=20) (hb:f.b.length<=300):(packF f).length<=340:=by
 unfold packF;rw [List.length_cons,List.length_append,numB8_length,List.length_append,List.length_take];split
 ·simp;omega
 ·rw [List.length_append,numB8_length];omega
theorem bigB_length:bigB.length=200:=by unfold bigB;rw [List.length_map,List.length_range]
theorem archK_le (r:SRow):(archK r).length<=2000:=by
 have h1:=scriptK_le (r.kind % 10);have h2:=verTK_le r.v;have hb:=bigB_length;have hf:∀ f ∈ filesK r,(packF f).length<=340:=fun f hf=>by
  unfold filesK at hf;rw [List.mem_append,List.mem_append] at hf;rcases hf with (hf | hf) | hf
  ·simp only [List.mem_cons,List.not_mem_nil,or_false] at hf;rcases hf with rfl | rfl
   ·exact packF_le _ (by decide) (by simp)
   ·exact packF_le _ (by simp [libT,nameK]) (by simp [nameK];omega)
  ·split at hf
   ·obtain rfl:=List.mem_singleton.1 hf;exact packF_le _ (by decide) (by show bigB.length<=300;omega)
   ·cases hf
  ·split at hf
   ·cases hf
   ·obtain rfl:=List.mem_singleton.1 hf;exact packF_le _ (by show buildT.length<=20;decide) (by show (scriptK (r.kind % 10)).length<=300;omega)
 have hn:(filesK r).length<=4:=by
  unfold filesK;rw [List.length_append,List.length_append];have a1:(if r.kind % 10=8 then [(⟨bigT,false,bigB⟩:Fl)] else []).length<=1:=by split <;> simp
  have a2:(if scriptK (r.kind % 10)=[] then [] else [(⟨buildT,false,scriptK (r.kind % 10)⟩:Fl)]).length<=1:=by split <;> simp
  simp only [List.length_cons,List.length_nil];omega
 have hs:∀ l:List Fl,(∀ f ∈ l,(packF f).length<=340)->(l.flatMap packF).length<=340*l.length:=by
  intro l;induction l with
  | nil=>intro _;simp
  | cons f l ih =>
   intro h;rw [List.flatMap_cons,List.length_append,List.length_cons];have:=ih (fun g hg=>h g (by simp [hg]));have:=h f (by simp);omega
 have:=hs _ hf;have hz:(if r.kind % 10=9 then [(7:UInt8)] else []).length<=1:=by split <;> simp
 unfold archK packA;rw [List.length_append,List.length_append,List.length_append];have e1:pakT.length=4:=rfl;have e2:([255]:List UInt8).length=1:=rfl;omega
theorem rowK_facts (r:SRow) (hn:r.needs.length<=20):(smK r).length=32/\0<=szK r/\szK r<=262144/\r.needs.length<=20:=by
 have h:=archK_le r;refine ⟨?_,?_,?_,hn⟩
 ·unfold smK;split
  ·rw [List.length_set,sumF_length]
  ·split <;> rw [sumF_length]
 ·unfold szK;repeat' split
  all_goals omega
 ·unfold szK;repeat' split
  all_goals omega
theorem own_base {w:World} {base:Nat} {e:TypeId} {size:Nat} {v:Value} {n:Nat} {xs:List Value} (h:w.ownsRow base e size v n xs) {k:Nat} (hk:v.ownBlock=some k):base<=k:=by
 obtain ⟨_,⟨hv,_⟩ | ⟨g,cap,cur,hv,hg,r⟩⟩:=h
 ·rw [hv] at hk;cases hk
 ·rw [hv] at hk;cases hk;exact hg
theorem ydig {w:World} {n:Nat} {d:UInt8} {o:Oper} {ρ:Operand->Value} (hn:n < 16) (hd:digit n=d) (x:Operand) (ho:o.op=.index 9 (.const (.string ⟨#[48,49,50,51,52,53,54,55,56,57,97,98,99,100,101,102]⟩)) x) (hx:ρ x=.int .u8 (n:Int))
  (hk:ρ (.const (.string ⟨#[48,49,50,51,52,53,54,55,56,57,97,98,99,100,101,102]⟩))=.string ⟨#[48,49,50,51,52,53,54,55,56,57,97,98,99,100,101,102]⟩):(execOp ρ o).run prog w=.ok (.value (.int .u8 (d.toNat:Int))) w:=by
 unfold execOp;subst hd;simp only [ho,hx,hk,Sem.run_bind,run_dig n hn w,Result.andThen_ok,Sem.run_pure]
theorem refhex_any (S:List UInt8) (hS:S.length=32) (w:World):Calls prog 84 #[keyV S] w fun e w'=>e=.returned (strV (hexL S))/\Mod No w w':=by
 refine calls_hide fun R hR=>?_
 obtain ⟨i0,hi0,hz0,hz1,hz2⟩:=info_parts info_byte;have HI:=zh (And.intro hi0 (And.intro hz0 (And.intro hz1 hz2)));clear hi0 hz0 hz1 hz2;go_enter func84,ntmps84
 go_upto_region 1 with fail
 obtain ⟨gb,hgb⟩:∃ g,g=w.heap.size:=⟨_,rfl⟩
 rw [<- hgb];generalize hw1:World.alloc w _=w1;have HG1:=zh (show w1.heap[gb]? = some (.cells (bv S).toArray 105 (0,0)) by rw [<- hw1,hgb];exact heap_alloc_new w _);have HM1:=zh (show Mod No w w1 by rw [<- hw1];exact (Mod.refl No w).alloc _);have HLT:=zh (lt_of_heap HG1.out);have HBB:=zh (show w.heap.size<=w1.heap.size from HM1.out.size);clear hw1 hgb;unfold keyV;go_wp2_with fail
 go_loopw [3,4] (fun q3 q4 wr=>∃ (k:Nat) (v:Value),k<=32/\q4=.int .i64 (k:Int)/\q3=v/\wr.ownsRow w1.heap.size 5 1 v (2*k) (bv (hexL (S.take k)))/\Mod (fun q=>w1.heap.size<=q) w1 wr) (fun _ q _=>32 - (intOf q).toNat)
 case atStart=>exact ⟨0,.slice none 0 0,by omega,rfl,rfl,⟨by simp [hexL],.inl ⟨rfl,rfl⟩⟩,Mod.refl _ _⟩
 case round =>
  obtain ⟨k,v,hk,rfl,rfl,hown,hm⟩:=hrel;have HM:=zh hm;have HO:=zh hown;have hk0:(0:Int)<=(k:Int):=Int.natCast_nonneg _;obtain ⟨sa,sc,hsv⟩:=own_len hown;subst hsv;clear hm hown;by_cases hlt:k < 32
  ·have hk1:(k:Int) < 32:=by omega
   obtain ⟨c,hc⟩:∃ c,c=S.getD k 0:=⟨_,rfl⟩
   have HCK:=zh hc;have hcl:c.toNat < 256:=UInt8.toNat_lt c;obtain ⟨y,hy⟩:∃ y,y=c.toNat:=⟨_,rfl⟩
   obtain ⟨q,hq⟩:∃ q,q=y / 16:=⟨_,rfl⟩
   obtain ⟨r,hr⟩:∃ r,r=y % 16:=⟨_,rfl⟩
   have hx1:q < 16:=by omega
   have hx2:r < 16:=by omega
   have EQ:=zh (show (y:Int) / 16=(q:Int) by omega);have EA:=zh (show (y:Int) % 16=(r:Int) by omega);have HQR:=zh (show q=c.toNat / 16/\r=c.toNat % 16 by rw [hq,hr,hy];exact ⟨rfl,rfl⟩);have hand:=and15 y (by omega);obtain ⟨d1,hd1⟩:∃ d,d=digit q:=⟨_,rfl⟩
   obtain ⟨d2,hd2⟩:∃ d,d=digit r:=⟨_,rfl⟩
   have HDD:=zh (And.intro hd1.symm hd2.symm);clear hd1 hd2;have hcell:(bv S)[k]? = some (.int .u8 (y:Int)):=by rw [hy,hc];exact bv_bf (by omega)
   have HSM:=zh (show ∀ w',Mod (fun q=>w1.heap.size<=q) wr w'->w'.cell? ⟨gb,k,none⟩=some (.int .u8 (y:Int)) from fun w' h=>(HM.out.trans h).cell (cell_of HG1.out hcell) (fun e=>by have h1:=HLT.out;have h2:w1.heap.size<=gb:=e;omega));obtain ⟨hi0,hz0,hz1,hz2⟩:=HI.out;go_upto_region 5 with fail
   obtain ⟨wD,hwD⟩:∃ y,y=wr.drew:=⟨_,rfl⟩
   have hmx:Mod No wr wD:=by rw [hwD];exact (Mod.refl No wr).drew
   have HMX:=zh hmx;have HMD:=zh (show Mod (fun q=>w1.heap.size<=q) w1 wD from HM.out.trans (hmx.weaken (fun _ _ f=>f.elim)));have HWD:=zh hwD;have hS0:=Mod.refl (fun q=>w1.heap.size<=q) wD;clear hwD hmx hc hcell hy hq hr;refine wp_region_T (fun w'=>Mod (fun q=>w1.heap.size<=q) wD w') 99 (by kernel_rfl) ?_;rw [<- HWD.out];refine yS 0 9 hS0 ?_;refine yS 1 10 hS0 ?_;refine yS 2 11 hS0 ?_;refine yT 3 (some 12) (.int .u8 (y:Int)) hS0 ?_ ?_
   ·(intro w' hSw;have q0:=HSM.out w' ((HMX.out.weaken (fun _ _ f=>f.elim)).trans hSw);go_simp;try with_reducible rfl)
   simp only [Act.put,yB,yC,yD];refine yT 4 (some 13) (.int .u8 (q:Int)) hS0 ?_ ?_
   ·(intro w' hSw;go_simp;rw [EQ.out])
   simp only [Act.put,yB,yC,yD];refine yT 5 (some 14) (.int .u8 (d1.toNat:Int)) hS0 ?_ ?_
   ·(intro w' hSw;apply ydig hx1 HDD.out.1 (.tmp 13) <;> rfl)
   simp only [Act.put,yB,yC,yD];refine yS 6 15 hS0 ?_;refine yS 7 16 hS0 ?_;refine yT 8 (some 17) (.int .u8 (y:Int)) hS0 ?_ ?_
   ·(intro w' hSw;have q0:=HSM.out w' ((HMX.out.weaken (fun _ _ f=>f.elim)).trans hSw);go_simp;try with_reducible rfl)
   simp only [Act.put,yB,yC,yD];refine yT 9 (some 18) (.int .u8 (r:Int)) hS0 ?_ ?_
   ·(intro w' hSw;go_simp;rw [EA.out])
   simp only [Act.put,yB,yC,yD];refine yT 10 (some 19) (.int .u8 (d2.toNat:Int)) hS0 ?_ ?_
   ·(intro w' hSw;apply ydig hx2 HDD.out.2 (.tmp 18) <;> rfl)
   simp only [Act.put,yB,yC,yD];refine wpAnyT_one 11 rfl (by kernel_rfl) rfl ?_;intro K hK;obtain ⟨ga,hga⟩:∃ g,g=wD.heap.size:=⟨_,rfl⟩
   go_simp
   rw [<- hga];obtain ⟨wE,hwE⟩:∃ y,y=wD.alloc (.cells #[.int .u8 (d1.toNat:Int),.int .u8 (d2.toNat:Int)] 5):=⟨_,rfl⟩
   rw [<- hwE];have HGA:=zh (show wE.heap[ga]? = some (.cells #[.int .u8 (d1.toNat:Int),.int .u8 (d2.toNat:Int)] 5 (0,0)) by rw [hwE,hga];exact heap_alloc_new _ _);have hmE:Mod No wD wE:=by rw [hwE];exact (Mod.refl No _).alloc _
   have HOE:=zh (own_keepM HO.out (HMX.out.trans hmE) (fun _ _ f=>f));clear hwE hga;show K _ _
   have hS1:=(show Mod (fun q=>w1.heap.size<=q) wD wE from hmE.weaken (fun _ _ f=>f.elim))
   refine hK.out _ _ (fun _=>hS1) ?_;clear hK K;refine wpAnyT_one 12 rfl (by kernel_rfl) rfl ?_;intro K hK;refine wp_app_sl wE (.tmp 9) (.tmp 20) 76 (by rfl) w1.heap.size 5 i0 _ 1 1 underlying76 hi0 hz0 hz1 hz2 rfl (by decide) _ (2*k) (bv (hexL (S.take k))) (by rfl) HOE.out No 5 (.slice (some ⟨ga,0,none⟩) 2 2) 2 (bv [d1,d2]) (by rfl) (.inr ⟨ga,0,2,_,(0,0),rfl,by omega,by unfold maxLen;omega,fun f=>f,HGA.out,by simp,fun i hi=>by simp [bv]⟩) (by simp) (bv_one _) (by unfold maxLen;omega) (by omega) (Nat.le_trans HMD.out.size hS1.size) ?_;intro v7 w7 hown7 hg7 _;have HO7:=zh hown7;have hm7:Mod (fun q=>w1.heap.size<=q) w1 w7:=(HMD.out.trans hS1).trans (Mod.of_grown hg7 (fun q e _=>own_base HO.out e));have HM7:=zh hm7;have HS7:=zh (hS1.trans (Mod.of_grown hg7 (fun q e _=>own_base HO.out e)));clear hown7 hg7 hm7;show K _ _
   have hS2:=HS7.out;refine hK.out _ _ (fun _=>hS2) ?_;clear hK K;refine yT 13 (some 3) ?_ hS2 ?_ ?_;rotate_left
   ·(intro w' hSw;go_simp;try with_reducible rfl)
   simp only [Act.put];refine wpAnyT_done (by kernel_rfl) ?_ _
   clear hS0 hS1 hS2;go_wp2_with fail
   refine ⟨⟨k+1,v7,by omega,rfl,rfl,?_,HM7.out⟩,by show 32 - ((k:Int)+1).toNat < 32 - (k:Int).toNat;omega⟩
   have h9:=HO7.out;rw [<- bv_append,<- HDD.out.1,<- HDD.out.2,HQR.out.1,HQR.out.2,HCK.out,<- hexL_take (by omega),show 2*k+2=2*(k+1) by omega] at h9;exact h9
  ·obtain rfl:k=32:=by omega
   have hL:S.take 32=S:=List.take_of_length_le (by omega);have HSL:=zh (show Sl wr No 5 (.slice sa (2*32) sc) (hexL S).length (bv (hexL S)) by
    have h9:=Sl.of_own (X:=No) HO.out (fun _ _ f=>f);rw [hL] at h9;rw [hexL_length,hS];exact h9)
   have HCV:=zh (fun W (h:Sl W No 5 (.slice sa (2*32) sc) (hexL S).length (bv (hexL S)))=>string_of (P:=prog) (src:=76) (dst:=9) (e:=5) h underlying76 underlying5 underlying9);have hcv:=HCV.out wr HSL.out;go_wp2_with fail
   exact fin hR ⟨rfl,HM1.out.then HM.out (fun q hq e=>by have h1:=HBB.out;have h2:w1.heap.size<=q:=e;omega)⟩
theorem shr_byte (n m:Nat):((n:Int) / 2 ^ (8*m)) % 256=((UInt8.ofNat (n / 256 ^ m)).toNat:Int):=by
 rw [UInt8.toNat_ofNat',show (256:Nat) ^ m=2 ^ (8*m) by rw [Nat.pow_mul]];have h1:((2:Int) ^ (8*m))=((2 ^ (8*m):Nat):Int):=by rw [Int.natCast_pow];rfl
 rw [h1,<- Int.natCast_ediv];rfl
theorem ref7num_any (n k:Nat) (hk:k<=8) (base:Nat) (l:List UInt8) (hl:l.length<=1000000) (v:Value) (w:World) (hb:base<=w.heap.size) (hv:w.ownsRow base 5 1 v l.length (bv l)) :
  Calls prog 80 #[v,.int .u64 (n:Int),.int .i64 (k:Int)] w fun e w'=>∃ v',e=.returned v'/\w'.ownsRow base 5 1 v' (l++numB8 n k).length (bv (l++numB8 n k))/\Mod (fun q=>base<=q) w w':=by
 refine calls_hide fun R hR=>?_
 obtain ⟨i0,hi0,hz0,hz1,hz2⟩:=info_parts info_byte;have HI:=zh (And.intro hi0 (And.intro hz0 (And.intro hz1 hz2)));have HV:=zh hv;have HB:=zh hb;have hk0:(0:Int)<=(k:Int):=Int.natCast_nonneg _;obtain ⟨va,vc,rfl⟩:=own_len hv;clear hi0 hz0 hz1 hz2 hv hb;go_enter func80,ntmps80
 go_wp2_with fail
 go_loopw [0,7] (fun q0 q7 wr=>∃ (r:Nat) (pre:List UInt8) (u:Value),r<=k/\q7=.int .i64 ((r:Int) - 1)/\q0=u/\pre++numB8 n r=numB8 n k/\wr.ownsRow base 5 1 u (l++pre).length (bv (l++pre))/\Mod (fun q=>base<=q) w wr) (fun _ q _=>(intOf q+1).toNat)
 case atStart=>exact ⟨k,[],_,Nat.le_refl _,rfl,rfl,rfl,by simpa using HV.out,Mod.refl _ _⟩
 case round =>
  obtain ⟨r,pre,u,hr,rfl,rfl,hpre,hown,hm⟩:=hrel;have HM:=zh hm;have HO:=zh hown;have HP:=zh hpre;obtain ⟨ua,uc,rfl⟩:=own_len hown;clear hm hown hpre;have hlen:(l++pre).length=l.length+pre.length:=List.length_append;have hpl:pre.length<=8:=by
   have h1:=congrArg List.length HP.out;rw [List.length_append,numB8_length,numB8_length] at h1;omega
  rcases r with _ | m
  ·have HE:=zh (show l++pre=l++numB8 n k by rw [<- HP.out];show l++pre=l++(pre++[]);rw [List.append_nil]);go_wp2_with fail
   refine fin hR ⟨_,rfl,?_,HM.out⟩
   rw [<- HE.out];exact HO.out
  ·have hm0:(0:Int)<=(m:Int):=Int.natCast_nonneg _;have e1:(((m+1:Nat):Int) - 1)=(m:Int):=by omega
   rw [e1];obtain ⟨hi0,hz0,hz1,hz2⟩:=HI.out;have HSB:=zh (shr_byte n m);have HPN:=zh (show pre++UInt8.ofNat (n / 256 ^ m) :: numB8 n m=numB8 n k from HP.out);generalize UInt8.ofNat (n / 256 ^ m)=d at *;rw [hlen] at HO;rw [hlen];have HOA:=zh (own_keepM HO.out ((Mod.refl No wr).alloc (.cells #[.int .u8 ((n:Int) / 2 ^ (8*m) % 256)] 5)) (fun _ _ f=>f));go_wp2_with (at_builtin;refine app_sl _ rfl _ _ 76 rfl base 5 i0 (.int .u8 0) 1 1 underlying76 hi0 hz0 hz1 hz2 rfl (by decide) _ (l.length+pre.length) (bv (l++pre)) rfl HOA.out No 5 (.slice (some ⟨wr.heap.size,0,none⟩) 1 1) 1 [.int .u8 ((n:Int) / 2 ^ (8*m) % 256)] rfl (.inr ⟨wr.heap.size,0,1,_,(0,0),rfl,Nat.le_refl _,by unfold maxLen;omega,fun f=>f,heap_alloc_new wr _,by simp,fun i hi=>by simp⟩) rfl (fun u hu=>by rw [List.mem_singleton.1 hu];rfl) (by unfold maxLen;omega) (by omega) (Nat.le_trans HB.out (Nat.le_trans HM.out.size ((Mod.refl No wr).alloc _).size)) ?_;intro v7 w7 hown7 hg7 _;have HO7:=zh hown7;have HG7:=zh hg7;clear hown7 hg7)
   have HM7:=zh (show Mod (fun q=>base<=q) w w7 from (HM.out.trans (((Mod.refl No wr).alloc (.cells #[.int .u8 ((n:Int) / 2 ^ (8*m) % 256)] 5)).weaken (fun _ _ f=>f.elim))).trans (Mod.of_grown HG7.out (fun q e _=>own_base HO.out e)));refine ⟨⟨m,pre++[d],v7,by omega,rfl,rfl,by rw [List.append_assoc];exact HPN.out,?_,HM7.out⟩,by show ((m:Int) - 1+1).toNat < ((m:Int)+1).toNat;omega⟩
   have h9:=HO7.out;rw [HSB.out] at h9;rw [<- List.append_assoc,bv_append (l++pre),List.length_append,hlen];exact h9
structure FlX where
 f:Fl
 vv:Value
def FlX.cells (x:FlX):List Value:=[strV x.f.path,.bool x.f.dir,x.vv]
theorem FlX.cells_length (x:FlX):x.cells.length=3:=rfl
structure FlsAt (w:World) (v:Value) (xs:List FlX):Prop where
 each:∀ x ∈ xs,Sl w No 5 x.vv x.f.b.length (bv x.f.b)
 sl:Sl w No 171 v xs.length (xs.flatMap FlX.cells)
theorem strcells_bv (l:List UInt8):Lib.strCells ⟨l.toArray⟩=bv l:=by
 unfold Lib.strCells bv;simp
def BufL (w:World) (base:Nat) (v:Value) (l:List UInt8):Prop :=
 (∃ g fz,v=.slice (some ⟨g,0,none⟩) l.length l.length/\base<=g/\w.heap[g]? = some (.cells (bv l).toArray 5 fz))\/w.ownsRow base 5 1 v l.length (bv l)
theorem BufL.len {w:World} {base:Nat} {v:Value} {l:List UInt8} (h:BufL w base v l):∃ a c,v=.slice a l.length c:=by
 rcases h with ⟨g,fz,h,-,-⟩ | h
 ·exact ⟨_,_,h⟩
 ·exact own_len h
theorem BufL.no {w w':World} {base:Nat} {v:Value} {l:List UInt8} (h:BufL w base v l) (hm:Mod No w w'):BufL w' base v l:=by
 rcases h with ⟨g,fz,h1,h2,h3⟩ | h
 ·exact .inl ⟨g,fz,h1,h2,hm.keep h3 (fun f=>f)⟩
 ·exact .inr (own_keepM h hm (fun _ _ f=>f))
theorem wpList_app_buf {ops:Array Oper} {rest:List Oper} {o:Oper} {a:Act} {Q:Exit->Act->World->Prop} (w:World) (hgd:o.guard=none) (s x:Operand)
  (ho:o.op=.call { callee:=.builtin .append,args:=#[s,x],argTypes:=#[76,76] }) (base:Nat) (v:Value) (l:List UInt8) (hs:a.eval s=v) (h:BufL w base v l) (hl:l.length<=1000000)
  (g:Nat) (d:Value) (hd:d.oneCell'=true) (hx:a.eval x=.slice (some ⟨g,0,none⟩) 1 1) (hg:w.heap[g]? = some (.cells #[d] 5 (0,0))) (hbase:base<=w.heap.size)
  (hk:∀ v' w',w'.ownsRow base 5 1 v' (l.length+1) (bv l++[d])->Mod (fun q=>base<=q) w w'->wpList prog ops Q rest (a.put o.dst v') w'):wpList prog ops Q (o :: rest) a w:=by
 obtain ⟨i0,hi0,hz0,hz1,hz2⟩:=info_parts info_byte;rcases h with ⟨gs,fz,hv,hgb,hh⟩ | h
 ·refine wpList_plain hgd fun K hK=>?_
  refine wp_app_full w s x 76 ho base 5 i0 _ 1 1 underlying76 hi0 hz0 hz1 hz2 rfl v l.length (bv l) hs (.inr ⟨⟨gs,0,none⟩,hv,by simp,fun j u hj=>?_⟩) ⟨g,0,none⟩ 1 1 [d] hx (by omega) rfl (fun j u hj=>?_) (by unfold maxLen;omega) (by omega) hbase fun v' w' h1 h2=>hK _ _ (hk v' w' h1 (h2.weaken (fun _ _ f=>f.elim)))
  ·rw [Addr.add_lit,Nat.zero_add];exact cell_of hh hj
  ·rw [Addr.add_lit,Nat.zero_add];exact cell_ofA hg (by simpa using hj)
 ·exact app_sl w hgd s x 76 ho base 5 i0 _ 1 1 underlying76 hi0 hz0 hz1 hz2 rfl (by decide) v l.length (bv l) hs h No 5 (.slice (some ⟨g,0,none⟩) 1 1) 1 [d] hx (.inr ⟨g,0,1,_,(0,0),rfl,Nat.le_refl _,by unfold maxLen;omega,fun f=>f,hg,by simp,fun i hi=>by simp⟩) rfl (fun u hu=>by rw [List.mem_singleton.1 hu];exact hd) (by unfold maxLen;omega) (by omega) hbase fun v' w' h1 h2 _=>hk v' w' h1 (Mod.of_grown h2 (fun q e _=>own_base h e))
theorem pack_any (xs:List FlX) (v:Value) (w:World) (h:FlsAt w v xs) (hp:∀ x ∈ xs,x.f.path.length<=60000) (hlen:(packA (xs.map FlX.f)).length<=900000) :
  Calls prog 44 #[v] w fun e w'=>∃ v',e=.returned v'/\w'.ownsRow w.heap.size 5 1 v' (packA (xs.map FlX.f)).length (bv (packA (xs.map FlX.f)))/\Mod No w w':=by
 refine calls_hide fun R hR=>?_
 obtain ⟨i0,hi0,hz0,hz1,hz2⟩:=info_parts info_byte;have HI:=zh (And.intro hi0 (And.intro hz0 (And.intro hz1 hz2)));have HE:=zh h.each;have HS:=zh h.sl;have HP:=zh hp;have HPA:=zh (show packA (xs.map FlX.f)=pakT++((xs.map FlX.f).flatMap packF++[255]) from rfl);have HTK:=zh (show ∀ k (hk:k < xs.length),pakT++((xs.map FlX.f).take (k+1)).flatMap packF=pakT++((xs.map FlX.f).take k).flatMap packF++packF xs[k].f from fun k hk=>by
  rw [List.take_succ_eq_append_getElem (by rw [List.length_map];exact hk),List.flatMap_append,<- List.append_assoc,List.getElem_map];simp)
 have HLE:=zh (show ∀ k,(pakT++((xs.map FlX.f).take k).flatMap packF).length+1<=900000 from fun k=>by
  refine Nat.le_trans ?_ hlen
  rw [HPA.out];conv=>rhs;rw [<- List.take_append_drop k (xs.map FlX.f)]
  rw [List.flatMap_append];simp only [List.length_append,List.length_singleton];omega)
 have HFI:=zh (show pakT++((xs.map FlX.f).take xs.length).flatMap packF++[255]=packA (xs.map FlX.f) by
  rw [show xs.length=(xs.map FlX.f).length by rw [List.length_map],List.take_length,List.append_assoc];rfl)
 obtain ⟨va,vc,rfl⟩:=h.sl.len;clear hi0 hz0 hz1 hz2 h hp hlen;obtain ⟨n,hn⟩:∃ n,n=xs.length:=⟨_,rfl⟩
 have HN:=zh hn;rw [<- hn] at HS HFI;rw [<- hn];clear hn;have hn6:n<=900000:=by
  have h1:=HLE.out n;have h2:n<=(((xs.map FlX.f).take n).flatMap packF).length:=by
   have h3:∀ l:List Fl,l.length<=(l.flatMap packF).length:=by
    intro l;induction l with
    | nil=>simp
    | cons f l ih =>
     have h5:1<=(packF f).length:=by unfold packF;rw [List.length_cons];omega
     rw [List.flatMap_cons,List.length_append,List.length_cons];omega
   have h4:=h3 ((xs.map FlX.f).take n);rw [List.length_take,List.length_map,<- HN.out,Nat.min_self] at h4;exact h4
  rw [List.length_append] at h1;omega
 obtain ⟨hi0,hz0,hz1,hz2⟩:=HI.out;go_enter func44,ntmps44
 have hcv:(convert 76 76 (.slice (some ⟨w.heap.size,0,none⟩) 4 4)).run prog (w.alloc (.cells #[.int .u8 80,.int .u8 65,.int .u8 75,.int .u8 49] 5))=.ok (.slice (some ⟨w.heap.size,0,none⟩) 4 4) (w.alloc (.cells #[.int .u8 80,.int .u8 65,.int .u8 75,.int .u8 49] 5 (4,5))) :=
  Go.Lib.run_convert_bytes_const (P:=prog) w 76 5 #[.int .u8 80,.int .u8 65,.int .u8 75,.int .u8 49] 4 4 underlying76 underlying5
 go_wp2_with fail
 generalize hw1:World.alloc w _=w1;have HM1:=zh (show Mod No w w1 by rw [<- hw1];exact (Mod.refl No w).alloc _);have HB1:=zh (show BufL w1 w.heap.size (.slice (some ⟨w.heap.size,0,none⟩) 4 4) pakT from .inl ⟨w.heap.size,(4,5),rfl,Nat.le_refl _,by rw [<- hw1];exact heap_alloc_new w _⟩);clear hw1 hcv;go_loopw [3,4] (fun q3 q4 wr=>∃ (k:Nat) (u:Value),k<=n/\q4=.int .i64 (k:Int)/\q3=u/\BufL wr w.heap.size u (pakT++((xs.map FlX.f).take k).flatMap packF)/\Mod No w wr) (fun _ q _=>n - (intOf q).toNat)
 case atStart=>exact ⟨0,_,by omega,rfl,rfl,by simpa using HB1.out,HM1.out⟩
 case round =>
  obtain ⟨k,u,hk,rfl,rfl,hown,hm⟩:=hrel;have HM:=zh hm;have HO:=zh hown;have hk0:(0:Int)<=(k:Int):=Int.natCast_nonneg _;obtain ⟨ua,uc,rfl⟩:=hown.len;clear hm hown;by_cases hlt:k < n
  ·have hk1:(k:Int) < (n:Int):=by omega
   have hlt2:k < xs.length:=by rw [<- HN.out];exact hlt
   obtain ⟨b,o,c,hvs,_⟩:=HS.out.shape (by omega);cases hvs
   have HRG:=zh (show ∀ W,Mod No w W->W.rangeAt b (o+k*3) (FlX.cells xs[k]) from fun W hW=>hW.rangeAt (Sl.at FlX.cells_length HS.out hlt2) (fun f=>f));have HXB:=zh (HE.out _ (List.getElem_mem hlt2));have hxp:=HP.out _ (List.getElem_mem hlt2);have HTX:=zh (HTK.out k hlt2);have hle:=HLE.out (k+1);rw [HTX.out,List.length_append] at hle;generalize xs[k]=x at *;generalize pakT++((xs.map FlX.f).take k).flatMap packF=T at *;have HTP:=zh (show x.f.path.take 65535=x.f.path from List.take_of_length_le (by omega));have HPF:=zh (show packF x.f=(if x.f.dir then 1 else 0) :: (numB8 x.f.path.length 2++(x.f.path++(if x.f.dir then [] else numB8 x.f.b.length 8++x.f.b))) by unfold packF;rw [HTP.out]);have hsz:((⟨x.f.path.toArray⟩:ByteArray).size:Int)=(x.f.path.length:Int):=by rw [str_len3]
   have hszn:(⟨x.f.path.toArray⟩:ByteArray).size=x.f.path.length:=str_len3 _;have h0:=HRG.out wr HM.out 0 (strV x.f.path) rfl;have h1:=HRG.out wr HM.out 1 (.bool x.f.dir) rfl;rw [Nat.add_zero] at h0;obtain ⟨dr,hdr⟩:∃ dr,dr=x.f.dir:=⟨_,rfl⟩
   have HD:=zh (show FlX.cells x=[strV x.f.path,.bool dr,x.vv] by rw [hdr];rfl);rw [<- hdr] at h1 HPF;have hng:¬ ((65535:Int) < (x.f.path.length:Int)):=by omega
   have hwp:IntKind.u64.wrap (x.f.path.length:Int)=(x.f.path.length:Int):=by rw [IntKind.wrap_u64];omega
   have hTl:T.length<=900000:=by omega
   have h2:=HRG.out wr HM.out 2 x.vv rfl;obtain ⟨sa,sc,hsv⟩:=HXB.out.len;obtain ⟨sm,hsm⟩:∃ sm,sm=x.f.b.length:=⟨_,rfl⟩
   have HSL:=zh (show x.f.b.length=sm from hsm.symm);have HB1x:=zh hsz;unfold strV at *;clear hdr;rcases dr with _ | _
   ·have HFX:=zh (show ((T++[0])++numB8 x.f.path.length 2++x.f.path)++numB8 sm 8++x.f.b=T++packF x.f by rw [HPF.out,HSL.out];simp);have hls:x.f.b.length+11<=900000:=by
     rw [HPF.out] at hle;simp only [Bool.false_eq_true,if_false,List.length_cons,List.length_append,numB8_length] at hle;omega
    have hsm2:sm<=900000:=by omega
    have hpb:T.length+x.f.path.length+sm+11<=900000:=by
     rw [HPF.out] at hle;simp only [Bool.false_eq_true,if_false,List.length_cons,List.length_append,numB8_length] at hle;omega
    clear hle hsm;have HO1:=zh (HO.out.no ((Mod.refl No wr).alloc (.cells #[.int .u8 0] 5)));have HB1:=zh (show w.heap.size<=(wr.alloc (.cells #[.int .u8 0] 5)).heap.size from Nat.le_trans HM.out.size ((Mod.refl No wr).alloc _).size);have HPX:=zh (HPF.out);clear HPF HB1x;go_wp2_with (at_builtin;refine wpList_app_buf _ rfl _ _ rfl w.heap.size _ T rfl HO1.out (by omega) wr.heap.size (.int .u8 0) rfl rfl (heap_alloc_new wr _) HB1.out ?_;intro v7 w7 hown7 hm7;have HO7:=zh hown7;have HM7:=zh hm7;clear hown7 hm7)
    have HO8:=zh (show w7.ownsRow w.heap.size 5 1 v7 (T++[0]).length (bv (T++[0])) by rw [List.length_append,bv_append];exact HO7.out);have HM8:=zh (show Mod (fun q=>w.heap.size<=q) w w7 from ((HM.out.alloc _).weaken (fun _ _ f=>f.elim)).trans HM7.out);have HNU:=zh (show Calls prog 80 #[v7,.int .u64 (x.f.path.length:Int),.int .i64 2] w7 _ from ref7num_any x.f.path.length 2 (by omega) w.heap.size (T++[0]) (by rw [List.length_append,List.length_singleton];omega) v7 w7 HM8.out.size HO8.out);clear HO7 HO1;with_reducible refine HNU.out.mono ?_
    rintro e w8 ⟨v8,rfl,hown8,hm8⟩;have HO9:=zh hown8;have HM9:=zh (HM8.out.trans hm8);have hl9:((T++[0])++numB8 x.f.path.length 2).length=T.length+3:=by rw [List.length_append,List.length_append,numB8_length,List.length_singleton]
    clear hown8 hm8 HNU HO8;go_upto_region 12 with (at_builtin;refine Lib.wpList_append_own_string _ rfl _ _ 76 9 rfl w.heap.size 5 i0 underlying76 underlying9 hi0 hz0 hz1 hz2 v8 _ _ rfl HO9.out ⟨x.f.path.toArray⟩ rfl (by rw [hl9,hszn];unfold maxLen;omega) (by rw [hl9,hszn];omega) HM9.out.size ?_;intro v5 w5 hown5 hg5 _;have HOs:=zh hown5;have HG5:=zh hg5;clear hown5 hg5)
    have HO5:=zh (show w5.ownsRow w.heap.size 5 1 v5 ((T++[0])++numB8 x.f.path.length 2++x.f.path).length (bv ((T++[0])++numB8 x.f.path.length 2++x.f.path)) by
     have h9:=HOs.out;rw [hszn,strcells_bv] at h9;rw [List.length_append,bv_append];exact h9)
    have HM5:=zh (show Mod (fun q=>w.heap.size<=q) w w5 from HM9.out.trans (Mod.of_grown HG5.out (fun q e _=>own_base HO9.out e)));have HM5N:=zh (show Mod No w w5 from (Mod.refl No w).then HM5.out (fun q hq e=>absurd e (by omega)));clear HOs HG5 HO9 HM9;obtain ⟨L5,hL5⟩:∃ L5,L5=(T++[0])++numB8 x.f.path.length 2++x.f.path:=⟨_,rfl⟩
    have hl5:L5.length=T.length+3+x.f.path.length:=by rw [hL5,List.length_append,hl9]
    rw [<- hL5] at HO5 HFX;clear hL5;have hwl:IntKind.u64.wrap (sm:Int)=(sm:Int):=by rw [IntKind.wrap_u64];omega
    have h1b:=HRG.out w5 HM5N.out 1 (.bool false) (by rw [HD.out];rfl);go_upto_region 13 with fail
    obtain ⟨wD,hwD⟩:∃ y,y=w5.drew:=⟨_,rfl⟩
    have hmD:Mod No w5 wD:=by rw [hwD];exact (Mod.refl No w5).drew
    have HMD:=zh (show Mod No w wD from HM5N.out.trans hmD);have HO5:=zh (own_keepM HO5.out hmD (fun _ _ f=>f));have HSM:=zh (show ∀ w',Mod (fun q=>w.heap.size<=q) wD w'->w'.cell? ⟨b,o+k*3+2,none⟩=some (.slice sa sm sc) from fun w' h=>by
     have h9:=HRG.out w' ((Mod.refl No w).then (show Mod (fun q=>w.heap.size<=q) w w' from (HMD.out.weaken (fun _ _ f=>f.elim)).trans h) (fun q hq e=>absurd e (by omega))) 2 x.vv rfl;rw [hsv,HSL.out] at h9;exact h9)
    have HSB:=zh (show ∀ w',Mod (fun q=>w.heap.size<=q) wD w'->Sl w' No 5 (.slice sa sm sc) sm (bv x.f.b) from fun w' h=>by
     have h9:=HXB.out.keep ((Mod.refl No w).then (show Mod (fun q=>w.heap.size<=q) w w' from (HMD.out.weaken (fun _ _ f=>f.elim)).trans h) (T:=fun q=>w.heap.size<=q) (S:=No) (fun q hq e=>absurd e (by omega))) (fun _ _ _ f=>f.elim);rw [hsv,HSL.out] at h9;exact h9)
    have HWD:=zh hwD;have hS0:=Mod.refl (fun q=>w.heap.size<=q) wD;clear hwD hmD h1b;refine wp_region_T (fun w'=>Mod (fun q=>w.heap.size<=q) wD w') 99 (by kernel_rfl) ?_;rw [<- HWD.out];refine yS 0 46 hS0 ?_;refine yS 1 47 hS0 ?_;refine yS 2 48 hS0 ?_;refine yS 3 49 hS0 ?_;refine yS 4 50 hS0 ?_;refine yT 5 (some 51) (.slice sa sm sc) hS0 ?_ ?_
    ·(intro w' hSw;have q0:=HSM.out w' hSw;go_simp;try with_reducible rfl)
    simp only [Act.put,yB,yC,yD];refine yS 6 52 hS0 ?_;refine yT 7 (some 53) (.int .u64 (sm:Int)) hS0 ?_ ?_
    ·(intro w' hSw;go_simp;try rfl)
    simp only [Act.put,yB,yC,yD];refine yS 9 55 hS0 ?_;refine yS 10 56 hS0 ?_;refine yS 11 57 hS0 ?_;refine yS 12 58 hS0 ?_;refine yT 13 (some 59) (.slice sa sm sc) hS0 ?_ ?_
    ·(intro w' hSw;have q0:=HSM.out w' hSw;go_simp;try with_reducible rfl)
    simp only [Act.put,yB,yC,yD];refine wpAnyT_one 8 rfl (by kernel_rfl) rfl ?_;intro K hK;go_simp
    go_at_call 80
    have HNU:=zh (show Calls prog 80 #[v5,.int .u64 (sm:Int),.int .i64 8] wD _ from ref7num_any sm 8 (by omega) w.heap.size L5 (by omega) v5 wD HMD.out.size HO5.out);with_reducible refine HNU.out.mono ?_
    rintro e wE ⟨v6,rfl,hown6,hmE⟩;have HO6:=zh hown6;have HME:=zh hmE;clear hown6 hmE;show K _ _
    have hS1:=HME.out;refine hK.out _ _ (fun _=>hS1) ?_;clear hK K;refine wpAnyT_one 14 rfl (by kernel_rfl) rfl ?_;intro K hK;refine wp_app_sl wE (.tmp 54) (.tmp 59) 76 (by rfl) w.heap.size 5 i0 _ 1 1 underlying76 hi0 hz0 hz1 hz2 rfl (by decide) v6 (L5++numB8 sm 8).length (bv (L5++numB8 sm 8)) (by rfl) HO6.out No 5 (.slice sa sm sc) sm (bv x.f.b) (by rfl) (HSB.out wE HME.out) (by rw [bv_length,HSL.out];omega) (bv_one _) (by rw [List.length_append,numB8_length];unfold maxLen;omega) (by rw [List.length_append,numB8_length];omega) (Nat.le_trans HMD.out.size HME.out.size) ?_;intro v7 w7 hown7 hg7 _;have HO7:=zh hown7;have HM7:=zh (show Mod (fun q=>w.heap.size<=q) wD w7 from HME.out.trans (Mod.of_grown hg7 (fun q e _=>own_base HO6.out e)));clear hown7 hg7;show K _ _
    have hS2:=HM7.out;refine hK.out _ _ (fun _=>hS2) ?_;clear hK K;refine yT 15 (some 3) ?_ hS2 ?_ ?_;rotate_left
    ·(intro w' hSw;go_simp;try with_reducible rfl)
    simp only [Act.put];refine wpAnyT_done (by kernel_rfl) ?_ _
    clear hS0 hS1 hS2;go_wp2_with fail
    refine ⟨⟨k+1,v7,by omega,rfl,rfl,.inr ?_,HMD.out.then HM7.out (fun q hq e=>absurd e (by omega))⟩,by show n - ((k:Int)+1).toNat < n - (k:Int).toNat;omega⟩
    have h9:=HO7.out;rw [<- bv_append,HFX.out] at h9;have h8:(L5++numB8 sm 8).length+sm=(T++packF x.f).length:=by rw [<- HFX.out,List.length_append (bs:=x.f.b),HSL.out]
    rw [h8] at h9;rw [HTX.out];exact h9
   ·have HFX:=zh (show ((T++[1])++numB8 x.f.path.length 2++x.f.path)=T++packF x.f by rw [HPF.out];simp);have hpb:T.length+x.f.path.length+3<=900000:=by
     rw [HPF.out] at hle;simp only [if_true,List.length_cons,List.length_append,numB8_length] at hle;omega
    clear hle hsm;have HO1:=zh (HO.out.no ((Mod.refl No wr).alloc (.cells #[.int .u8 1] 5)));have HB1:=zh (show w.heap.size<=(wr.alloc (.cells #[.int .u8 1] 5)).heap.size from Nat.le_trans HM.out.size ((Mod.refl No wr).alloc _).size);have HPX:=zh (HPF.out);clear HPF HB1x;go_wp2_with (at_builtin;refine wpList_app_buf _ rfl _ _ rfl w.heap.size _ T rfl HO1.out (by omega) wr.heap.size (.int .u8 1) rfl rfl (heap_alloc_new wr _) HB1.out ?_;intro v7 w7 hown7 hm7;have HO7:=zh hown7;have HM7:=zh hm7;clear hown7 hm7)
    have HO8:=zh (show w7.ownsRow w.heap.size 5 1 v7 (T++[1]).length (bv (T++[1])) by rw [List.length_append,bv_append];exact HO7.out);have HM8:=zh (show Mod (fun q=>w.heap.size<=q) w w7 from ((HM.out.alloc _).weaken (fun _ _ f=>f.elim)).trans HM7.out);have HNU:=zh (show Calls prog 80 #[v7,.int .u64 (x.f.path.length:Int),.int .i64 2] w7 _ from ref7num_any x.f.path.length 2 (by omega) w.heap.size (T++[1]) (by rw [List.length_append,List.length_singleton];omega) v7 w7 HM8.out.size HO8.out);clear HO7 HO1;with_reducible refine HNU.out.mono ?_
    rintro e w8 ⟨v8,rfl,hown8,hm8⟩;have HO9:=zh hown8;have HM9:=zh (HM8.out.trans hm8);have hl9:((T++[1])++numB8 x.f.path.length 2).length=T.length+3:=by rw [List.length_append,List.length_append,numB8_length,List.length_singleton]
    clear hown8 hm8 HNU HO8;go_upto_region 12 with (at_builtin;refine Lib.wpList_append_own_string _ rfl _ _ 76 9 rfl w.heap.size 5 i0 underlying76 underlying9 hi0 hz0 hz1 hz2 v8 _ _ rfl HO9.out ⟨x.f.path.toArray⟩ rfl (by rw [hl9,hszn];unfold maxLen;omega) (by rw [hl9,hszn];omega) HM9.out.size ?_;intro v5 w5 hown5 hg5 _;have HOs:=zh hown5;have HG5:=zh hg5;clear hown5 hg5)
    have HO5:=zh (show w5.ownsRow w.heap.size 5 1 v5 ((T++[1])++numB8 x.f.path.length 2++x.f.path).length (bv ((T++[1])++numB8 x.f.path.length 2++x.f.path)) by
     have h9:=HOs.out;rw [hszn,strcells_bv] at h9;rw [List.length_append,bv_append];exact h9)
    have HM5:=zh (show Mod (fun q=>w.heap.size<=q) w w5 from HM9.out.trans (Mod.of_grown HG5.out (fun q e _=>own_base HO9.out e)));have HM5N:=zh (show Mod No w w5 from (Mod.refl No w).then HM5.out (fun q hq e=>absurd e (by omega)));clear HOs HG5 HO9 HM9;have h1b:=HRG.out w5 HM5N.out 1 (.bool true) (by rw [HD.out];rfl);go_wp2_with fail
    refine ⟨⟨k+1,v5,by omega,rfl,rfl,.inr ?_,HM5N.out⟩,by show n - ((k:Int)+1).toNat < n - (k:Int).toNat;omega⟩
    have h9:=HO5.out;rw [HFX.out] at h9;rw [HTX.out];exact h9
  ·obtain rfl:k=n:=by omega
   have hk1:¬ ((k:Int) < (k:Int)):=by omega
   have HFIN:=zh (show pakT++((xs.map FlX.f).take k).flatMap packF++[255]=packA (xs.map FlX.f) from HFI.out);have hle:=HLE.out k;generalize pakT++((xs.map FlX.f).take k).flatMap packF=T at *;have HO1:=zh (HO.out.no ((Mod.refl No wr).alloc (.cells #[.int .u8 255] 5)));have HB1:=zh (show w.heap.size<=(wr.alloc (.cells #[.int .u8 255] 5)).heap.size from Nat.le_trans HM.out.size ((Mod.refl No wr).alloc _).size);go_wp2_with (at_builtin;refine wpList_app_buf _ rfl _ _ rfl w.heap.size _ T rfl HO1.out (by omega) wr.heap.size (.int .u8 255) rfl rfl (heap_alloc_new wr _) HB1.out ?_;intro v7 w7 hown7 hm7;have HO7:=zh hown7;have HM7:=zh hm7;clear hown7 hm7)
   refine fin hR ⟨v7,rfl,?_,(HM.out.alloc _).then HM7.out (fun q hq e=>absurd e (by omega))⟩
   rw [<- HFIN.out,List.length_append,bv_append];exact HO7.out
end Go.Proofs.YticfcmdjplmaeaaGreatDoor
