/-
  Layers 0 to 14: helps of the laws of indexes. No statement is proved here; no condition.
-/
import Derived.Test.YticfcmdjplmaeaaGreatDoorX00
import Derived.Test.YticfcmdjplmaeaaGreatDoorX03
import Derived.LaidEql
import Derived.Stop.Asserts
import Derived.RowKitTokens
set_option maxRecDepth 100000
set_option maxHeartbeats 64000000
namespace Go.Proofs.YticfcmdjplmaeaaGreatDoor
open _root_.Go.Proofs.Tryz
open Go.RowKit Go.Extern.Stop Go.Stop Go.Extern
theorem rlm (z:Sem Value) (f:TypeId->Addr->Nat->Nat->Sem Value) (v:Value) :
  ReflectliteValue.method z f #[v]=(do match ← ReflectliteValue.parts v with | none=>z | some (t,a,fl)=>f t a fl (fl % 32)):=rfl
theorem rls (v x:Value):ReflectliteValue.set #[v,x]=(do
  let (some (dst,a,fl),some (src,b,_)):=(← ReflectliteValue.parts v,<- ReflectliteValue.parts x)
   | unsupported (.noEntry "extern/(internal/reflectlite.Value).Set.zeroValue")
  if fl / ReflectliteValue.flagAddr % 2 == 0 then unsupported (.noEntry "extern/(internal/reflectlite.Value).Set.unaddressable")
  let val ← loadVar src b
  if ← Rtype.directlyAssignable dst src then storeVar dst a val
  else if ← Rtype.implements dst src then
   if (← Rtype.kind src) == 20 then
    match val with
    | .nilIface => unsupported (.noEntry "extern/reflectlite: a nil value of one interface type handed on as a value of another")
    | _=>storeVar dst a val
   else storeVar dst a (.iface src val)
  else panicString ("reflectlite.Set: value of type " ++ (← Rtype.spelt src) ++ " is not assignable to type " ++ (← Rtype.spelt dst))
  pure (.tuple #[])):=rfl
theorem methodKind (h : Value) (w : World) : (Go.method 541 217 (.agg #[h]) "Kind").run prog w = .ok (349, h) w := by kernel_rfl
theorem methodElem (h : Value) (w : World) : (Go.method 541 217 (.agg #[h]) "Elem").run prog w = .ok (361, .agg #[h]) w := by kernel_rfl
theorem methodImplements (h : Value) (w : World) : (Go.method 541 217 (.agg #[h]) "Implements").run prog w = .ok (362, .agg #[h]) w := by kernel_rfl
theorem methodAssignableTo (h : Value) (w : World) : (Go.method 541 217 (.agg #[h]) "AssignableTo").run prog w = .ok (359, .agg #[h]) w := by kernel_rfl
theorem as_nil (t:Value) (w:World):Calls prog 31 #[.nilIface,t] w fun e w'=>e=.returned (.bool false)/\w'=w:=by
 go_enter func31,ntmps31
 go_wp2
 go_ret
 exact ⟨rfl,rfl⟩
def ErrTy (w:World):Prop:=w.cell? ⟨0,0,none⟩=some (.iface 217 (.agg #[.pointer (some ⟨9,29,none⟩)]))
theorem ErrTy.keep {S:Nat->Prop} {w w':World} (h:ErrTy w) (hm:Mod S w w') (hs:¬ S 0):ErrTy w':=hm.cell h hs
theorem valueOfPC (t:Addr) (w:World):(ReflectliteValue.unpack (.iface 332 (.pointer (some t)))).run prog w
  = .ok (.agg #[.pointer (some ⟨9,332,none⟩),.pointer (some ⟨w.heap.size,0,none⟩),.int .u64 150]) (w.alloc (.cells #[.pointer (some t)] 332)):=by kernel_rfl
theorem typePC (a : Addr) (w : World) : (ReflectliteValue.methodAny (ReflectliteValue.valueError "reflectlite.Value.Type" 0) (fun t _ _ _ => ReflectliteType.toType t) #[.agg #[.pointer (some ⟨9, 332, none⟩), .pointer (some a), .int .u64 150]]).run prog w
  = .ok (.iface 217 (.agg #[.pointer (some ⟨9,332,none⟩)])) w:=by kernel_rfl
theorem kindPC (w:World):((ReflectliteType.abiMethod fun t=>(fun a:Nat=>Value.int IntKind.u8 (a:Int)) <$> Rtype.kind t) #[.pointer (some ⟨9,332,none⟩)]).run prog w=.ok (.int .u8 22) w:=by kernel_rfl
theorem kindTC (w:World):((ReflectliteType.abiMethod fun t=>(fun a:Nat=>Value.int IntKind.u8 (a:Int)) <$> Rtype.kind t) #[.pointer (some ⟨9,331,none⟩)]).run prog w=.ok (.int .u8 22) w:=by kernel_rfl
theorem partsPC (a:Addr) (w:World):(ReflectliteValue.parts (.agg #[.pointer (some ⟨9,332,none⟩),.pointer (some a),.int .u64 150])).run prog w=.ok (some (332,a,150)) w:=by kernel_rfl
theorem isNilPC (a p:Addr) (W:World) (ha:W.cell? a=some (.pointer (some p))) :
  (ReflectliteValue.method (ReflectliteValue.valueError "reflectlite.Value.IsNil" 0) ReflectliteValue.isNil #[.agg #[.pointer (some ⟨9, 332, none⟩), .pointer (some a), .int .u64 150]]).run prog W = .ok (.bool false) W := by
 rw [rlm];simp only [Sem.run_bind,partsPC,Result.andThen];simp [ReflectliteValue.isNil,loadVar,isAgg,underlying,underlying332,ha,Result.andThen]
theorem elemPC (w:World):(ReflectliteType.method ReflectliteType.elem #[.agg #[.pointer (some ⟨9,332,none⟩)]]).run prog w=.ok (.iface 217 (.agg #[.pointer (some ⟨9,331,none⟩)])) w:=by kernel_rfl
theorem implementsTC (w : World) : (ReflectliteType.relation "Implements" ReflectliteType.implements_ #[.agg #[.pointer (some ⟨9, 331, none⟩)], .iface 217 (.agg #[.pointer (some ⟨9, 29, none⟩)])]).run prog w = .ok (.bool true) w := by kernel_rfl
theorem typeOfTC (v:Value) (w:World):(ReflectliteType.typeOf #[.iface 331 v]).run prog w=.ok (.iface 217 (.agg #[.pointer (some ⟨9,331,none⟩)])) w:=by kernel_rfl
theorem assignableTC (w : World) : (ReflectliteType.relation "AssignableTo" ReflectliteType.assignableTo #[.agg #[.pointer (some ⟨9, 331, none⟩)], .iface 217 (.agg #[.pointer (some ⟨9, 331, none⟩)])]).run prog w = .ok (.bool true) w := by kernel_rfl
theorem valueOfTC (e:Addr) (w:World):(ReflectliteValue.unpack (.iface 331 (.pointer (some e)))).run prog w
  = .ok (.agg #[.pointer (some ⟨9,331,none⟩),.pointer (some ⟨w.heap.size,0,none⟩),.int .u64 150]) (w.alloc (.cells #[.pointer (some e)] 331)):=by kernel_rfl
theorem elemOfPC (w:World):(Rtype.elem? 332).run prog w=.ok (some 331) w:=by kernel_rfl
theorem mkTC (p:Addr) (w:World):(ReflectliteValue.mk 331 p ReflectliteValue.flagAddr).run prog w=.ok (.agg #[.pointer (some ⟨9,331,none⟩),.pointer (some p),.int .u64 406]) w:=by kernel_rfl
theorem elemVPC (a p:Addr) (W:World) (ha:W.cell? a=some (.pointer (some p))) :
  (ReflectliteValue.method (ReflectliteValue.valueError "reflectlite.Value.Elem" 0) ReflectliteValue.elem #[.agg #[.pointer (some ⟨9, 332, none⟩), .pointer (some a), .int .u64 150]]).run prog W = .ok (.agg #[.pointer (some ⟨9, 331, none⟩), .pointer (some p), .int .u64 406]) W := by
 rw [rlm];simp only [Sem.run_bind,partsPC,Result.andThen];simp [ReflectliteValue.elem,loadVar,isAgg,underlying,underlying332,ha,Result.andThen,elemOfPC,mkTC]
theorem partsTaC (a:Addr) (w:World):(ReflectliteValue.parts (.agg #[.pointer (some ⟨9,331,none⟩),.pointer (some a),.int .u64 406])).run prog w=.ok (some (331,a,406)) w:=by kernel_rfl
theorem partsTC (a:Addr) (w:World):(ReflectliteValue.parts (.agg #[.pointer (some ⟨9,331,none⟩),.pointer (some a),.int .u64 150])).run prog w=.ok (some (331,a,150)) w:=by kernel_rfl
theorem directTC (w:World):(Rtype.directlyAssignable 331 331).run prog w=.ok true w:=by kernel_rfl
theorem setTC (ta b:Addr) (e:Addr) (old:Value) (W:World) (hb:W.cell? b=some (.pointer (some e))) (ht:W.cell? ta=some old) (hf:W.frozen? ta=false) :
  (ReflectliteValue.set #[.agg #[.pointer (some ⟨9,331,none⟩),.pointer (some ta),.int .u64 406],.agg #[.pointer (some ⟨9,331,none⟩),.pointer (some b),.int .u64 150]]).run prog W=.ok (.tuple #[]) (W.setCell ta (.pointer (some e))):=by
 rw [rls];simp only [Sem.run_bind,partsTaC,partsTC,Result.andThen];simp [ReflectliteValue.flagAddr,loadVar,isAgg,underlying,underlying331,hb,Result.andThen,directTC,storeVar,Value.cells,storeCells,Addr.add]
 rw [run_store prog W ta _ _ (by rfl)];simp [ht,hf]
theorem as_hitC (e:Addr) (t:Addr) (old:Value) (w:World) (hg:ErrTy w) (ht0:w.cell? t=some old) (hf0:w.frozen? t=false) :
  Calls prog 31 #[.iface 331 (.pointer (some e)),.iface 332 (.pointer (some t))] w fun ev w'=>ev=.returned (.bool true)/\w'=((((w.alloc (.cells #[.pointer (some t)] 332)).alloc (.cells #[.pointer (some ⟨9,332,none⟩),.pointer (some ⟨w.heap.size,0,none⟩),.int .u64 150] 153)).alloc (.cells #[.pointer (some ⟨9,332,none⟩),.pointer (some ⟨w.heap.size,0,none⟩),.int .u64 150] 153)).alloc (.cells #[.pointer (some e)] 331)).setCell t (.pointer (some e)):=by
 have h6:=@run_callFunc_extern prog 74 _ (fun args=>ReflectliteValue.unpack (args.getD 0 (.tuple #[]))) func74 (by kernel_rfl) (by kernel_rfl) (by kernel_rfl) (by kernel_rfl);have h7 := @run_callFunc_extern prog 75 _ (ReflectliteValue.methodAny (ReflectliteValue.valueError "reflectlite.Value.Type" 0) (fun t _ _ _ => ReflectliteType.toType t)) func75 (by kernel_rfl) (by kernel_rfl) (by kernel_rfl) (by kernel_rfl);have h8 := @run_callFunc_extern prog 76 _ (ReflectliteValue.method (ReflectliteValue.valueError "reflectlite.Value.IsNil" 0) ReflectliteValue.isNil) func76 (by kernel_rfl) (by kernel_rfl) (by kernel_rfl) (by kernel_rfl);have h27:=@run_callFunc_extern prog 349 _ (ReflectliteType.abiMethod fun t=>do pure (.int .u8 (← Rtype.kind t))) func349 (by kernel_rfl) (by kernel_rfl) (by kernel_rfl) (by kernel_rfl);have h37:=@run_callFunc_extern prog 361 _ (ReflectliteType.method ReflectliteType.elem) func361 (by kernel_rfl) (by kernel_rfl) (by kernel_rfl) (by kernel_rfl);have h38 := @run_callFunc_extern prog 362 _ (ReflectliteType.relation "Implements" ReflectliteType.implements_) func362 (by kernel_rfl) (by kernel_rfl) (by kernel_rfl) (by kernel_rfl);have h10:=@run_callFunc_extern prog 126 _ (ReflectliteType.typeOf) func126 (by kernel_rfl) (by kernel_rfl) (by kernel_rfl) (by kernel_rfl);have h35 := @run_callFunc_extern prog 359 _ (ReflectliteType.relation "AssignableTo" ReflectliteType.assignableTo) func359 (by kernel_rfl) (by kernel_rfl) (by kernel_rfl) (by kernel_rfl);have h11 := @run_callFunc_extern prog 127 _ (ReflectliteValue.method (ReflectliteValue.valueError "reflectlite.Value.Elem" 0) ReflectliteValue.elem) func127 (by kernel_rfl) (by kernel_rfl) (by kernel_rfl) (by kernel_rfl);have h12:=@run_callFunc_extern prog 128 _ (ReflectliteValue.set) func128 (by kernel_rfl) (by kernel_rfl) (by kernel_rfl) (by kernel_rfl);have tO:=typeOfTC;have mA:=methodAssignableTo;have a25:=assignableTC;have v25:=valueOfTC;have f6:=valueOfPC;have f7:=typePC;have mK:=methodKind;have mE:=methodElem;have mI:=methodImplements;have k27:=kindPC;have k25:=kindTC;have e27:=elemPC;have i25:=implementsTC;have n8:=isNilPC ⟨w.heap.size,0,none⟩ t ((w.alloc (.cells #[.pointer (some t)] 332)).alloc (.cells #[.pointer (some ⟨9,332,none⟩),.pointer (some ⟨w.heap.size,0,none⟩),.int .u64 150] 153)) (by simp);have hlt:0 < w.heap.size:=by
  rcases Nat.eq_zero_or_pos w.heap.size with h0 | h
  ·simp [ErrTy,World.cell?,h0] at hg
  ·exact h
 have hg2:((w.alloc (.cells #[.pointer (some t)] 332)).alloc (.cells #[.pointer (some ⟨9,332,none⟩),.pointer (some ⟨w.heap.size,0,none⟩),.int .u64 150] 153)).cell? ⟨0,0,none⟩=some (.iface 217 (.agg #[.pointer (some ⟨9,29,none⟩)])):=by
  rw [World.cell?_alloc_lt _ _ ⟨0,0,none⟩ (by simp),World.cell?_alloc_lt _ _ ⟨0,0,none⟩ hlt];exact hg
 have htl:t.block < w.heap.size:=by
  rcases Nat.lt_or_ge t.block w.heap.size with h | h
  ·exact h
  ·simp [World.cell?,Array.getElem?_eq_none h] at ht0
 have el:=elemVPC ⟨w.heap.size,0,none⟩ t (((w.alloc (.cells #[.pointer (some t)] 332)).alloc (.cells #[.pointer (some ⟨9,332,none⟩),.pointer (some ⟨w.heap.size,0,none⟩),.int .u64 150] 153)).alloc (.cells #[.pointer (some ⟨9,332,none⟩),.pointer (some ⟨w.heap.size,0,none⟩),.int .u64 150] 153)) (by rw [World.cell?_alloc_lt _ _ ⟨w.heap.size,0,none⟩ (by simp;omega)];simp);have st:=setTC t ⟨w.heap.size+1+1+1,0,none⟩ e old ((((w.alloc (.cells #[.pointer (some t)] 332)).alloc (.cells #[.pointer (some ⟨9,332,none⟩),.pointer (some ⟨w.heap.size,0,none⟩),.int .u64 150] 153)).alloc (.cells #[.pointer (some ⟨9,332,none⟩),.pointer (some ⟨w.heap.size,0,none⟩),.int .u64 150] 153)).alloc (.cells #[.pointer (some e)] 331))
  (by rw [World.cell?_alloc_at _ _ _ _ (by simp)];rfl)
  (by rw [World.cell?_alloc_lt _ _ t (by simp;omega),World.cell?_alloc_lt _ _ t (by simp;omega),World.cell?_alloc_lt _ _ t (by simp;omega),World.cell?_alloc_lt _ _ t htl];exact ht0)
  (by rw [World.frozen?_alloc_old _ _ t (by simp;omega),World.frozen?_alloc_old _ _ t (by simp;omega),World.frozen?_alloc_old _ _ t (by simp;omega),World.frozen?_alloc_old _ _ t (Nat.ne_of_lt htl)];exact hf0)
 go_enter func31,ntmps31
 go_wp2
 refine wp_loop_rounds 1 ?_;rw [rounds_succ];go_wp2
 go_ret
 exact ⟨rfl,rfl⟩
theorem noAsC (v:Value) (xT:TypeId) (w:World):(Instr.typeAssert (.iface 163 v) xT 222 true).run prog w=.ok (.tuple #[.nilIface,.bool false]) w:=run_typeAssert_lacksB underlying222 (by kernel_rfl) (by kernel_rfl) v xT w
theorem hasUnwrapC (v:Value) (xT:TypeId) (w:World):(Instr.typeAssert (.iface 163 v) xT 225 true).run prog w=.ok (.tuple #[.iface 163 v,.bool true]) w:=run_typeAssert_hasB underlying225 (by kernel_rfl) v xT w
theorem methodUnwrapC (v : Value) (w : World) : (Go.method 541 163 v "Unwrap").run prog w = .ok (355, v) w := by kernel_rfl
theorem typeOfFC (v:Value) (w:World):(ReflectliteType.typeOf #[.iface 163 v]).run prog w=.ok (.iface 217 (.agg #[.pointer (some ⟨9,163,none⟩)])) w:=by kernel_rfl
theorem assignableFC (w : World) : (ReflectliteType.relation "AssignableTo" ReflectliteType.assignableTo #[.agg #[.pointer (some ⟨9, 163, none⟩)], .iface 217 (.agg #[.pointer (some ⟨9, 331, none⟩)])]).run prog w = .ok (.bool false) w := by kernel_rfl
theorem as_faultC (e:Addr) (fb:Nat) (s1 s2:ByteArray) (t:Addr) (old:Value) (w:World) (hg:ErrTy w) (ht0:w.cell? t=some old) (hf0:w.frozen? t=false) (hfb:w.heap[fb]? = some (.cells #[.string s1,.string s2,.iface 331 (.pointer (some e))] 165 (0,0))) :
  Calls prog 31 #[.iface 163 (.pointer (some ⟨fb,0,none⟩)),.iface 332 (.pointer (some t))] w fun ev w'=>ev=.returned (.bool true)/\w'=((((w.alloc (.cells #[.pointer (some t)] 332)).alloc (.cells #[.pointer (some ⟨9,332,none⟩),.pointer (some ⟨w.heap.size,0,none⟩),.int .u64 150] 153)).alloc (.cells #[.pointer (some ⟨9,332,none⟩),.pointer (some ⟨w.heap.size,0,none⟩),.int .u64 150] 153)).alloc (.cells #[.pointer (some e)] 331)).setCell t (.pointer (some e)):=by
 have h6:=@run_callFunc_extern prog 74 _ (fun args=>ReflectliteValue.unpack (args.getD 0 (.tuple #[]))) func74 (by kernel_rfl) (by kernel_rfl) (by kernel_rfl) (by kernel_rfl);have h7 := @run_callFunc_extern prog 75 _ (ReflectliteValue.methodAny (ReflectliteValue.valueError "reflectlite.Value.Type" 0) (fun t _ _ _ => ReflectliteType.toType t)) func75 (by kernel_rfl) (by kernel_rfl) (by kernel_rfl) (by kernel_rfl);have h8 := @run_callFunc_extern prog 76 _ (ReflectliteValue.method (ReflectliteValue.valueError "reflectlite.Value.IsNil" 0) ReflectliteValue.isNil) func76 (by kernel_rfl) (by kernel_rfl) (by kernel_rfl) (by kernel_rfl);have h27:=@run_callFunc_extern prog 349 _ (ReflectliteType.abiMethod fun t=>do pure (.int .u8 (← Rtype.kind t))) func349 (by kernel_rfl) (by kernel_rfl) (by kernel_rfl) (by kernel_rfl);have h37:=@run_callFunc_extern prog 361 _ (ReflectliteType.method ReflectliteType.elem) func361 (by kernel_rfl) (by kernel_rfl) (by kernel_rfl) (by kernel_rfl);have h38 := @run_callFunc_extern prog 362 _ (ReflectliteType.relation "Implements" ReflectliteType.implements_) func362 (by kernel_rfl) (by kernel_rfl) (by kernel_rfl) (by kernel_rfl);have h10:=@run_callFunc_extern prog 126 _ (ReflectliteType.typeOf) func126 (by kernel_rfl) (by kernel_rfl) (by kernel_rfl) (by kernel_rfl);have h35 := @run_callFunc_extern prog 359 _ (ReflectliteType.relation "AssignableTo" ReflectliteType.assignableTo) func359 (by kernel_rfl) (by kernel_rfl) (by kernel_rfl) (by kernel_rfl);have h11 := @run_callFunc_extern prog 127 _ (ReflectliteValue.method (ReflectliteValue.valueError "reflectlite.Value.Elem" 0) ReflectliteValue.elem) func127 (by kernel_rfl) (by kernel_rfl) (by kernel_rfl) (by kernel_rfl);have h12:=@run_callFunc_extern prog 128 _ (ReflectliteValue.set) func128 (by kernel_rfl) (by kernel_rfl) (by kernel_rfl) (by kernel_rfl);have tO:=typeOfTC;have mA:=methodAssignableTo;have a25:=assignableTC;have v25:=valueOfTC;have f6:=valueOfPC;have f7:=typePC;have mK:=methodKind;have mE:=methodElem;have mI:=methodImplements;have k27:=kindPC;have k25:=kindTC;have e27:=elemPC;have i25:=implementsTC;have n8:=isNilPC ⟨w.heap.size,0,none⟩ t ((w.alloc (.cells #[.pointer (some t)] 332)).alloc (.cells #[.pointer (some ⟨9,332,none⟩),.pointer (some ⟨w.heap.size,0,none⟩),.int .u64 150] 153)) (by simp);have hlt:0 < w.heap.size:=by
  rcases Nat.eq_zero_or_pos w.heap.size with h0 | h
  ·simp [ErrTy,World.cell?,h0] at hg
  ·exact h
 have hg2:((w.alloc (.cells #[.pointer (some t)] 332)).alloc (.cells #[.pointer (some ⟨9,332,none⟩),.pointer (some ⟨w.heap.size,0,none⟩),.int .u64 150] 153)).cell? ⟨0,0,none⟩=some (.iface 217 (.agg #[.pointer (some ⟨9,29,none⟩)])):=by
  rw [World.cell?_alloc_lt _ _ ⟨0,0,none⟩ (by simp),World.cell?_alloc_lt _ _ ⟨0,0,none⟩ hlt];exact hg
 have htl:t.block < w.heap.size:=by
  rcases Nat.lt_or_ge t.block w.heap.size with h | h
  ·exact h
  ·simp [World.cell?,Array.getElem?_eq_none h] at ht0
 have el:=elemVPC ⟨w.heap.size,0,none⟩ t (((w.alloc (.cells #[.pointer (some t)] 332)).alloc (.cells #[.pointer (some ⟨9,332,none⟩),.pointer (some ⟨w.heap.size,0,none⟩),.int .u64 150] 153)).alloc (.cells #[.pointer (some ⟨9,332,none⟩),.pointer (some ⟨w.heap.size,0,none⟩),.int .u64 150] 153)) (by rw [World.cell?_alloc_lt _ _ ⟨w.heap.size,0,none⟩ (by simp;omega)];simp);have st:=setTC t ⟨w.heap.size+1+1+1,0,none⟩ e old ((((w.alloc (.cells #[.pointer (some t)] 332)).alloc (.cells #[.pointer (some ⟨9,332,none⟩),.pointer (some ⟨w.heap.size,0,none⟩),.int .u64 150] 153)).alloc (.cells #[.pointer (some ⟨9,332,none⟩),.pointer (some ⟨w.heap.size,0,none⟩),.int .u64 150] 153)).alloc (.cells #[.pointer (some e)] 331))
  (by rw [World.cell?_alloc_at _ _ _ _ (by simp)];rfl)
  (by rw [World.cell?_alloc_lt _ _ t (by simp;omega),World.cell?_alloc_lt _ _ t (by simp;omega),World.cell?_alloc_lt _ _ t (by simp;omega),World.cell?_alloc_lt _ _ t htl];exact ht0)
  (by rw [World.frozen?_alloc_old _ _ t (by simp;omega),World.frozen?_alloc_old _ _ t (by simp;omega),World.frozen?_alloc_old _ _ t (by simp;omega),World.frozen?_alloc_old _ _ t (Nat.ne_of_lt htl)];exact hf0)
 have nF:=noAsC;have uF:=hasUnwrapC;have mU:=methodUnwrapC;have tF:=typeOfFC;have aF:=assignableFC;have hfl:fb < w.heap.size:=lt_of_heap hfb;have c2:(((w.alloc (.cells #[.pointer (some t)] 332)).alloc (.cells #[.pointer (some ⟨9,332,none⟩),.pointer (some ⟨w.heap.size,0,none⟩),.int .u64 150] 153)).alloc (.cells #[.pointer (some ⟨9,332,none⟩),.pointer (some ⟨w.heap.size,0,none⟩),.int .u64 150] 153)).cell? ⟨fb,2,none⟩=some (.iface 331 (.pointer (some e))):=by
  rw [World.cell?_alloc_lt _ _ ⟨fb,2,none⟩ (by simp;omega),World.cell?_alloc_lt _ _ ⟨fb,2,none⟩ (by simp;omega),World.cell?_alloc_lt _ _ ⟨fb,2,none⟩ hfl];exact cell_ofA hfb rfl
 go_enter func31,ntmps31
 go_wp2
 refine wp_loop_rounds 2 ?_;rw [rounds_succ];go_wp2
 rw [rounds_succ];go_wp2
 go_ret
 exact ⟨rfl,rfl⟩
theorem valueOfPN (t:Addr) (w:World):(ReflectliteValue.unpack (.iface 85 (.pointer (some t)))).run prog w
  = .ok (.agg #[.pointer (some ⟨9,85,none⟩),.pointer (some ⟨w.heap.size,0,none⟩),.int .u64 150]) (w.alloc (.cells #[.pointer (some t)] 85)):=by kernel_rfl
theorem typePN (a : Addr) (w : World) : (ReflectliteValue.methodAny (ReflectliteValue.valueError "reflectlite.Value.Type" 0) (fun t _ _ _ => ReflectliteType.toType t) #[.agg #[.pointer (some ⟨9, 85, none⟩), .pointer (some a), .int .u64 150]]).run prog w
  = .ok (.iface 217 (.agg #[.pointer (some ⟨9,85,none⟩)])) w:=by kernel_rfl
theorem kindPN (w:World):((ReflectliteType.abiMethod fun t=>(fun a:Nat=>Value.int IntKind.u8 (a:Int)) <$> Rtype.kind t) #[.pointer (some ⟨9,85,none⟩)]).run prog w=.ok (.int .u8 22) w:=by kernel_rfl
theorem kindTN (w:World):((ReflectliteType.abiMethod fun t=>(fun a:Nat=>Value.int IntKind.u8 (a:Int)) <$> Rtype.kind t) #[.pointer (some ⟨9,36,none⟩)]).run prog w=.ok (.int .u8 2) w:=by kernel_rfl
theorem partsPN (a:Addr) (w:World):(ReflectliteValue.parts (.agg #[.pointer (some ⟨9,85,none⟩),.pointer (some a),.int .u64 150])).run prog w=.ok (some (85,a,150)) w:=by kernel_rfl
theorem isNilPN (a p:Addr) (W:World) (ha:W.cell? a=some (.pointer (some p))) :
  (ReflectliteValue.method (ReflectliteValue.valueError "reflectlite.Value.IsNil" 0) ReflectliteValue.isNil #[.agg #[.pointer (some ⟨9, 85, none⟩), .pointer (some a), .int .u64 150]]).run prog W = .ok (.bool false) W := by
 rw [rlm];simp only [Sem.run_bind,partsPN,Result.andThen];simp [ReflectliteValue.isNil,loadVar,isAgg,underlying,underlying85,ha,Result.andThen]
theorem elemPN (w:World):(ReflectliteType.method ReflectliteType.elem #[.agg #[.pointer (some ⟨9,85,none⟩)]]).run prog w=.ok (.iface 217 (.agg #[.pointer (some ⟨9,36,none⟩)])) w:=by kernel_rfl
theorem implementsTN (w : World) : (ReflectliteType.relation "Implements" ReflectliteType.implements_ #[.agg #[.pointer (some ⟨9, 36, none⟩)], .iface 217 (.agg #[.pointer (some ⟨9, 29, none⟩)])]).run prog w = .ok (.bool true) w := by kernel_rfl
theorem typeOfTN (v:Value) (w:World):(ReflectliteType.typeOf #[.iface 36 v]).run prog w=.ok (.iface 217 (.agg #[.pointer (some ⟨9,36,none⟩)])) w:=by kernel_rfl
theorem assignableTN (w : World) : (ReflectliteType.relation "AssignableTo" ReflectliteType.assignableTo #[.agg #[.pointer (some ⟨9, 36, none⟩)], .iface 217 (.agg #[.pointer (some ⟨9, 36, none⟩)])]).run prog w = .ok (.bool true) w := by kernel_rfl
theorem valueOfTN (n:Int) (w:World):(ReflectliteValue.unpack (.iface 36 (.int .i64 n))).run prog w
  = .ok (.agg #[.pointer (some ⟨9,36,none⟩),.pointer (some ⟨w.heap.size,0,none⟩),.int .u64 130]) (w.alloc (.cells #[.int .i64 n] 36)):=by kernel_rfl
theorem elemOfPN (w:World):(Rtype.elem? 85).run prog w=.ok (some 36) w:=by kernel_rfl
theorem mkTN (p:Addr) (w:World):(ReflectliteValue.mk 36 p ReflectliteValue.flagAddr).run prog w=.ok (.agg #[.pointer (some ⟨9,36,none⟩),.pointer (some p),.int .u64 386]) w:=by kernel_rfl
theorem elemVPN (a p:Addr) (W:World) (ha:W.cell? a=some (.pointer (some p))) :
  (ReflectliteValue.method (ReflectliteValue.valueError "reflectlite.Value.Elem" 0) ReflectliteValue.elem #[.agg #[.pointer (some ⟨9, 85, none⟩), .pointer (some a), .int .u64 150]]).run prog W = .ok (.agg #[.pointer (some ⟨9, 36, none⟩), .pointer (some p), .int .u64 386]) W := by
 rw [rlm];simp only [Sem.run_bind,partsPN,Result.andThen];simp [ReflectliteValue.elem,loadVar,isAgg,underlying,underlying85,ha,Result.andThen,elemOfPN,mkTN]
theorem partsTaN (a:Addr) (w:World):(ReflectliteValue.parts (.agg #[.pointer (some ⟨9,36,none⟩),.pointer (some a),.int .u64 386])).run prog w=.ok (some (36,a,386)) w:=by kernel_rfl
theorem partsTN (a:Addr) (w:World):(ReflectliteValue.parts (.agg #[.pointer (some ⟨9,36,none⟩),.pointer (some a),.int .u64 130])).run prog w=.ok (some (36,a,130)) w:=by kernel_rfl
theorem directTN (w:World):(Rtype.directlyAssignable 36 36).run prog w=.ok true w:=by kernel_rfl
theorem setTN (ta b:Addr) (n:Int) (old:Value) (W:World) (hb:W.cell? b=some (.int .i64 n)) (ht:W.cell? ta=some old) (hf:W.frozen? ta=false) :
  (ReflectliteValue.set #[.agg #[.pointer (some ⟨9,36,none⟩),.pointer (some ta),.int .u64 386],.agg #[.pointer (some ⟨9,36,none⟩),.pointer (some b),.int .u64 130]]).run prog W=.ok (.tuple #[]) (W.setCell ta (.int .i64 n)):=by
 rw [rls];simp only [Sem.run_bind,partsTaN,partsTN,Result.andThen];simp [ReflectliteValue.flagAddr,loadVar,isAgg,underlying,underlying36,hb,Result.andThen,directTN,storeVar,Value.cells,storeCells,Addr.add]
 rw [run_store prog W ta _ _ (by rfl)];simp [ht,hf]
theorem as_hitN (n:Int) (t:Addr) (old:Value) (w:World) (hg:ErrTy w) (ht0:w.cell? t=some old) (hf0:w.frozen? t=false) :
  Calls prog 31 #[.iface 36 (.int .i64 n),.iface 85 (.pointer (some t))] w fun ev w'=>ev=.returned (.bool true)/\w'=((((w.alloc (.cells #[.pointer (some t)] 85)).alloc (.cells #[.pointer (some ⟨9,85,none⟩),.pointer (some ⟨w.heap.size,0,none⟩),.int .u64 150] 153)).alloc (.cells #[.pointer (some ⟨9,85,none⟩),.pointer (some ⟨w.heap.size,0,none⟩),.int .u64 150] 153)).alloc (.cells #[.int .i64 n] 36)).setCell t (.int .i64 n):=by
 have h6:=@run_callFunc_extern prog 74 _ (fun args=>ReflectliteValue.unpack (args.getD 0 (.tuple #[]))) func74 (by kernel_rfl) (by kernel_rfl) (by kernel_rfl) (by kernel_rfl);have h7 := @run_callFunc_extern prog 75 _ (ReflectliteValue.methodAny (ReflectliteValue.valueError "reflectlite.Value.Type" 0) (fun t _ _ _ => ReflectliteType.toType t)) func75 (by kernel_rfl) (by kernel_rfl) (by kernel_rfl) (by kernel_rfl);have h8 := @run_callFunc_extern prog 76 _ (ReflectliteValue.method (ReflectliteValue.valueError "reflectlite.Value.IsNil" 0) ReflectliteValue.isNil) func76 (by kernel_rfl) (by kernel_rfl) (by kernel_rfl) (by kernel_rfl);have h27:=@run_callFunc_extern prog 349 _ (ReflectliteType.abiMethod fun t=>do pure (.int .u8 (← Rtype.kind t))) func349 (by kernel_rfl) (by kernel_rfl) (by kernel_rfl) (by kernel_rfl);have h37:=@run_callFunc_extern prog 361 _ (ReflectliteType.method ReflectliteType.elem) func361 (by kernel_rfl) (by kernel_rfl) (by kernel_rfl) (by kernel_rfl);have h38 := @run_callFunc_extern prog 362 _ (ReflectliteType.relation "Implements" ReflectliteType.implements_) func362 (by kernel_rfl) (by kernel_rfl) (by kernel_rfl) (by kernel_rfl);have h10:=@run_callFunc_extern prog 126 _ (ReflectliteType.typeOf) func126 (by kernel_rfl) (by kernel_rfl) (by kernel_rfl) (by kernel_rfl);have h35 := @run_callFunc_extern prog 359 _ (ReflectliteType.relation "AssignableTo" ReflectliteType.assignableTo) func359 (by kernel_rfl) (by kernel_rfl) (by kernel_rfl) (by kernel_rfl);have h11 := @run_callFunc_extern prog 127 _ (ReflectliteValue.method (ReflectliteValue.valueError "reflectlite.Value.Elem" 0) ReflectliteValue.elem) func127 (by kernel_rfl) (by kernel_rfl) (by kernel_rfl) (by kernel_rfl);have h12:=@run_callFunc_extern prog 128 _ (ReflectliteValue.set) func128 (by kernel_rfl) (by kernel_rfl) (by kernel_rfl) (by kernel_rfl);have tO:=typeOfTN;have mA:=methodAssignableTo;have a25:=assignableTN;have v25:=valueOfTN;have f6:=valueOfPN;have f7:=typePN;have mK:=methodKind;have mE:=methodElem;have mI:=methodImplements;have k27:=kindPN;have k25:=kindTN;have e27:=elemPN;have i25:=implementsTN;have n8:=isNilPN ⟨w.heap.size,0,none⟩ t ((w.alloc (.cells #[.pointer (some t)] 85)).alloc (.cells #[.pointer (some ⟨9,85,none⟩),.pointer (some ⟨w.heap.size,0,none⟩),.int .u64 150] 153)) (by simp);have hlt:0 < w.heap.size:=by
  rcases Nat.eq_zero_or_pos w.heap.size with h0 | h
  ·simp [ErrTy,World.cell?,h0] at hg
  ·exact h
 have hg2:((w.alloc (.cells #[.pointer (some t)] 85)).alloc (.cells #[.pointer (some ⟨9,85,none⟩),.pointer (some ⟨w.heap.size,0,none⟩),.int .u64 150] 153)).cell? ⟨0,0,none⟩=some (.iface 217 (.agg #[.pointer (some ⟨9,29,none⟩)])):=by
  rw [World.cell?_alloc_lt _ _ ⟨0,0,none⟩ (by simp),World.cell?_alloc_lt _ _ ⟨0,0,none⟩ hlt];exact hg
 have htl:t.block < w.heap.size:=by
  rcases Nat.lt_or_ge t.block w.heap.size with h | h
  ·exact h
  ·simp [World.cell?,Array.getElem?_eq_none h] at ht0
 have el:=elemVPN ⟨w.heap.size,0,none⟩ t (((w.alloc (.cells #[.pointer (some t)] 85)).alloc (.cells #[.pointer (some ⟨9,85,none⟩),.pointer (some ⟨w.heap.size,0,none⟩),.int .u64 150] 153)).alloc (.cells #[.pointer (some ⟨9,85,none⟩),.pointer (some ⟨w.heap.size,0,none⟩),.int .u64 150] 153)) (by rw [World.cell?_alloc_lt _ _ ⟨w.heap.size,0,none⟩ (by simp;omega)];simp);have st:=setTN t ⟨w.heap.size+1+1+1,0,none⟩ n old ((((w.alloc (.cells #[.pointer (some t)] 85)).alloc (.cells #[.pointer (some ⟨9,85,none⟩),.pointer (some ⟨w.heap.size,0,none⟩),.int .u64 150] 153)).alloc (.cells #[.pointer (some ⟨9,85,none⟩),.pointer (some ⟨w.heap.size,0,none⟩),.int .u64 150] 153)).alloc (.cells #[.int .i64 n] 36))
  (by rw [World.cell?_alloc_at _ _ _ _ (by simp)];rfl)
  (by rw [World.cell?_alloc_lt _ _ t (by simp;omega),World.cell?_alloc_lt _ _ t (by simp;omega),World.cell?_alloc_lt _ _ t (by simp;omega),World.cell?_alloc_lt _ _ t htl];exact ht0)
  (by rw [World.frozen?_alloc_old _ _ t (by simp;omega),World.frozen?_alloc_old _ _ t (by simp;omega),World.frozen?_alloc_old _ _ t (by simp;omega),World.frozen?_alloc_old _ _ t (Nat.ne_of_lt htl)];exact hf0)
 go_enter func31,ntmps31
 go_wp2
 refine wp_loop_rounds 1 ?_;rw [rounds_succ];go_wp2
 go_ret
 exact ⟨rfl,rfl⟩
theorem noAsN (v:Value) (xT:TypeId) (w:World):(Instr.typeAssert (.iface 163 v) xT 222 true).run prog w=.ok (.tuple #[.nilIface,.bool false]) w:=run_typeAssert_lacksB underlying222 (by kernel_rfl) (by kernel_rfl) v xT w
theorem hasUnwrapN (v:Value) (xT:TypeId) (w:World):(Instr.typeAssert (.iface 163 v) xT 225 true).run prog w=.ok (.tuple #[.iface 163 v,.bool true]) w:=run_typeAssert_hasB underlying225 (by kernel_rfl) v xT w
theorem methodUnwrapN (v : Value) (w : World) : (Go.method 541 163 v "Unwrap").run prog w = .ok (355, v) w := by kernel_rfl
theorem typeOfFN (v:Value) (w:World):(ReflectliteType.typeOf #[.iface 163 v]).run prog w=.ok (.iface 217 (.agg #[.pointer (some ⟨9,163,none⟩)])) w:=by kernel_rfl
theorem assignableFN (w : World) : (ReflectliteType.relation "AssignableTo" ReflectliteType.assignableTo #[.agg #[.pointer (some ⟨9, 163, none⟩)], .iface 217 (.agg #[.pointer (some ⟨9, 36, none⟩)])]).run prog w = .ok (.bool false) w := by kernel_rfl
theorem as_faultN (n:Int) (fb:Nat) (s1 s2:ByteArray) (t:Addr) (old:Value) (w:World) (hg:ErrTy w) (ht0:w.cell? t=some old) (hf0:w.frozen? t=false) (hfb:w.heap[fb]? = some (.cells #[.string s1,.string s2,.iface 36 (.int .i64 n)] 165 (0,0))) :
  Calls prog 31 #[.iface 163 (.pointer (some ⟨fb,0,none⟩)),.iface 85 (.pointer (some t))] w fun ev w'=>ev=.returned (.bool true)/\w'=((((w.alloc (.cells #[.pointer (some t)] 85)).alloc (.cells #[.pointer (some ⟨9,85,none⟩),.pointer (some ⟨w.heap.size,0,none⟩),.int .u64 150] 153)).alloc (.cells #[.pointer (some ⟨9,85,none⟩),.pointer (some ⟨w.heap.size,0,none⟩),.int .u64 150] 153)).alloc (.cells #[.int .i64 n] 36)).setCell t (.int .i64 n):=by
 have h6:=@run_callFunc_extern prog 74 _ (fun args=>ReflectliteValue.unpack (args.getD 0 (.tuple #[]))) func74 (by kernel_rfl) (by kernel_rfl) (by kernel_rfl) (by kernel_rfl);have h7 := @run_callFunc_extern prog 75 _ (ReflectliteValue.methodAny (ReflectliteValue.valueError "reflectlite.Value.Type" 0) (fun t _ _ _ => ReflectliteType.toType t)) func75 (by kernel_rfl) (by kernel_rfl) (by kernel_rfl) (by kernel_rfl);have h8 := @run_callFunc_extern prog 76 _ (ReflectliteValue.method (ReflectliteValue.valueError "reflectlite.Value.IsNil" 0) ReflectliteValue.isNil) func76 (by kernel_rfl) (by kernel_rfl) (by kernel_rfl) (by kernel_rfl);have h27:=@run_callFunc_extern prog 349 _ (ReflectliteType.abiMethod fun t=>do pure (.int .u8 (← Rtype.kind t))) func349 (by kernel_rfl) (by kernel_rfl) (by kernel_rfl) (by kernel_rfl);have h37:=@run_callFunc_extern prog 361 _ (ReflectliteType.method ReflectliteType.elem) func361 (by kernel_rfl) (by kernel_rfl) (by kernel_rfl) (by kernel_rfl);have h38 := @run_callFunc_extern prog 362 _ (ReflectliteType.relation "Implements" ReflectliteType.implements_) func362 (by kernel_rfl) (by kernel_rfl) (by kernel_rfl) (by kernel_rfl);have h10:=@run_callFunc_extern prog 126 _ (ReflectliteType.typeOf) func126 (by kernel_rfl) (by kernel_rfl) (by kernel_rfl) (by kernel_rfl);have h35 := @run_callFunc_extern prog 359 _ (ReflectliteType.relation "AssignableTo" ReflectliteType.assignableTo) func359 (by kernel_rfl) (by kernel_rfl) (by kernel_rfl) (by kernel_rfl);have h11 := @run_callFunc_extern prog 127 _ (ReflectliteValue.method (ReflectliteValue.valueError "reflectlite.Value.Elem" 0) ReflectliteValue.elem) func127 (by kernel_rfl) (by kernel_rfl) (by kernel_rfl) (by kernel_rfl);have h12:=@run_callFunc_extern prog 128 _ (ReflectliteValue.set) func128 (by kernel_rfl) (by kernel_rfl) (by kernel_rfl) (by kernel_rfl);have tO:=typeOfTN;have mA:=methodAssignableTo;have a25:=assignableTN;have v25:=valueOfTN;have f6:=valueOfPN;have f7:=typePN;have mK:=methodKind;have mE:=methodElem;have mI:=methodImplements;have k27:=kindPN;have k25:=kindTN;have e27:=elemPN;have i25:=implementsTN;have n8:=isNilPN ⟨w.heap.size,0,none⟩ t ((w.alloc (.cells #[.pointer (some t)] 85)).alloc (.cells #[.pointer (some ⟨9,85,none⟩),.pointer (some ⟨w.heap.size,0,none⟩),.int .u64 150] 153)) (by simp);have hlt:0 < w.heap.size:=by
  rcases Nat.eq_zero_or_pos w.heap.size with h0 | h
  ·simp [ErrTy,World.cell?,h0] at hg
  ·exact h
 have hg2:((w.alloc (.cells #[.pointer (some t)] 85)).alloc (.cells #[.pointer (some ⟨9,85,none⟩),.pointer (some ⟨w.heap.size,0,none⟩),.int .u64 150] 153)).cell? ⟨0,0,none⟩=some (.iface 217 (.agg #[.pointer (some ⟨9,29,none⟩)])):=by
  rw [World.cell?_alloc_lt _ _ ⟨0,0,none⟩ (by simp),World.cell?_alloc_lt _ _ ⟨0,0,none⟩ hlt];exact hg
 have htl:t.block < w.heap.size:=by
  rcases Nat.lt_or_ge t.block w.heap.size with h | h
  ·exact h
  ·simp [World.cell?,Array.getElem?_eq_none h] at ht0
 have el:=elemVPN ⟨w.heap.size,0,none⟩ t (((w.alloc (.cells #[.pointer (some t)] 85)).alloc (.cells #[.pointer (some ⟨9,85,none⟩),.pointer (some ⟨w.heap.size,0,none⟩),.int .u64 150] 153)).alloc (.cells #[.pointer (some ⟨9,85,none⟩),.pointer (some ⟨w.heap.size,0,none⟩),.int .u64 150] 153)) (by rw [World.cell?_alloc_lt _ _ ⟨w.heap.size,0,none⟩ (by simp;omega)];simp);have st:=setTN t ⟨w.heap.size+1+1+1,0,none⟩ n old ((((w.alloc (.cells #[.pointer (some t)] 85)).alloc (.cells #[.pointer (some ⟨9,85,none⟩),.pointer (some ⟨w.heap.size,0,none⟩),.int .u64 150] 153)).alloc (.cells #[.pointer (some ⟨9,85,none⟩),.pointer (some ⟨w.heap.size,0,none⟩),.int .u64 150] 153)).alloc (.cells #[.int .i64 n] 36))
  (by rw [World.cell?_alloc_at _ _ _ _ (by simp)];rfl)
  (by rw [World.cell?_alloc_lt _ _ t (by simp;omega),World.cell?_alloc_lt _ _ t (by simp;omega),World.cell?_alloc_lt _ _ t (by simp;omega),World.cell?_alloc_lt _ _ t htl];exact ht0)
  (by rw [World.frozen?_alloc_old _ _ t (by simp;omega),World.frozen?_alloc_old _ _ t (by simp;omega),World.frozen?_alloc_old _ _ t (by simp;omega),World.frozen?_alloc_old _ _ t (Nat.ne_of_lt htl)];exact hf0)
 have nF:=noAsN;have uF:=hasUnwrapN;have mU:=methodUnwrapN;have tF:=typeOfFN;have aF:=assignableFN;have hfl:fb < w.heap.size:=lt_of_heap hfb;have c2:(((w.alloc (.cells #[.pointer (some t)] 85)).alloc (.cells #[.pointer (some ⟨9,85,none⟩),.pointer (some ⟨w.heap.size,0,none⟩),.int .u64 150] 153)).alloc (.cells #[.pointer (some ⟨9,85,none⟩),.pointer (some ⟨w.heap.size,0,none⟩),.int .u64 150] 153)).cell? ⟨fb,2,none⟩=some (.iface 36 (.int .i64 n)):=by
  rw [World.cell?_alloc_lt _ _ ⟨fb,2,none⟩ (by simp;omega),World.cell?_alloc_lt _ _ ⟨fb,2,none⟩ (by simp;omega),World.cell?_alloc_lt _ _ ⟨fb,2,none⟩ hfl];exact cell_ofA hfb rfl
 go_enter func31,ntmps31
 go_wp2
 refine wp_loop_rounds 2 ?_;rw [rounds_succ];go_wp2
 rw [rounds_succ];go_wp2
 go_ret
 exact ⟨rfl,rfl⟩
end Go.Proofs.YticfcmdjplmaeaaGreatDoor
namespace Go.Proofs.YticfcmdjplmaeaaGreatDoor
open _root_.Go.Proofs.Tryz
open Go.RowKit
def confV (q:Nat):Value:=.iface 331 (.pointer (some ⟨q,0,none⟩))
def errnoV (n:Int):Value:=.iface 36 (.int .i64 n)
def faultV (b:Nat):Value:=.iface 163 (.pointer (some ⟨b,0,none⟩))
theorem ta_conf (v:Value) (w:World):(Instr.typeAssert (.iface 331 v) 29 36 true).run prog w=.ok (.tuple #[.int .i64 0,.bool false]) w:=by kernel_rfl
theorem ta_errno (n:Int) (w:World):(Instr.typeAssert (.iface 36 (.int .i64 n)) 29 36 true).run prog w=.ok (.tuple #[.int .i64 n,.bool true]) w:=by kernel_rfl
theorem none_conf (q:Nat) (w:World):Calls prog 78 #[confV q] w fun e w'=>e=.returned (.bool false)/\w'=w:=by
 refine calls_hide fun R hR=>?_
 have hta:=ta_conf;unfold confV;go_enter func78,ntmps78
 go_wp2_with fail
 exact fin hR ⟨rfl,rfl⟩
theorem none_errno (n:Int) (w:World) (hn:n ≠ 0):Calls prog 78 #[errnoV n] w fun e w'=>e=.returned (.bool false)/\w'=w:=by
 refine calls_hide fun R hR=>?_
 have hta:=ta_errno;unfold errnoV;have h0:(n == 0)=false:=by simpa using hn
 go_enter func78,ntmps78
 go_wp2_with fail
 exact fin hR ⟨rfl,rfl⟩
theorem wrap_conf (s1 s2:ByteArray) (q:Nat) (w:World):Calls prog 32 #[.string s1,.string s2,confV q] w fun e w'=>e=.returned (faultV w.heap.size)/\w'=w.alloc (.cells #[.string s1,.string s2,confV q] 165):=by
 refine calls_hide fun R hR=>?_
 have HN:=zh (none_conf q w);unfold confV faultV at *;go_enter func32,ntmps32
 go_wp2_with fail
 with_reducible refine HN.out.mono ?_
 rintro e w' ⟨rfl,rfl⟩;go_wp2_with fail
 exact fin hR ⟨rfl,rfl⟩
theorem wrap_errno (s1 s2:ByteArray) (n:Int) (w:World) (hn:n ≠ 0):Calls prog 32 #[.string s1,.string s2,errnoV n] w fun e w'=>e=.returned (faultV w.heap.size)/\w'=w.alloc (.cells #[.string s1,.string s2,errnoV n] 165):=by
 refine calls_hide fun R hR=>?_
 have HN:=zh (none_errno n w hn);unfold errnoV faultV at *;go_enter func32,ntmps32
 go_wp2_with fail
 with_reducible refine HN.out.mono ?_
 rintro e w' ⟨rfl,rfl⟩;go_wp2_with fail
 exact fin hR ⟨rfl,rfl⟩
theorem as_numM (n:Int) (tb:Nat) (o:Int) (w:World) (hg:ErrTy w) (ht:w.heap[tb]? = some (.cells #[.int .i64 o] 36 (0,0))) :
  Calls prog 31 #[errnoV n,.iface 85 (.pointer (some ⟨tb,0,none⟩))] w fun e w'=>e=.returned (.bool true)/\w'.heap[tb]? = some (.cells #[.int .i64 n] 36 (0,0))/\Mod (· = tb) w w':=by
 refine (as_hitN n ⟨tb,0,none⟩ (.int .i64 o) w hg (cell_ofA ht rfl) (frozen_of 0 ht)).mono ?_;rintro e w' ⟨rfl,rfl⟩;refine ⟨rfl,?_,((((((Mod.refl (fun x=>x=tb) w).alloc _).alloc _).alloc _).alloc _).setCell (fun _=>rfl) _)⟩
 rw [heap_setCell (heap_alloc_old _ (heap_alloc_old _ (heap_alloc_old _ (heap_alloc_old _ ht))))];rfl
theorem as_fltM (n:Int) (fb tb:Nat) (s1 s2:ByteArray) (o:Int) (w:World) (hg:ErrTy w) (ht:w.heap[tb]? = some (.cells #[.int .i64 o] 36 (0,0))) (hfb:w.heap[fb]? = some (.cells #[.string s1,.string s2,errnoV n] 165 (0,0))) :
  Calls prog 31 #[faultV fb,.iface 85 (.pointer (some ⟨tb,0,none⟩))] w fun e w'=>e=.returned (.bool true)/\w'.heap[tb]? = some (.cells #[.int .i64 n] 36 (0,0))/\Mod (· = tb) w w':=by
 refine (as_faultN n fb s1 s2 ⟨tb,0,none⟩ (.int .i64 o) w hg (cell_ofA ht rfl) (frozen_of 0 ht) hfb).mono ?_;rintro e w' ⟨rfl,rfl⟩;refine ⟨rfl,?_,((((((Mod.refl (fun x=>x=tb) w).alloc _).alloc _).alloc _).alloc _).setCell (fun _=>rfl) _)⟩
 rw [heap_setCell (heap_alloc_old _ (heap_alloc_old _ (heap_alloc_old _ (heap_alloc_old _ ht))))];rfl
theorem ta_fault_f (v:Value) (w:World):(Instr.typeAssert (.iface 163 v) 29 163 true).run prog w=.ok (.tuple #[v,.bool true]) w:=by kernel_rfl
theorem ta_errno_f (v:Value) (w:World):(Instr.typeAssert (.iface 36 v) 29 163 true).run prog w=.ok (.tuple #[.pointer none,.bool false]) w:=by kernel_rfl
theorem ta_errno_j (v:Value) (w:World):(Instr.typeAssert (.iface 36 v) 29 166 true).run prog w=.ok (.tuple #[.pointer none,.bool false]) w:=by kernel_rfl
theorem find_errno (n:Int) (w:World) (hg:ErrTy w):Calls prog 33 #[errnoV n] w fun e w'=>e=.returned (.tuple #[.int .i64 n,.slice none 0 0,.bool true])/\Mod No w w':=by
 refine calls_hide fun R hR=>?_
 have hta:=ta_errno_f;have htj:=ta_errno_j;have HER:=zh hg;clear hg;unfold errnoV;go_enter func33,ntmps33
 go_upto_region 2 with fail
 obtain ⟨gn,hgn⟩:∃ g,g=w.heap.size:=⟨_,rfl⟩
 rw [<- hgn];generalize hw1:World.alloc w _=w1;have hm1:Mod No w w1:=by rw [<- hw1];exact (Mod.refl No w).alloc _
 have hn1:w1.heap[gn]? = some (.cells #[.int .i64 0] 36 (0,0)):=by rw [<- hw1,hgn];exact heap_alloc_new w _
 have HAS:=zh (as_numM n gn 0 w1 (HER.out.keep hm1 (fun f=>f)) hn1);unfold errnoV at HAS;have HM1:=zh hm1;have HGN:=zh (show w.heap.size<=gn by omega);clear hw1 hm1 hn1 hgn;go_wp2_with fail
 with_reducible refine HAS.out.mono ?_
 rintro e w2 ⟨rfl,hn2,hm2⟩;have HM2:=zh (HM1.out.then hm2 (S:=No) (fun q hq e=>by have h1:=HGN.out;have h2:q=gn:=e;omega));have n0:=cell_ofA hn2 (i:=0) (v:=.int .i64 n) rfl;clear hn2 hm2 HAS;go_wp2_with fail
 exact bodyPost_ret (v:=.tuple #[.int .i64 n,.slice none 0 0,.bool true]) (by simp [results,results33]) rfl (fin hR ⟨rfl,HM2.out⟩)
theorem find_fault (n:Int) (fb:Nat) (s1 s2:ByteArray) (w:World) (hg:ErrTy w) (hfb:w.heap[fb]? = some (.cells #[.string s1,.string s2,errnoV n] 165 (0,0))) :
  Calls prog 33 #[faultV fb] w fun e w'=>(∃ v,e=.returned (.tuple #[.int .i64 n,v,.bool true])/\Sl w' No 9 v 1 [.string s1])/\Mod No w w':=by
 refine calls_hide fun R hR=>?_
 have hta:=ta_fault_f;have HER:=zh hg;have HFB:=zh hfb;clear hg hfb;unfold faultV;unfold errnoV at HFB;go_enter func33,ntmps33
 go_upto_region 2 with fail
 obtain ⟨gn,hgn⟩:∃ g,g=w.heap.size:=⟨_,rfl⟩
 rw [<- hgn];generalize hw1:World.alloc w _=w1;have hm1:Mod No w w1:=by rw [<- hw1];exact (Mod.refl No w).alloc _
 have hn1:w1.heap[gn]? = some (.cells #[.int .i64 0] 36 (0,0)):=by rw [<- hw1,hgn];exact heap_alloc_new w _
 have hf1:=hm1.keep HFB.out (fun f=>f);have HAS:=zh (as_fltM n fb gn s1 s2 0 w1 (HER.out.keep hm1 (fun f=>f)) hn1 hf1);unfold faultV at HAS;have HM1:=zh hm1;have HF1:=zh hf1;have HGN:=zh (show w.heap.size<=gn/\¬ fb=gn from ⟨by omega,fun e=>by have:=lt_of_heap HFB.out;omega⟩);clear hw1 hm1 hn1 hgn hf1;go_wp2_with fail
 with_reducible refine HAS.out.mono ?_
 rintro e w2 ⟨rfl,hn2,hm2⟩;have HM2:=zh (HM1.out.then hm2 (S:=No) (fun q hq e=>by have h1:=HGN.out.1;have h2:q=gn:=e;omega));have hf2:=hm2.keep HF1.out HGN.out.2;have HF2:=zh hf2;have f2:=cell_ofA hf2 (i:=2) (v:=.iface 36 (.int .i64 n)) rfl;have HFE:=zh (find_errno n w2 (HER.out.keep HM2.out (fun f=>f)));unfold errnoV at HFE;clear hn2 hm2 hf2 HAS HF1;go_wp2_with fail
 with_reducible refine HFE.out.mono ?_
 rintro e w3 ⟨rfl,hm3⟩;have HM3:=zh (HM2.out.trans hm3);have f0:=cell_ofA (hm3.keep HF2.out (fun f=>f)) (i:=0) (v:=.string s1) rfl;clear hm3 HFE f2 HF2;obtain ⟨i0,hi0,hz0,hz1,hz2⟩:=info_parts info_str;have HOW:=zh (show (w3.alloc (.cells #[.string s1] 9)).ownsRow w3.heap.size 9 1 (.slice (some ⟨w3.heap.size,0,none⟩) 1 1) 1 [.string s1] from own_alloc (xs:=[.string s1]) (by simp [maxLen]));go_wp2_with (at_builtin;refine app_sl _ rfl _ _ 38 rfl w3.heap.size 9 i0 (.string ⟨#[]⟩) 1 16 underlying38 hi0 hz0 hz1 hz2 rfl (by decide) _ 1 [.string s1] rfl HOW.out No 9 (.slice none 0 0) 0 [] rfl (.inl ⟨rfl,rfl,rfl⟩) rfl (fun u hu=>by cases hu) (by unfold maxLen;omega) (by omega) (by simp) ?_)
 intro v9 w9 hown hgr _;have HM9:=zh (HM3.out.then (show Mod (fun q=>q=w3.heap.size) w3 w9 from by
  refine Mod.then (T:=fun q=>q=w3.heap.size) ((Mod.refl _ w3).alloc _) (Mod.of_grown hgr (fun k hk _=>(Option.some.inj (show some w3.heap.size=some k from hk)).symm)) (fun i hi e=>e)) (S:=No) (fun q hq e=>by have h2:q=w3.heap.size:=e;have:=HM3.out.size;omega))
 have HS9:=zh (Sl.of_own (X:=No) hown (fun _ _ f=>f));clear hown hgr hi0 hz0 hz1 hz2 f0;obtain ⟨a9,c9,e9⟩:=HS9.out.len;subst e9;go_wp2_with fail
 exact bodyPost_ret (v:=.tuple #[.int .i64 n,.slice a9 1 c9,.bool true]) (by simp [results,results33]) rfl (fin hR ⟨⟨_,rfl,HS9.out⟩,HM9.out⟩)
theorem code_fault (n:Int) (fb:Nat) (s1 s2:ByteArray) (w:World) (hg:ErrTy w) (hfb:w.heap[fb]? = some (.cells #[.string s1,.string s2,errnoV n] 165 (0,0))) :
  Calls prog 10 #[faultV fb] w fun e w'=>e=.returned (.int .i64 n)/\Mod No w w':=by
 refine calls_hide fun R hR=>?_
 have HF:=zh (find_fault n fb s1 s2 w hg hfb);clear hg hfb;unfold faultV at *;go_enter func10,ntmps10
 go_wp2_with fail
 with_reducible refine HF.out.mono ?_
 rintro e w2 ⟨⟨v,rfl,hsl⟩,hm⟩;obtain ⟨a,c,rfl⟩:=hsl.len;have HM:=zh hm;clear hsl hm HF;go_wp2_with fail
 exact fin hR ⟨rfl,HM.out⟩
end Go.Proofs.YticfcmdjplmaeaaGreatDoor
