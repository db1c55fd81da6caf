/-
  errors.As at a target of type *Errno and at one of type **Fault, errors.Is of a fault and its code: by Go's own text.
  errors.Is of a fault and of its code; what Fault of law 13 makes of an error; the error of a line.
-/
import Derived.Test.YtboagmbmmoomiaaGreatDoorDayAll
import Derived.LaidEql
import Derived.Stop.Asserts
import Derived.RowKitTokens
set_option linter.unusedVariables false
set_option linter.unusedSimpArgs false
set_option maxRecDepth 100000
set_option maxHeartbeats 4000000
namespace Go.Proofs.YtboagmbmmoomiaaGreatDoor
open Go.RowKit Go.Extern.Stop Go.Stop Go.Extern
def ErrTy (w:World):Prop:=w.cell? ⟨1,0,none⟩=some (.iface 199 (.agg #[.pointer (some ⟨18,74,none⟩)]))
theorem ErrTy.below {w W:World} (h:ErrTy w) (hb:Below w.heap.size w W):ErrTy W:=(hb.cell (block_lt_of_cell h)).trans h
section
variable {P:Program}
theorem run_equalIn_ifaceI (w:World) (d:Nat) {ti tn:TypeId} {ms:Array (String × TypeId)} {i:TypeInfo} {k:IntKind} (a b:Int)
 (hi:P.underlying ti=some (.interface ms)) (hn:P.underlying tn=some (.int k)) (hinfo:P.info? tn=some i) (hcomp:i.comparable=true) :
 (Op.equalIn (d+2) ti (.iface tn (.int k a)) (.iface tn (.int k b))).run P w=.ok (a==b) w:=by
 simp [Op.equalIn,run_underlying hi,run_underlying hn,typeInfo,hinfo,hcomp]
theorem run_eql_ifaceI (w:World) {ti tn:TypeId} {ms:Array (String × TypeId)} {i:TypeInfo} {k:IntKind} (a b:Int)
 (hi:P.underlying ti=some (.interface ms)) (hn:P.underlying tn=some (.int k)) (hinfo:P.info? tn=some i) (hcomp:i.comparable=true) :
 (binOp .eql ti (.iface tn (.int k a)) (.iface tn (.int k b))).run P w=.ok (.bool (a==b)) w:=by
 simp only [binOp]
 simp [Op.equal,Op.maxDepth,run_equalIn_ifaceI w 9998 a b hi hn hinfo hcomp]
end
theorem valueOfE (t:Addr) (w:World):(ReflectliteValue.unpack (.iface 145 (.pointer (some t)))).run Tryz.prog w
 = .ok (.agg #[.pointer (some ⟨18,145,none⟩),.pointer (some ⟨w.heap.size,0,none⟩),.int .u64 150]) (w.alloc (.cells #[.pointer (some t)] 145)):=by kernel_rfl
theorem valueOfF (t:Addr) (w:World):(ReflectliteValue.unpack (.iface 110 (.pointer (some t)))).run Tryz.prog w
 = .ok (.agg #[.pointer (some ⟨18,110,none⟩),.pointer (some ⟨w.heap.size,0,none⟩),.int .u64 150]) (w.alloc (.cells #[.pointer (some t)] 110)):=by kernel_rfl
theorem typeE (a:Addr) (w:World):(ReflectliteValue.methodAny (ReflectliteValue.valueError "reflectlite.Value.Type" 0) (fun t _ _ _=>ReflectliteType.toType t) #[.agg #[.pointer (some ⟨18,145,none⟩),.pointer (some a),.int .u64 150]]).run Tryz.prog w
 = .ok (.iface 199 (.agg #[.pointer (some ⟨18,145,none⟩)])) w:=by kernel_rfl
theorem typeF (a:Addr) (w:World):(ReflectliteValue.methodAny (ReflectliteValue.valueError "reflectlite.Value.Type" 0) (fun t _ _ _=>ReflectliteType.toType t) #[.agg #[.pointer (some ⟨18,110,none⟩),.pointer (some a),.int .u64 150]]).run Tryz.prog w
 = .ok (.iface 199 (.agg #[.pointer (some ⟨18,110,none⟩)])) w:=by kernel_rfl
theorem methodKind (h:Value) (w:World):(Go.method 159 199 (.agg #[h]) "Kind").run Tryz.prog w=.ok (245,h) w:=by kernel_rfl
theorem methodElem (h:Value) (w:World):(Go.method 159 199 (.agg #[h]) "Elem").run Tryz.prog w=.ok (258,.agg #[h]) w:=by kernel_rfl
theorem methodImpl (h:Value) (w:World):(Go.method 159 199 (.agg #[h]) "Implements").run Tryz.prog w=.ok (259,.agg #[h]) w:=by kernel_rfl
theorem methodAssign (h:Value) (w:World):(Go.method 159 199 (.agg #[h]) "AssignableTo").run Tryz.prog w=.ok (256,.agg #[h]) w:=by kernel_rfl
theorem methodComp (h:Value) (w:World):(Go.method 159 199 (.agg #[h]) "Comparable").run Tryz.prog w=.ok (257,.agg #[h]) w:=by kernel_rfl
theorem kindPE (w:World):((ReflectliteType.abiMethod fun t=>(fun a:Nat=>Value.int IntKind.u8 (a:Int)) <$> Rtype.kind t) #[.pointer (some ⟨18,145,none⟩)]).run Tryz.prog w=.ok (.int .u8 22) w:=by kernel_rfl
theorem kindPF (w:World):((ReflectliteType.abiMethod fun t=>(fun a:Nat=>Value.int IntKind.u8 (a:Int)) <$> Rtype.kind t) #[.pointer (some ⟨18,110,none⟩)]).run Tryz.prog w=.ok (.int .u8 22) w:=by kernel_rfl
theorem kindE (w:World):((ReflectliteType.abiMethod fun t=>(fun a:Nat=>Value.int IntKind.u8 (a:Int)) <$> Rtype.kind t) #[.pointer (some ⟨18,38,none⟩)]).run Tryz.prog w=.ok (.int .u8 2) w:=by kernel_rfl
theorem kindF (w:World):((ReflectliteType.abiMethod fun t=>(fun a:Nat=>Value.int IntKind.u8 (a:Int)) <$> Rtype.kind t) #[.pointer (some ⟨18,108,none⟩)]).run Tryz.prog w=.ok (.int .u8 22) w:=by kernel_rfl
theorem elemE (w:World):(ReflectliteType.method ReflectliteType.elem #[.agg #[.pointer (some ⟨18,145,none⟩)]]).run Tryz.prog w=.ok (.iface 199 (.agg #[.pointer (some ⟨18,38,none⟩)])) w:=by kernel_rfl
theorem elemF (w:World):(ReflectliteType.method ReflectliteType.elem #[.agg #[.pointer (some ⟨18,110,none⟩)]]).run Tryz.prog w=.ok (.iface 199 (.agg #[.pointer (some ⟨18,108,none⟩)])) w:=by kernel_rfl
theorem implE (w:World):(ReflectliteType.relation "Implements" ReflectliteType.implements_ #[.agg #[.pointer (some ⟨18,38,none⟩)],.iface 199 (.agg #[.pointer (some ⟨18,74,none⟩)])]).run Tryz.prog w=.ok (.bool true) w:=by kernel_rfl
theorem implF (w:World):(ReflectliteType.relation "Implements" ReflectliteType.implements_ #[.agg #[.pointer (some ⟨18,108,none⟩)],.iface 199 (.agg #[.pointer (some ⟨18,74,none⟩)])]).run Tryz.prog w=.ok (.bool true) w:=by kernel_rfl
theorem typeOfE (v:Value) (w:World):(ReflectliteType.typeOf #[.iface 38 v]).run Tryz.prog w=.ok (.iface 199 (.agg #[.pointer (some ⟨18,38,none⟩)])) w:=by kernel_rfl
theorem typeOfF (v:Value) (w:World):(ReflectliteType.typeOf #[.iface 108 v]).run Tryz.prog w=.ok (.iface 199 (.agg #[.pointer (some ⟨18,108,none⟩)])) w:=by kernel_rfl
theorem assignE (w:World):(ReflectliteType.relation "AssignableTo" ReflectliteType.assignableTo #[.agg #[.pointer (some ⟨18,38,none⟩)],.iface 199 (.agg #[.pointer (some ⟨18,38,none⟩)])]).run Tryz.prog w=.ok (.bool true) w:=by kernel_rfl
theorem assignF (w:World):(ReflectliteType.relation "AssignableTo" ReflectliteType.assignableTo #[.agg #[.pointer (some ⟨18,108,none⟩)],.iface 199 (.agg #[.pointer (some ⟨18,108,none⟩)])]).run Tryz.prog w=.ok (.bool true) w:=by kernel_rfl
theorem valOfE (n:Int) (w:World):(ReflectliteValue.unpack (.iface 38 (.int .i64 n))).run Tryz.prog w
 = .ok (.agg #[.pointer (some ⟨18,38,none⟩),.pointer (some ⟨w.heap.size,0,none⟩),.int .u64 130]) (w.alloc (.cells #[.int .i64 n] 38)):=by kernel_rfl
theorem valOfF (e:Addr) (w:World):(ReflectliteValue.unpack (.iface 108 (.pointer (some e)))).run Tryz.prog w
 = .ok (.agg #[.pointer (some ⟨18,108,none⟩),.pointer (some ⟨w.heap.size,0,none⟩),.int .u64 150]) (w.alloc (.cells #[.pointer (some e)] 108)):=by kernel_rfl
theorem rlm_ (z:Sem Value) (f:TypeId→Addr→Nat→Nat→Sem Value) (v:Value) :
 ReflectliteValue.method z f #[v]=(do match ← ReflectliteValue.parts v with | none=>z | some (t,a,fl)=>f t a fl (fl % 32)):=rfl
theorem partsPE (a:Addr) (w:World):(ReflectliteValue.parts (.agg #[.pointer (some ⟨18,145,none⟩),.pointer (some a),.int .u64 150])).run Tryz.prog w=.ok (some (145,a,150)) w:=by kernel_rfl
theorem partsPF (a:Addr) (w:World):(ReflectliteValue.parts (.agg #[.pointer (some ⟨18,110,none⟩),.pointer (some a),.int .u64 150])).run Tryz.prog w=.ok (some (110,a,150)) w:=by kernel_rfl
theorem isNilE (a p:Addr) (W:World) (ha:W.cell? a=some (.pointer (some p))) :
 (ReflectliteValue.method (ReflectliteValue.valueError "reflectlite.Value.IsNil" 0) ReflectliteValue.isNil #[.agg #[.pointer (some ⟨18,145,none⟩),.pointer (some a),.int .u64 150]]).run Tryz.prog W=.ok (.bool false) W:=by
 rw [rlm_];simp only [Sem.run_bind,partsPE,Result.andThen]
 simp [ReflectliteValue.isNil,loadVar,isAgg,underlying,Tryz.underlying145,ha,Result.andThen]
theorem isNilF (a p:Addr) (W:World) (ha:W.cell? a=some (.pointer (some p))) :
 (ReflectliteValue.method (ReflectliteValue.valueError "reflectlite.Value.IsNil" 0) ReflectliteValue.isNil #[.agg #[.pointer (some ⟨18,110,none⟩),.pointer (some a),.int .u64 150]]).run Tryz.prog W=.ok (.bool false) W:=by
 rw [rlm_];simp only [Sem.run_bind,partsPF,Result.andThen]
 simp [ReflectliteValue.isNil,loadVar,isAgg,underlying,Tryz.underlying110,ha,Result.andThen]
theorem elemOfE (w:World):(Rtype.elem? 145).run Tryz.prog w=.ok (some 38) w:=by kernel_rfl
theorem elemOfF (w:World):(Rtype.elem? 110).run Tryz.prog w=.ok (some 108) w:=by kernel_rfl
theorem mkE (p:Addr) (w:World):(ReflectliteValue.mk 38 p ReflectliteValue.flagAddr).run Tryz.prog w=.ok (.agg #[.pointer (some ⟨18,38,none⟩),.pointer (some p),.int .u64 386]) w:=by kernel_rfl
theorem mkF (p:Addr) (w:World):(ReflectliteValue.mk 108 p ReflectliteValue.flagAddr).run Tryz.prog w=.ok (.agg #[.pointer (some ⟨18,108,none⟩),.pointer (some p),.int .u64 406]) w:=by kernel_rfl
theorem elemVE (a p:Addr) (W:World) (ha:W.cell? a=some (.pointer (some p))) :
 (ReflectliteValue.method (ReflectliteValue.valueError "reflectlite.Value.Elem" 0) ReflectliteValue.elem #[.agg #[.pointer (some ⟨18,145,none⟩),.pointer (some a),.int .u64 150]]).run Tryz.prog W
  = .ok (.agg #[.pointer (some ⟨18,38,none⟩),.pointer (some p),.int .u64 386]) W:=by
 rw [rlm_];simp only [Sem.run_bind,partsPE,Result.andThen]
 simp [ReflectliteValue.elem,loadVar,isAgg,underlying,Tryz.underlying145,ha,Result.andThen,elemOfE,mkE]
theorem elemVF (a p:Addr) (W:World) (ha:W.cell? a=some (.pointer (some p))) :
 (ReflectliteValue.method (ReflectliteValue.valueError "reflectlite.Value.Elem" 0) ReflectliteValue.elem #[.agg #[.pointer (some ⟨18,110,none⟩),.pointer (some a),.int .u64 150]]).run Tryz.prog W
  = .ok (.agg #[.pointer (some ⟨18,108,none⟩),.pointer (some p),.int .u64 406]) W:=by
 rw [rlm_];simp only [Sem.run_bind,partsPF,Result.andThen]
 simp [ReflectliteValue.elem,loadVar,isAgg,underlying,Tryz.underlying110,ha,Result.andThen,elemOfF,mkF]
theorem rls_ (v x:Value):ReflectliteValue.set #[v,x]=(do
 let (some (dst,a,fl),some (src,b,_)):=(← ReflectliteValue.parts v,←ReflectliteValue.parts x)
  | unsupported (.noEntry "extern/(internal/reflectlite.Value).Set.zeroValue")
 if fl / ReflectliteValue.flagAddr % 2==0 then unsupported (.noEntry "extern/(internal/reflectlite.Value).Set.unaddressable")
 let val ← loadVar src b
 if ← Rtype.directlyAssignable dst src then storeVar dst a val
 else if ← Rtype.implements dst src then
  if (← Rtype.kind src)==20 then
   match val with
   | .nilIface=>unsupported (.noEntry "extern/reflectlite: a nil value of one interface type handed on as a value of another")
   | _=>storeVar dst a val
  else storeVar dst a (.iface src val)
 else panicString ("reflectlite.Set: value of type " ++ (← Rtype.spelt src) ++ " is not assignable to type " ++ (← Rtype.spelt dst))
 pure (.tuple #[])):=rfl
theorem partsEa (a:Addr) (w:World):(ReflectliteValue.parts (.agg #[.pointer (some ⟨18,38,none⟩),.pointer (some a),.int .u64 386])).run Tryz.prog w=.ok (some (38,a,386)) w:=by kernel_rfl
theorem partsEb (a:Addr) (w:World):(ReflectliteValue.parts (.agg #[.pointer (some ⟨18,38,none⟩),.pointer (some a),.int .u64 130])).run Tryz.prog w=.ok (some (38,a,130)) w:=by kernel_rfl
theorem partsFa (a:Addr) (w:World):(ReflectliteValue.parts (.agg #[.pointer (some ⟨18,108,none⟩),.pointer (some a),.int .u64 406])).run Tryz.prog w=.ok (some (108,a,406)) w:=by kernel_rfl
theorem partsFb (a:Addr) (w:World):(ReflectliteValue.parts (.agg #[.pointer (some ⟨18,108,none⟩),.pointer (some a),.int .u64 150])).run Tryz.prog w=.ok (some (108,a,150)) w:=by kernel_rfl
theorem directE (w:World):(Rtype.directlyAssignable 38 38).run Tryz.prog w=.ok true w:=by kernel_rfl
theorem directF (w:World):(Rtype.directlyAssignable 108 108).run Tryz.prog w=.ok true w:=by kernel_rfl
theorem setE (ta b:Addr) (n:Int) (old:Value) (W:World) (hb:W.cell? b=some (.int .i64 n)) (ht:W.cell? ta=some old) (hf:W.frozen? ta=false) :
 (ReflectliteValue.set #[.agg #[.pointer (some ⟨18,38,none⟩),.pointer (some ta),.int .u64 386],.agg #[.pointer (some ⟨18,38,none⟩),.pointer (some b),.int .u64 130]]).run Tryz.prog W
  = .ok (.tuple #[]) (W.setCell ta (.int .i64 n)):=by
 rw [rls_];simp only [Sem.run_bind,partsEa,partsEb,Result.andThen]
 simp [ReflectliteValue.flagAddr,loadVar,isAgg,underlying,Tryz.underlying38,hb,Result.andThen,directE,storeVar,Value.cells,storeCells,Addr.add]
 rw [run_store Tryz.prog W ta _ _ (by rfl)]
 simp [ht,hf]
theorem setF (ta b e:Addr) (old:Value) (W:World) (hb:W.cell? b=some (.pointer (some e))) (ht:W.cell? ta=some old) (hf:W.frozen? ta=false) :
 (ReflectliteValue.set #[.agg #[.pointer (some ⟨18,108,none⟩),.pointer (some ta),.int .u64 406],.agg #[.pointer (some ⟨18,108,none⟩),.pointer (some b),.int .u64 150]]).run Tryz.prog W
  = .ok (.tuple #[]) (W.setCell ta (.pointer (some e))):=by
 rw [rls_];simp only [Sem.run_bind,partsFa,partsFb,Result.andThen]
 simp [ReflectliteValue.flagAddr,loadVar,isAgg,underlying,Tryz.underlying108,hb,Result.andThen,directF,storeVar,Value.cells,storeCells,Addr.add]
 rw [run_store Tryz.prog W ta _ _ (by rfl)]
 simp [ht,hf]
theorem asE (e:Int) (t:Addr) (old:Value) (w:World) (hg:ErrTy w) (ht0:w.cell? t=some old) (hf0:w.frozen? t=false) :
 Calls Tryz.prog 46 #[.iface 38 (.int .i64 e),.iface 145 (.pointer (some t))] w fun ev w'=>ev=.returned (.bool true)∧((((w.alloc (.cells #[.pointer (some t)] 145)).alloc (.cells #[.pointer (some ⟨18,145,none⟩),.pointer (some ⟨w.heap.size,0,none⟩),.int .u64 150] 156)).alloc (.cells #[.pointer (some ⟨18,145,none⟩),.pointer (some ⟨w.heap.size,0,none⟩),.int .u64 150] 156)).alloc (.cells #[(.int .i64 e)] 38)).setCell t (.int .i64 e)=w':=by
 unfold ErrTy at hg;have h6:=@run_callFunc_extern Tryz.prog 88 _ (fun args=>ReflectliteValue.unpack (args.getD 0 (.tuple #[]))) Tryz.func88 (by kernel_rfl) (by kernel_rfl) (by kernel_rfl) (by kernel_rfl);have h7:=@run_callFunc_extern Tryz.prog 89 _ (ReflectliteValue.methodAny (ReflectliteValue.valueError "reflectlite.Value.Type" 0) (fun t _ _ _=>ReflectliteType.toType t)) Tryz.func89 (by kernel_rfl) (by kernel_rfl) (by kernel_rfl) (by kernel_rfl);have h8:=@run_callFunc_extern Tryz.prog 90 _ (ReflectliteValue.method (ReflectliteValue.valueError "reflectlite.Value.IsNil" 0) ReflectliteValue.isNil) Tryz.func90 (by kernel_rfl) (by kernel_rfl) (by kernel_rfl) (by kernel_rfl);have h27:=@run_callFunc_extern Tryz.prog 245 _ (ReflectliteType.abiMethod fun t=>do pure (.int .u8 (← Rtype.kind t))) Tryz.func245 (by kernel_rfl) (by kernel_rfl) (by kernel_rfl) (by kernel_rfl);have h37:=@run_callFunc_extern Tryz.prog 258 _ (ReflectliteType.method ReflectliteType.elem) Tryz.func258 (by kernel_rfl) (by kernel_rfl) (by kernel_rfl) (by kernel_rfl);have h38:=@run_callFunc_extern Tryz.prog 259 _ (ReflectliteType.relation "Implements" ReflectliteType.implements_) Tryz.func259 (by kernel_rfl) (by kernel_rfl) (by kernel_rfl) (by kernel_rfl);have h10:=@run_callFunc_extern Tryz.prog 92 _ ReflectliteType.typeOf Tryz.func92 (by kernel_rfl) (by kernel_rfl) (by kernel_rfl) (by kernel_rfl);have h35:=@run_callFunc_extern Tryz.prog 256 _ (ReflectliteType.relation "AssignableTo" ReflectliteType.assignableTo) Tryz.func256 (by kernel_rfl) (by kernel_rfl) (by kernel_rfl) (by kernel_rfl);have h11:=@run_callFunc_extern Tryz.prog 121 _ (ReflectliteValue.method (ReflectliteValue.valueError "reflectlite.Value.Elem" 0) ReflectliteValue.elem) Tryz.func121 (by kernel_rfl) (by kernel_rfl) (by kernel_rfl) (by kernel_rfl);have h12:=@run_callFunc_extern Tryz.prog 122 _ ReflectliteValue.set Tryz.func122 (by kernel_rfl) (by kernel_rfl) (by kernel_rfl) (by kernel_rfl);have tO:=typeOfE;have mA:=methodAssign;have a25:=assignE;have v25:=valOfE;have f6:=valueOfE;have f7:=typeE;have mK:=methodKind;have mE:=methodElem;have mI:=methodImpl;have k27:=kindPE;have k25:=kindE;have e27:=elemE;have i25:=implE;have n8:=isNilE ⟨w.heap.size,0,none⟩ t ((w.alloc (.cells #[.pointer (some t)] 145)).alloc (.cells #[.pointer (some ⟨18,145,none⟩),.pointer (some ⟨w.heap.size,0,none⟩),.int .u64 150] 156)) (by simp);have hlt:1<w.heap.size:=block_lt_of_cell hg
 have hg2:((w.alloc (.cells #[.pointer (some t)] 145)).alloc (.cells #[.pointer (some ⟨18,145,none⟩),.pointer (some ⟨w.heap.size,0,none⟩),.int .u64 150] 156)).cell? ⟨1,0,none⟩=some (.iface 199 (.agg #[.pointer (some ⟨18,74,none⟩)])):=by
  rw [World.cell?_alloc_lt _ _ ⟨1,0,none⟩ (by simp<;>omega),World.cell?_alloc_lt _ _ ⟨1,0,none⟩ hlt];exact hg
 have htl:t.block<w.heap.size:=by
  rcases Nat.lt_or_ge t.block w.heap.size with h|h
  ·exact h
  ·simp [World.cell?,Array.getElem?_eq_none h] at ht0
 have el:=elemVE ⟨w.heap.size,0,none⟩ t (((w.alloc (.cells #[.pointer (some t)] 145)).alloc (.cells #[.pointer (some ⟨18,145,none⟩),.pointer (some ⟨w.heap.size,0,none⟩),.int .u64 150] 156)).alloc (.cells #[.pointer (some ⟨18,145,none⟩),.pointer (some ⟨w.heap.size,0,none⟩),.int .u64 150] 156)) (by rw [World.cell?_alloc_lt _ _ ⟨w.heap.size,0,none⟩ (by simp;omega)];simp)
 have st:=setE t ⟨w.heap.size+1+1+1,0,none⟩ e old ((((w.alloc (.cells #[.pointer (some t)] 145)).alloc (.cells #[.pointer (some ⟨18,145,none⟩),.pointer (some ⟨w.heap.size,0,none⟩),.int .u64 150] 156)).alloc (.cells #[.pointer (some ⟨18,145,none⟩),.pointer (some ⟨w.heap.size,0,none⟩),.int .u64 150] 156)).alloc (.cells #[(.int .i64 e)] 38))
  (by rw [World.cell?_alloc_at _ _ _ _ (by simp)];rfl)
  (by rw [World.cell?_alloc_lt _ _ t (by simp;omega),World.cell?_alloc_lt _ _ t (by simp;omega),World.cell?_alloc_lt _ _ t (by simp;omega),World.cell?_alloc_lt _ _ t htl];exact ht0)
  (by rw [World.frozen?_alloc_old _ _ t (by simp;omega),World.frozen?_alloc_old _ _ t (by simp;omega),World.frozen?_alloc_old _ _ t (by simp;omega),World.frozen?_alloc_old _ _ t (Nat.ne_of_lt htl)];exact hf0)
 go_enter Tryz.func46,Tryz.ntmps46
 go_wp2
 refine wp_loop_rounds 1 ?_;rw [rounds_succ]
 go_wp2
 go_ret
 exact ⟨rfl,rfl⟩
theorem asF (e:Addr) (t:Addr) (old:Value) (w:World) (hg:ErrTy w) (ht0:w.cell? t=some old) (hf0:w.frozen? t=false) :
 Calls Tryz.prog 46 #[.iface 108 (.pointer (some e)),.iface 110 (.pointer (some t))] w fun ev w'=>ev=.returned (.bool true)∧((((w.alloc (.cells #[.pointer (some t)] 110)).alloc (.cells #[.pointer (some ⟨18,110,none⟩),.pointer (some ⟨w.heap.size,0,none⟩),.int .u64 150] 156)).alloc (.cells #[.pointer (some ⟨18,110,none⟩),.pointer (some ⟨w.heap.size,0,none⟩),.int .u64 150] 156)).alloc (.cells #[(.pointer (some e))] 108)).setCell t (.pointer (some e))=w':=by
 unfold ErrTy at hg;have h6:=@run_callFunc_extern Tryz.prog 88 _ (fun args=>ReflectliteValue.unpack (args.getD 0 (.tuple #[]))) Tryz.func88 (by kernel_rfl) (by kernel_rfl) (by kernel_rfl) (by kernel_rfl);have h7:=@run_callFunc_extern Tryz.prog 89 _ (ReflectliteValue.methodAny (ReflectliteValue.valueError "reflectlite.Value.Type" 0) (fun t _ _ _=>ReflectliteType.toType t)) Tryz.func89 (by kernel_rfl) (by kernel_rfl) (by kernel_rfl) (by kernel_rfl);have h8:=@run_callFunc_extern Tryz.prog 90 _ (ReflectliteValue.method (ReflectliteValue.valueError "reflectlite.Value.IsNil" 0) ReflectliteValue.isNil) Tryz.func90 (by kernel_rfl) (by kernel_rfl) (by kernel_rfl) (by kernel_rfl);have h27:=@run_callFunc_extern Tryz.prog 245 _ (ReflectliteType.abiMethod fun t=>do pure (.int .u8 (← Rtype.kind t))) Tryz.func245 (by kernel_rfl) (by kernel_rfl) (by kernel_rfl) (by kernel_rfl);have h37:=@run_callFunc_extern Tryz.prog 258 _ (ReflectliteType.method ReflectliteType.elem) Tryz.func258 (by kernel_rfl) (by kernel_rfl) (by kernel_rfl) (by kernel_rfl);have h38:=@run_callFunc_extern Tryz.prog 259 _ (ReflectliteType.relation "Implements" ReflectliteType.implements_) Tryz.func259 (by kernel_rfl) (by kernel_rfl) (by kernel_rfl) (by kernel_rfl);have h10:=@run_callFunc_extern Tryz.prog 92 _ ReflectliteType.typeOf Tryz.func92 (by kernel_rfl) (by kernel_rfl) (by kernel_rfl) (by kernel_rfl);have h35:=@run_callFunc_extern Tryz.prog 256 _ (ReflectliteType.relation "AssignableTo" ReflectliteType.assignableTo) Tryz.func256 (by kernel_rfl) (by kernel_rfl) (by kernel_rfl) (by kernel_rfl);have h11:=@run_callFunc_extern Tryz.prog 121 _ (ReflectliteValue.method (ReflectliteValue.valueError "reflectlite.Value.Elem" 0) ReflectliteValue.elem) Tryz.func121 (by kernel_rfl) (by kernel_rfl) (by kernel_rfl) (by kernel_rfl);have h12:=@run_callFunc_extern Tryz.prog 122 _ ReflectliteValue.set Tryz.func122 (by kernel_rfl) (by kernel_rfl) (by kernel_rfl) (by kernel_rfl);have tO:=typeOfF;have mA:=methodAssign;have a25:=assignF;have v25:=valOfF;have f6:=valueOfF;have f7:=typeF;have mK:=methodKind;have mE:=methodElem;have mI:=methodImpl;have k27:=kindPF;have k25:=kindF;have e27:=elemF;have i25:=implF;have n8:=isNilF ⟨w.heap.size,0,none⟩ t ((w.alloc (.cells #[.pointer (some t)] 110)).alloc (.cells #[.pointer (some ⟨18,110,none⟩),.pointer (some ⟨w.heap.size,0,none⟩),.int .u64 150] 156)) (by simp);have hlt:1<w.heap.size:=block_lt_of_cell hg
 have hg2:((w.alloc (.cells #[.pointer (some t)] 110)).alloc (.cells #[.pointer (some ⟨18,110,none⟩),.pointer (some ⟨w.heap.size,0,none⟩),.int .u64 150] 156)).cell? ⟨1,0,none⟩=some (.iface 199 (.agg #[.pointer (some ⟨18,74,none⟩)])):=by
  rw [World.cell?_alloc_lt _ _ ⟨1,0,none⟩ (by simp<;>omega),World.cell?_alloc_lt _ _ ⟨1,0,none⟩ hlt];exact hg
 have htl:t.block<w.heap.size:=by
  rcases Nat.lt_or_ge t.block w.heap.size with h|h
  ·exact h
  ·simp [World.cell?,Array.getElem?_eq_none h] at ht0
 have el:=elemVF ⟨w.heap.size,0,none⟩ t (((w.alloc (.cells #[.pointer (some t)] 110)).alloc (.cells #[.pointer (some ⟨18,110,none⟩),.pointer (some ⟨w.heap.size,0,none⟩),.int .u64 150] 156)).alloc (.cells #[.pointer (some ⟨18,110,none⟩),.pointer (some ⟨w.heap.size,0,none⟩),.int .u64 150] 156)) (by rw [World.cell?_alloc_lt _ _ ⟨w.heap.size,0,none⟩ (by simp;omega)];simp)
 have st:=setF t ⟨w.heap.size+1+1+1,0,none⟩ e old ((((w.alloc (.cells #[.pointer (some t)] 110)).alloc (.cells #[.pointer (some ⟨18,110,none⟩),.pointer (some ⟨w.heap.size,0,none⟩),.int .u64 150] 156)).alloc (.cells #[.pointer (some ⟨18,110,none⟩),.pointer (some ⟨w.heap.size,0,none⟩),.int .u64 150] 156)).alloc (.cells #[(.pointer (some e))] 108))
  (by rw [World.cell?_alloc_at _ _ _ _ (by simp)];rfl)
  (by rw [World.cell?_alloc_lt _ _ t (by simp;omega),World.cell?_alloc_lt _ _ t (by simp;omega),World.cell?_alloc_lt _ _ t (by simp;omega),World.cell?_alloc_lt _ _ t htl];exact ht0)
  (by rw [World.frozen?_alloc_old _ _ t (by simp;omega),World.frozen?_alloc_old _ _ t (by simp;omega),World.frozen?_alloc_old _ _ t (by simp;omega),World.frozen?_alloc_old _ _ t (Nat.ne_of_lt htl)];exact hf0)
 go_enter Tryz.func46,Tryz.ntmps46
 go_wp2
 refine wp_loop_rounds 1 ?_;rw [rounds_succ]
 go_wp2
 go_ret
 exact ⟨rfl,rfl⟩
theorem isTypeOfE (v:Value) (w:World):(ReflectliteType.typeOf #[.iface 38 v]).run Tryz.prog w=.ok (.iface 199 (.agg #[.pointer (some ⟨18,38,none⟩)])) w:=by kernel_rfl
theorem compE (w:World):(ReflectliteType.method (fun t=>do Rtype.noPackHeld "Comparable" t;(fun a=>Value.bool a.comparable) <$> typeInfo t) #[.agg #[.pointer (some ⟨18,38,none⟩)]]).run Tryz.prog w=.ok (.bool true) w:=by kernel_rfl
theorem noIsF (v:Value) (xT:TypeId) (w:World):(Instr.typeAssert (.iface 108 v) xT 211 true).run Tryz.prog w=.ok (.tuple #[.nilIface,.bool false]) w:=run_typeAssert_lacksB Tryz.underlying211 (by kernel_rfl) (by kernel_rfl) v xT w
theorem noIsE (v:Value) (xT:TypeId) (w:World):(Instr.typeAssert (.iface 38 v) xT 211 true).run Tryz.prog w=.ok (.tuple #[.nilIface,.bool false]) w:=run_typeAssert_lacksB Tryz.underlying211 (by kernel_rfl) (by kernel_rfl) v xT w
theorem hasUnwrapF (v:Value) (xT:TypeId) (w:World):(Instr.typeAssert (.iface 108 v) xT 206 true).run Tryz.prog w=.ok (.tuple #[.iface 108 v,.bool true]) w:=run_typeAssert_hasB Tryz.underlying206 (by kernel_rfl) v xT w
theorem methodUnwrapF (v:Value) (w:World):(Go.method 206 108 v "Unwrap").run Tryz.prog w=.ok (251,v) w:=by kernel_rfl
theorem isCompE:(Tryz.prog.info? 38).map (·.comparable)=some true:=by kernel_rfl
theorem isF (b:Nat) (n:Int) (w:World) (hc:w.cell? ⟨b,2,none⟩=some (.int .i64 n)):Calls Tryz.prog 47 #[.iface 108 (.pointer (some ⟨b,0,none⟩)),.iface 38 (.int .i64 n)] w fun e w'=>e=.returned (.bool true)∧w=w':=by
 obtain ⟨i,hi,hcmp⟩:=Option.map_eq_some_iff.1 isCompE;have h8:=@run_callFunc_extern Tryz.prog 92 _ ReflectliteType.typeOf Tryz.func92 (by kernel_rfl) (by kernel_rfl) (by kernel_rfl) (by kernel_rfl);have h32:=@run_callFunc_extern Tryz.prog 257 _ (ReflectliteType.method fun t=>do Rtype.noPackHeld "Comparable" t;pure (.bool (← typeInfo t).comparable)) Tryz.func257 (by kernel_rfl) (by kernel_rfl) (by kernel_rfl) (by kernel_rfl);have tT:=isTypeOfE;have cT:=compE;have mR:=methodComp;have nE:=noIsF;have nW:=noIsE;have uW:=hasUnwrapF;have mU:=methodUnwrapF;have heq:=run_eql_ifaceI (P:=Tryz.prog) w n n Tryz.underlying74 Tryz.underlying38 hi hcmp;rw [show (n==n)=true from by simp] at heq;have hty:=run_eql_iface_types (P:=Tryz.prog) 108 38 (.pointer (some ⟨b,0,none⟩)) (.int .i64 n) Tryz.underlying74 (by decide) w
 go_enter Tryz.func47,Tryz.ntmps47
 go_wp2
 refine wp_loop_rounds 2 ?_;rw [rounds_succ]
 go_wp2
 rw [rounds_succ]
 go_wp2
 go_ret
 exact ⟨rfl,rfl⟩
def errV (n:Int):Value:=if n=0 then .nilIface else .iface 38 (.int .i64 n)
def FaultAt (W:World) (v:Value) (n e:Int):Prop:=∃g,v=.iface 108 (.pointer (some ⟨g,0,none⟩))∧Blk W g 78 #[.int .i64 0,.int .i64 n,.int .i64 e]
theorem FaultAt.below {W W':World} {v:Value} {n e:Int} (h:FaultAt W v n e) (hb:Below W.heap.size W W'):FaultAt W' v n e:=by
 obtain ⟨g,e1,h1⟩:=h;exact ⟨g,e1,h1.below hb h1.lt⟩
theorem at_any (line n:Int) (w:World) (hE:ErrTy w):Calls Tryz.prog 44 #[.int .i64 line,.iface 38 (.int .i64 n)] w fun e w'=>(∃v,e=.returned v∧FaultAt w' v line n)∧Below w.heap.size w w':=by
 have hb0:Below w.heap.size w (w.alloc (.cells #[.int .i64 5] 38)):=(Below.refl _ _).alloc (Nat.le_refl _) _;have hk:=Blk.new' w 38 #[.int .i64 5] rfl;have HA:=Lib.hid (asE n ⟨w.heap.size,0,none⟩ (.int .i64 5) (w.alloc (.cells #[.int .i64 5] 38)) (hE.below hb0) (hk.cell_ rfl) (hk.frozen 0));have HK:=Lib.hid (And.intro hk hb0);clear hb0 hk hE
 go_enter Tryz.func44,Tryz.ntmps44;go_wp2_with fail
 generalize w.alloc (.cells #[.int .i64 5] 38)=w0 at *;refine HA.out.mono ?_;rintro e w1 ⟨rfl,hw⟩;have hb1:Below w0.heap.size w0 ((((w0.alloc (.cells #[.pointer (some ⟨w.heap.size,0,none⟩)] 145)).alloc (.cells #[.pointer (some ⟨18,145,none⟩),.pointer (some ⟨w0.heap.size,0,none⟩),.int .u64 150] 156)).alloc (.cells #[.pointer (some ⟨18,145,none⟩),.pointer (some ⟨w0.heap.size,0,none⟩),.int .u64 150] 156)).alloc (.cells #[.int .i64 n] 38)):=by go_grown
 have hk1:=(HK.out.1.below hb1 HK.out.1.lt).set_ 0 (.int .i64 n);have hbw:=(HK.out.2.trans (hb1.mono HK.out.2.size)).setCell (p:=⟨w.heap.size,0,none⟩) (Nat.le_refl _) (.int .i64 n);rw [hw] at hk1 hbw;have c0:=hk1.cell_ (i:=0) rfl;have HB:=Lib.hid hbw;clear hb1 hk1 hbw hw HK HA;go_wp2_with fail
 go_ret
 exact ⟨⟨_,rfl,_,rfl,Blk.new' _ _ _ rfl⟩,HB.out.alloc HB.out.size _⟩
theorem wrong_any (n:Int) (w:World):Calls Tryz.prog 81 #[.int .i64 n] w fun e w'=>e=.returned (errV n)∧w=w':=by
 by_cases h:n=0
 ·subst h
  rw [show errV 0=.nilIface from if_pos rfl]
  go_enter Tryz.func81,Tryz.ntmps81
  go_wp2
  go_ret
  exact ⟨rfl,rfl⟩
 ·rw [show errV n=.iface 38 (.int .i64 n) from if_neg h]
  have hq:(n==0)=false:=by rw [beq_eq_false_iff_ne];exact h
  clear h
  go_enter Tryz.func81,Tryz.ntmps81
  go_wp2
  go_ret
  exact ⟨rfl,rfl⟩
theorem sfew_any (n m:Nat) (w:World) (hn:n≤1048577) (hm:m≤1048576):Calls Tryz.prog 116 #[.int .i64 (n:Int),.int .i64 (m:Int)] w fun e w'=>e=.returned (errV (if m<n then 7 else 0))∧w=w':=by
 by_cases h:m<n
 ·rw [if_pos h,show errV 7=.iface 38 (.int .i64 7) from rfl]
  have h1:decide ((m:Int)<(n:Int))=true:=by simp;omega
  have h2:decide (m<n)=true:=by simp;omega
  clear h
  go_enter Tryz.func116,Tryz.ntmps116
  go_wp2
  go_ret
  exact ⟨rfl,rfl⟩
 ·rw [if_neg h,show errV 0=.nilIface from rfl]
  have h1:decide ((m:Int)<(n:Int))=false:=by simp;omega
  have h2:decide (m<n)=false:=by simp;omega
  clear h
  go_enter Tryz.func116,Tryz.ntmps116
  go_wp2
  go_ret
  exact ⟨rfl,rfl⟩
end Go.Proofs.YtboagmbmmoomiaaGreatDoor
