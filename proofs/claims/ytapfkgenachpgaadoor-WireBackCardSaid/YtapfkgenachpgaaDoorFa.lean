/-
 errors.As and errors.Is of an error that is a *api.Fault: contracts, by the walk of Go's own text.
 No conditions.
-/
import Derived.Test.YtapfkgenachpgaaDoorChecked
import Derived.WalkKit
import Derived.LaidEql
import Derived.Stop.Asserts
import Derived.RowKitTokens
import Derived.Below
import Derived.ChangeSame
import Derived.ChangeVars
import Derived.JoinedOf
import Derived.RowKit
import Derived.LaidLaws
import Derived.LaidHandle
import Derived.Stop.Joined
import Derived.Test.YtapfkgenachpgaaDoorEv8
namespace Go.Proofs.YtapfkgenachpgaaDoor.fa
open Go.ChangeShapes Go.WideShapes Go.RowKit Go.Extern.Stop Go.Stop Go.Extern Go.Ev
set_option linter.unusedVariables false
set_option linter.unusedSimpArgs false
theorem as_nil (t:Value) (w:World):
  Calls Tryd.prog 45 #[.nilIface,t] w fun e w'=>e=.returned (.bool false)∧w'=w:=by
 go_enter Tryd.func45,Tryd.ntmps45
 go_wp2
 go_ret
 exact ⟨rfl,rfl⟩
theorem valueOfPP (t:Addr) (w:World):(ReflectliteValue.unpack (.iface 76 (.pointer (some t)))).run Tryd.prog w
  =.ok (.agg #[.pointer (some ⟨1,76,none⟩),.pointer (some ⟨w.heap.size,0,none⟩),.int .u64 150]) (w.alloc (.cells #[.pointer (some t)] 76)):=by kernel_rfl
theorem typePP (a:Addr) (w:World):(ReflectliteValue.methodAny (ReflectliteValue.valueError "reflectlite.Value.Type" 0) (fun t _ _ _=>ReflectliteType.toType t) #[.agg #[.pointer (some ⟨1,76,none⟩),.pointer (some a),.int .u64 150]]).run Tryd.prog w
  =.ok (.iface 100 (.agg #[.pointer (some ⟨1,76,none⟩)])) w:=by kernel_rfl
theorem methodKind (h:Value) (w:World):(Go.method 242 100 (.agg #[h]) "Kind").run Tryd.prog w=.ok (73,h) w:=by kernel_rfl
theorem kindPP (w:World):((ReflectliteType.abiMethod fun t=>(fun a:Nat=>Value.int IntKind.u8 (a:Int))<$>Rtype.kind t) #[.pointer (some ⟨1,76,none⟩)]).run Tryd.prog w=.ok (.int .u8 22) w:=by kernel_rfl
theorem kindF (w:World):((ReflectliteType.abiMethod fun t=>(fun a:Nat=>Value.int IntKind.u8 (a:Int))<$>Rtype.kind t) #[.pointer (some ⟨1,74,none⟩)]).run Tryd.prog w=.ok (.int .u8 22) w:=by kernel_rfl
theorem rlm (z:Sem Value) (f:TypeId→Addr→Nat→Nat→Sem Value) (v:Value):
  ReflectliteValue.method z f #[v]=(do match←ReflectliteValue.parts v with|none=>z|some (t,a,fl)=>f t a fl (fl%32)):=rfl
theorem partsPP (a:Addr) (w:World):(ReflectliteValue.parts (.agg #[.pointer (some ⟨1,76,none⟩),.pointer (some a),.int .u64 150])).run Tryd.prog w=.ok (some (76,a,150)) w:=by kernel_rfl
theorem isNilPP (a p:Addr) (W:World) (ha:W.cell? a=some (.pointer (some p))):
  (ReflectliteValue.method (ReflectliteValue.valueError "reflectlite.Value.IsNil" 0) ReflectliteValue.isNil #[.agg #[.pointer (some ⟨1,76,none⟩),.pointer (some a),.int .u64 150]]).run Tryd.prog W=.ok (.bool false) W:=by
 rw [rlm]
 simp only [Sem.run_bind,partsPP,Result.andThen]
 simp [ReflectliteValue.isNil,loadVar,isAgg,underlying,Tryd.underlying76,ha,Result.andThen]
theorem methodElem (h:Value) (w:World):(Go.method 242 100 (.agg #[h]) "Elem").run Tryd.prog w=.ok (85,.agg #[h]) w:=by kernel_rfl
theorem methodImplements (h:Value) (w:World):(Go.method 242 100 (.agg #[h]) "Implements").run Tryd.prog w=.ok (86,.agg #[h]) w:=by kernel_rfl
theorem methodAssignableTo (h:Value) (w:World):(Go.method 242 100 (.agg #[h]) "AssignableTo").run Tryd.prog w=.ok (83,.agg #[h]) w:=by kernel_rfl
theorem methodComparable (h:Value) (w:World):(Go.method 242 100 h "Comparable").run Tryd.prog w=.ok (84,h) w:=by kernel_rfl
theorem elemPP (w:World):(ReflectliteType.method ReflectliteType.elem #[.agg #[.pointer (some ⟨1,76,none⟩)]]).run Tryd.prog w=.ok (.iface 100 (.agg #[.pointer (some ⟨1,74,none⟩)])) w:=by kernel_rfl
theorem implementsF (w:World):(ReflectliteType.relation "Implements" ReflectliteType.implements_ #[.agg #[.pointer (some ⟨1,74,none⟩)],.iface 100 (.agg #[.pointer (some ⟨1,52,none⟩)])]).run Tryd.prog w=.ok (.bool true) w:=by kernel_rfl
theorem typeOfF (v:Value) (w:World):(ReflectliteType.typeOf #[.iface 74 v]).run Tryd.prog w=.ok (.iface 100 (.agg #[.pointer (some ⟨1,74,none⟩)])) w:=by kernel_rfl
theorem typeOfE (v:Value) (w:World):(ReflectliteType.typeOf #[.iface 40 v]).run Tryd.prog w=.ok (.iface 100 (.agg #[.pointer (some ⟨1,40,none⟩)])) w:=by kernel_rfl
theorem comparableE (w:World):(callFunc 84 #[.agg #[.pointer (some ⟨1,40,none⟩)]]).run Tryd.prog w=.ok (.value (.bool true)) w:=by
 rw [run_callFunc_extern (P:=Tryd.prog) (f:=84) (e:=ReflectliteType.method fun t=>do Rtype.noPackHeld "Comparable" t;pure (.bool (←typeInfo t).comparable)) Tryd.func84 (by kernel_rfl) (by kernel_rfl) (by kernel_rfl) (by kernel_rfl)]
 have:((ReflectliteType.method fun t=>do Rtype.noPackHeld "Comparable" t;pure (.bool (←typeInfo t).comparable)) #[.agg #[.pointer (some ⟨1,40,none⟩)]]).run Tryd.prog w=.ok (.bool true) w:=by kernel_rfl
 rw [this];rfl
theorem assignableF (w:World):(ReflectliteType.relation "AssignableTo" ReflectliteType.assignableTo #[.agg #[.pointer (some ⟨1,74,none⟩)],.iface 100 (.agg #[.pointer (some ⟨1,74,none⟩)])]).run Tryd.prog w=.ok (.bool true) w:=by kernel_rfl
theorem valueOfF (e:Addr) (w:World):(ReflectliteValue.unpack (.iface 74 (.pointer (some e)))).run Tryd.prog w
  =.ok (.agg #[.pointer (some ⟨1,74,none⟩),.pointer (some ⟨w.heap.size,0,none⟩),.int .u64 150]) (w.alloc (.cells #[.pointer (some e)] 74)):=by kernel_rfl
theorem elemOfPP (w:World):(Rtype.elem? 76).run Tryd.prog w=.ok (some 74) w:=by kernel_rfl
theorem mkF (p:Addr) (w:World):(ReflectliteValue.mk 74 p ReflectliteValue.flagAddr).run Tryd.prog w=.ok (.agg #[.pointer (some ⟨1,74,none⟩),.pointer (some p),.int .u64 406]) w:=by kernel_rfl
theorem elemVPP (a p:Addr) (W:World) (ha:W.cell? a=some (.pointer (some p))):
  (ReflectliteValue.method (ReflectliteValue.valueError "reflectlite.Value.Elem" 0) ReflectliteValue.elem #[.agg #[.pointer (some ⟨1,76,none⟩),.pointer (some a),.int .u64 150]]).run Tryd.prog W
   =.ok (.agg #[.pointer (some ⟨1,74,none⟩),.pointer (some p),.int .u64 406]) W:=by
 rw [rlm]
 simp only [Sem.run_bind,partsPP,Result.andThen]
 simp [ReflectliteValue.elem,loadVar,isAgg,underlying,Tryd.underlying76,ha,Result.andThen,elemOfPP,mkF]
theorem rls (v x:Value):ReflectliteValue.set #[v,x]=(do
  let (some (dst,a,fl),some (src,b,_)):=(←ReflectliteValue.parts v,←ReflectliteValue.parts x)
   |unsupported (.noEntry "extern/(internal/reflectlite.Value).Set.zeroValue")
  if fl/ReflectliteValue.flagAddr%2==0 then unsupported (.noEntry "extern/(internal/reflectlite.Value).Set.unaddressable")
  let val←loadVar src b
  if←Rtype.directlyAssignable dst src then storeVar dst a val
  else if←Rtype.implements dst src then
   if (←Rtype.kind src)==20 then
    match val with
    |.nilIface=>unsupported (.noEntry "extern/reflectlite: a nil value of one interface type handed on as a value of another")
    |_=>storeVar dst a val
   else storeVar dst a (.iface src val)
  else panicString ("reflectlite.Set: value of type " ++(←Rtype.spelt src)++ " is not assignable to type " ++(←Rtype.spelt dst))
  pure (.tuple #[])):=rfl
theorem partsFa (a:Addr) (w:World):(ReflectliteValue.parts (.agg #[.pointer (some ⟨1,74,none⟩),.pointer (some a),.int .u64 406])).run Tryd.prog w=.ok (some (74,a,406)) w:=by kernel_rfl
theorem partsF (a:Addr) (w:World):(ReflectliteValue.parts (.agg #[.pointer (some ⟨1,74,none⟩),.pointer (some a),.int .u64 150])).run Tryd.prog w=.ok (some (74,a,150)) w:=by kernel_rfl
theorem directF (w:World):(Rtype.directlyAssignable 74 74).run Tryd.prog w=.ok true w:=by kernel_rfl
theorem sizeF (w:World):(sizeOf 74).run Tryd.prog w=.ok 1 w:=by kernel_rfl
theorem storeF (ta e:Addr) (old:Value) (W:World) (ht:W.cell? ta=some old) (hf:W.frozen? ta=false):
  (Instr.storeAt 74 (.pointer (some ta)) (.pointer (some e))).run Tryd.prog W=.ok () (W.setCell ta (.pointer (some e))):=by
 simp [Instr.storeAt,Instr.sureAddr,storeVar,sizeF,Value.cells,storeCells,Addr.add,Result.andThen]
 rw [run_store Tryd.prog W ta _ _ (by rfl)]
 simp [ht,hf]
theorem setF (ta b e:Addr) (old:Value) (W:World) (hb:W.cell? b=some (.pointer (some e))) (ht:W.cell? ta=some old) (hf:W.frozen? ta=false):
  (ReflectliteValue.set #[.agg #[.pointer (some ⟨1,74,none⟩),.pointer (some ta),.int .u64 406],.agg #[.pointer (some ⟨1,74,none⟩),.pointer (some b),.int .u64 150]]).run Tryd.prog W
   =.ok (.tuple #[]) (W.setCell ta (.pointer (some e))):=by
 rw [rls]
 simp only [Sem.run_bind,partsFa,partsF,Result.andThen]
 simp [ReflectliteValue.flagAddr,loadVar,isAgg,underlying,Tryd.underlying74,hb,Result.andThen,directF,storeVar,sizeF,Value.cells,storeCells,Addr.add]
 rw [run_store Tryd.prog W ta _ _ (by rfl)]
 simp [ht,hf]
def isErr (O:Obj):Prop:= ∃C t fr,O=.cells C t fr∧C[0]? =some (.iface 100 (.agg #[.pointer (some ⟨1,52,none⟩)]))
set_option maxHeartbeats 4000000 in
theorem as_hit (e t:Addr) (old:Value) (w:World) (hg:w.cell? ⟨0,0,none⟩=some (.iface 100 (.agg #[.pointer (some ⟨1,52,none⟩)]))) (ht0:w.cell? t=some old) (hf0:w.frozen? t=false):
  Calls Tryd.prog 45 #[.iface 74 (.pointer (some e)),.iface 76 (.pointer (some t))] w fun ev w'=>ev=.returned (.bool true)∧w'=((((w.alloc (.cells #[.pointer (some t)] 76)).alloc (.cells #[.pointer (some ⟨1,76,none⟩),.pointer (some ⟨w.heap.size,0,none⟩),.int .u64 150] 87)).alloc (.cells #[.pointer (some ⟨1,76,none⟩),.pointer (some ⟨w.heap.size,0,none⟩),.int .u64 150] 87)).alloc (.cells #[.pointer (some e)] 74)).setCell t (.pointer (some e)):=by
 have h6:=run_callFunc_extern (P:=Tryd.prog) (f:=51) (e:=(fun args=>ReflectliteValue.unpack (args.getD 0 (.tuple #[])))) Tryd.func51 (by kernel_rfl) (by kernel_rfl) (by kernel_rfl) (by kernel_rfl)
 have h7:=run_callFunc_extern (P:=Tryd.prog) (f:=52) (e:=(ReflectliteValue.methodAny (ReflectliteValue.valueError "reflectlite.Value.Type" 0) (fun t _ _ _=>ReflectliteType.toType t))) Tryd.func52 (by kernel_rfl) (by kernel_rfl) (by kernel_rfl) (by kernel_rfl)
 have h8:=run_callFunc_extern (P:=Tryd.prog) (f:=53) (e:=(ReflectliteValue.method (ReflectliteValue.valueError "reflectlite.Value.IsNil" 0) ReflectliteValue.isNil)) Tryd.func53 (by kernel_rfl) (by kernel_rfl) (by kernel_rfl) (by kernel_rfl)
 have h27:=run_callFunc_extern (P:=Tryd.prog) (f:=73) (e:=(ReflectliteType.abiMethod fun t=>do pure (.int .u8 (←Rtype.kind t)))) Tryd.func73 (by kernel_rfl) (by kernel_rfl) (by kernel_rfl) (by kernel_rfl)
 have h37:=run_callFunc_extern (P:=Tryd.prog) (f:=85) (e:=(ReflectliteType.method ReflectliteType.elem)) Tryd.func85 (by kernel_rfl) (by kernel_rfl) (by kernel_rfl) (by kernel_rfl)
 have h38:=run_callFunc_extern (P:=Tryd.prog) (f:=86) (e:=(ReflectliteType.relation "Implements" ReflectliteType.implements_)) Tryd.func86 (by kernel_rfl) (by kernel_rfl) (by kernel_rfl) (by kernel_rfl)
 have h10:=run_callFunc_extern (P:=Tryd.prog) (f:=55) (e:=ReflectliteType.typeOf) Tryd.func55 (by kernel_rfl) (by kernel_rfl) (by kernel_rfl) (by kernel_rfl)
 have h35:=run_callFunc_extern (P:=Tryd.prog) (f:=83) (e:=(ReflectliteType.relation "AssignableTo" ReflectliteType.assignableTo)) Tryd.func83 (by kernel_rfl) (by kernel_rfl) (by kernel_rfl) (by kernel_rfl)
 have h11:=run_callFunc_extern (P:=Tryd.prog) (f:=57) (e:=(ReflectliteValue.method (ReflectliteValue.valueError "reflectlite.Value.Elem" 0) ReflectliteValue.elem)) Tryd.func57 (by kernel_rfl) (by kernel_rfl) (by kernel_rfl) (by kernel_rfl)
 have h12:=run_callFunc_extern (P:=Tryd.prog) (f:=58) (e:=ReflectliteValue.set) Tryd.func58 (by kernel_rfl) (by kernel_rfl) (by kernel_rfl) (by kernel_rfl)
 have tO:=typeOfF
 have mA:=methodAssignableTo
 have a25:=assignableF
 have v25:=valueOfF
 have f6:=valueOfPP
 have f7:=typePP
 have mK:=methodKind
 have mE:=methodElem
 have mI:=methodImplements
 have k27:=kindPP
 have k25:=kindF
 have e27:=elemPP
 have i25:=implementsF
 have n8:=isNilPP ⟨w.heap.size,0,none⟩ t ((w.alloc (.cells #[.pointer (some t)] 76)).alloc (.cells #[.pointer (some ⟨1,76,none⟩),.pointer (some ⟨w.heap.size,0,none⟩),.int .u64 150] 87)) (by simp)
 have hlt:0<w.heap.size:=by
  rcases Nat.lt_or_ge 0 w.heap.size with h|h
  ·exact h
  ·simp [World.cell?,Array.getElem?_eq_none h] at hg
 have hg2:((w.alloc (.cells #[.pointer (some t)] 76)).alloc (.cells #[.pointer (some ⟨1,76,none⟩),.pointer (some ⟨w.heap.size,0,none⟩),.int .u64 150] 87)).cell? ⟨0,0,none⟩=some (.iface 100 (.agg #[.pointer (some ⟨1,52,none⟩)])):=by
  rw [World.cell?_alloc_lt _ _ ⟨0,0,none⟩ (by simp<;>omega),World.cell?_alloc_lt _ _ ⟨0,0,none⟩ hlt];exact hg
 have htl:t.block<w.heap.size:=by
  rcases Nat.lt_or_ge t.block w.heap.size with h|h
  ·exact h
  ·simp [World.cell?,Array.getElem?_eq_none h] at ht0
 have el:=elemVPP ⟨w.heap.size,0,none⟩ t (((w.alloc (.cells #[.pointer (some t)] 76)).alloc (.cells #[.pointer (some ⟨1,76,none⟩),.pointer (some ⟨w.heap.size,0,none⟩),.int .u64 150] 87)).alloc (.cells #[.pointer (some ⟨1,76,none⟩),.pointer (some ⟨w.heap.size,0,none⟩),.int .u64 150] 87)) (by rw [World.cell?_alloc_lt _ _ ⟨w.heap.size,0,none⟩ (by simp;omega)];simp)
 have st:=setF t ⟨w.heap.size+1+1+1,0,none⟩ e old ((((w.alloc (.cells #[.pointer (some t)] 76)).alloc (.cells #[.pointer (some ⟨1,76,none⟩),.pointer (some ⟨w.heap.size,0,none⟩),.int .u64 150] 87)).alloc (.cells #[.pointer (some ⟨1,76,none⟩),.pointer (some ⟨w.heap.size,0,none⟩),.int .u64 150] 87)).alloc (.cells #[.pointer (some e)] 74))
  (by rw [World.cell?_alloc_at _ _ _ _ (by simp)];rfl)
  (by rw [World.cell?_alloc_lt _ _ t (by simp;omega),World.cell?_alloc_lt _ _ t (by simp;omega),World.cell?_alloc_lt _ _ t (by simp;omega),World.cell?_alloc_lt _ _ t htl];exact ht0)
  (by rw [World.frozen?_alloc_old _ _ t (by simp;omega),World.frozen?_alloc_old _ _ t (by simp;omega),World.frozen?_alloc_old _ _ t (by simp;omega),World.frozen?_alloc_old _ _ t (Nat.ne_of_lt htl)];exact hf0)
 go_enter Tryd.func45,Tryd.ntmps45
 go_wp2
 refine wp_loop_rounds 1 ?_
 rw [rounds_succ]
 go_wp2
 go_ret
 exact ⟨rfl,rfl⟩
theorem noIsF (v:Value) (xT:TypeId) (w:World):(Instr.typeAssert (.iface 74 v) xT 111 true).run Tryd.prog w=.ok (.tuple #[.nilIface,.bool false]) w:=run_typeAssert_lacksB Tryd.underlying111 (by kernel_rfl) (by kernel_rfl) v xT w
theorem hasUnwrapF (v:Value) (xT:TypeId) (w:World):(Instr.typeAssert (.iface 74 v) xT 107 true).run Tryd.prog w=.ok (.tuple #[.iface 74 v,.bool true]) w:=run_typeAssert_hasB Tryd.underlying107 (by kernel_rfl) v xT w
theorem noIsE (v:Value) (xT:TypeId) (w:World):(Instr.typeAssert (.iface 40 v) xT 111 true).run Tryd.prog w=.ok (.tuple #[.nilIface,.bool false]) w:=run_typeAssert_lacksB Tryd.underlying111 (by kernel_rfl) (by kernel_rfl) v xT w
theorem noUnwrapE (v:Value) (xT:TypeId) (w:World):(Instr.typeAssert (.iface 40 v) xT 107 true).run Tryd.prog w=.ok (.tuple #[.nilIface,.bool false]) w:=run_typeAssert_lacksB Tryd.underlying107 (by kernel_rfl) (by kernel_rfl) v xT w
theorem noUnwrapsE (v:Value) (xT:TypeId) (w:World):(Instr.typeAssert (.iface 40 v) xT 108 true).run Tryd.prog w=.ok (.tuple #[.nilIface,.bool false]) w:=run_typeAssert_lacksB Tryd.underlying108 (by kernel_rfl) (by kernel_rfl) v xT w
theorem methodUnwrap (v:Value) (w:World):(Go.method 242 74 v "Unwrap").run Tryd.prog w=.ok (78,v) w:=by kernel_rfl
theorem eqlE (x y:Int) (w:World):(binOp .eql 52 (.iface 40 (.int .i64 x)) (.iface 40 (.int .i64 y))).run Tryd.prog w=.ok (.bool (x==y)) w:=by
 have h1:=run_underlying (P:=Tryd.prog) Tryd.underlying52
 have h2:=run_underlying (P:=Tryd.prog) Tryd.underlying40
 have hc: ∃i,Tryd.prog.info? 40=some i∧i.comparable=true:=by
  have:(Tryd.prog.info? 40).map (·.comparable)=some true:=by kernel_rfl
  obtain ⟨i,hi,hc⟩:=Option.map_eq_some_iff.1 this
  exact ⟨i,hi,hc⟩
 obtain ⟨i,hi,hc⟩:=hc
 have h: ∀d:Nat,(Op.equalIn (d+2) 52 (.iface 40 (.int .i64 x)) (.iface 40 (.int .i64 y))).run Tryd.prog w=.ok (x==y) w:=fun d=>by simp [Op.equalIn,h1,h2,typeInfo,hi,hc]
 simp only [binOp]
 simp [Op.equal,Op.maxDepth,h 9998]
set_option maxHeartbeats 4000000 in
theorem is_hit (p:Addr) (c c':Int) (w:World) (hp:w.cell? p=some (.int .i64 c')):
  Calls Tryd.prog 46 #[.iface 74 (.pointer (some p)),.iface 40 (.int .i64 c)] w fun e w'=>e=.returned (.bool (c'==c))∧w'=w:=by
 have h10:=run_callFunc_extern (P:=Tryd.prog) (f:=55) (e:=ReflectliteType.typeOf) Tryd.func55 (by kernel_rfl) (by kernel_rfl) (by kernel_rfl) (by kernel_rfl)
 have tO:=typeOfE
 have mC:=methodComparable
 have cE:=comparableE
 have nF:=noIsF
 have uF:=hasUnwrapF
 have mU:=methodUnwrap
 have nE:=noIsE
 have uE:=noUnwrapE
 have vE:=noUnwrapsE
 have q1:=run_eql_iface_types (P:=Tryd.prog) 74 40 (.pointer (some p)) (.int .i64 c) Tryd.underlying52 (by decide) w
 have q2:=eqlE c' c w
 have fin: ∀r:Bool,(binOp .eql 52 (.iface 40 (.int .i64 c')) (.iface 40 (.int .i64 c))).run Tryd.prog w=.ok (.bool r) w→Calls Tryd.prog 46 #[.iface 74 (.pointer (some p)),.iface 40 (.int .i64 c)] w fun e w'=>e=.returned (.bool r)∧w'=w:=by
  clear q2
  intro r q2
  cases r
  ·go_enter Tryd.func46,Tryd.ntmps46
   go_wp2
   refine wp_loop_rounds 2 ?_
   rw [rounds_succ]
   go_wp2
   rw [rounds_succ]
   go_wp2
   go_ret
   exact ⟨rfl,rfl⟩
  ·go_enter Tryd.func46,Tryd.ntmps46
   go_wp2
   refine wp_loop_rounds 2 ?_
   rw [rounds_succ]
   go_wp2
   rw [rounds_succ]
   go_wp2
   go_ret
   exact ⟨rfl,rfl⟩
 exact fin _ q2
theorem as_ok:AsOk Tryd.prog 45 74 76 0 isErr where
 nil:=as_nil
 hit:=fun p t old w O ⟨C,ty,fr,hO0,hC⟩ hO ht hf=>by
  subst hO0
  have hg:w.cell? ⟨0,0,none⟩=some (.iface 100 (.agg #[.pointer (some ⟨1,52,none⟩)])):=by
   simp [World.cell?,hO,hC]
  have htl:t.block<w.heap.size:=by
   rcases Nat.lt_or_ge t.block w.heap.size with h|h
   ·exact h
   ·simp [World.cell?,Array.getElem?_eq_none h] at ht
  refine (as_hit p t old w hg ht hf).mono ?_
  rintro e w' ⟨rfl,rfl⟩
  refine ⟨rfl,_,?_,storeF t p old _ ?_ ?_⟩
  ·exact ((((Below.refl _ w).alloc (Nat.le_refl _) _).alloc (by simp) _).alloc (by simp;omega) _).alloc (by simp;omega) _
  ·rw [World.cell?_alloc_lt _ _ t (by simp;omega),World.cell?_alloc_lt _ _ t (by simp;omega),World.cell?_alloc_lt _ _ t (by simp;omega),World.cell?_alloc_lt _ _ t htl];exact ht
  ·rw [World.frozen?_alloc_old _ _ t (by simp;omega),World.frozen?_alloc_old _ _ t (by simp;omega),World.frozen?_alloc_old _ _ t (by simp;omega),World.frozen?_alloc_old _ _ t (Nat.ne_of_lt htl)];exact hf
theorem is_ok:IsOk Tryd.prog 46 74 40 where
 hit:=fun p c c' w hp=>(is_hit p c c' w hp).mono fun e w' ⟨h1,h2⟩=>⟨h1,h2▸Below.refl _ _⟩
theorem own:ownKnob Tryd.prog.godebug=none:=by kernel_rfl
theorem et:Tryd.prog.globalNamed "errors.errorType" =some 0:=by kernel_rfl
theorem rt:(Tryd.prog.cutTypes.find? (·.1== "internal/reflectlite.rtype")).map (·.2)=some 100:=by kernel_rfl
theorem oneRow:((List.range 142).filter fun t=>Tryd.prog.rowNamed t [101,114,114,111,114])=[52]:=by kernel_rfl
theorem size:Tryd.prog.types.size=142:=by kernel_rfl
def laid:List (String×DataW Unit):=[("errors.errorType",.iface "internal/reflectlite.rtype" (.agg [.ptr (.lit (.string [101,114,114,111,114]))]))]
theorem handle_of_laid {W:World} (h:laidMetH Tryd.prog laid W):W.cell? ⟨0,0,none⟩=some (.iface 100 (.agg #[.pointer (some ⟨1,52,none⟩)])):=by
 have h':laidMet Tryd.prog [] W∧handlesMet Tryd.prog laid W:=h
 obtain ⟨name,u,ty,e1,e2,e3,e4,e5⟩:=h'.2 _ (List.mem_singleton.2 rfl)
 have en:name=[101,114,114,111,114]:=(Option.some.inj e1).symm
 subst en
 obtain rfl:=Option.some.inj (rt.symm.trans e2)
 have hm:ty∈(List.range 142).filter fun t=>Tryd.prog.rowNamed t [101,114,114,111,114]:=List.mem_filter.2 ⟨List.mem_range.2 (by rw [←size];exact e3),e4⟩
 rw [oneRow] at hm
 obtain rfl:=List.mem_singleton.1 hm
 have hh:typeHandle Tryd.prog 52=.pointer (some ⟨1,52,none⟩):=by kernel_rfl
 rw [hh] at e5
 simpa using World.var?_cell et e5 0
noncomputable def laidWorld (os:Os):World:=
 let w0:=World.holding Tryd.prog os ⟨#[],#[],[]⟩
 {w0 with heap:=w0.heap.modify 0 fun
   |.cells _ t frozen=> .cells #[.iface 100 (.agg #[.pointer (some ⟨1,52,none⟩)])] t frozen
   |o=>o}
theorem laidWorld_met (os:Os) (args:Array Value):laidMetH Tryd.prog laid ((laidWorld os).forCall (fun _ _=>0) ⟨#[],args,[]⟩).memory:=
 laidMetH_of_parts (laidMet_nil _ _) (by kernel_rfl)
def errRow (O:Obj):Fz:=⟨0,0,0,1,fun _ _=> .nilptr,some O⟩
theorem err_of_cell {W:World} (h:W.cell? ⟨0,0,none⟩=some (.iface 100 (.agg #[.pointer (some ⟨1,52,none⟩)]))): ∃O,isErr O∧FzOk (errRow O) W:=by
 unfold World.cell? at h
 cases hb:W.heap[0]? with
 |none=>rw [hb] at h;cases h
 |some o=>
  rw [hb] at h
  cases o with
  |cells C t fr=>exact ⟨_,⟨C,t,fr,rfl,by simpa using h⟩,C,t,fr,hb,fun m j hm hj=>absurd hj (Nat.not_lt_zero j),fun o ho=>by cases ho;exact hb⟩
  |_=>cases h
theorem own_inv {O:Obj} (h:isErr O) {σ:Sig} {r:Nat} (he:σ.ext r=some (errRow O)):OwnInv 0 isErr σ:=⟨r,errRow O,O,he,Nat.one_pos,rfl,rfl,h⟩
noncomputable def mh:MHookF:=asMh Tryd.prog 45 74 76 46 40
end Go.Proofs.YtapfkgenachpgaaDoor.fa
