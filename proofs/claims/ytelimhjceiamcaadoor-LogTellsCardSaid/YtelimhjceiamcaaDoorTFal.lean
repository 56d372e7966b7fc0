/-
 errors.As and errors.Is of an error that is a *api.Fault: contracts, by the walk of Go's own text.
 No conditions.
-/
import Derived.Test.YtelimhjceiamcaaDoorChecked
import Derived.WalkKit
import Derived.LaidEql
import Derived.Stop.Asserts
import Derived.RowKitTokens
import Derived.Below
import Derived.ChangeSame
import Derived.ChangeVars
import Derived.JoinedOf
import Derived.RowKit
import Derived.LaidLaws
import Derived.LaidHandle
import Derived.Stop.Joined
import Derived.Test.YtelimhjceiamcaaDoorTEv8
namespace Go.Proofs.YtelimhjceiamcaaDoor.fa
open Go.ChangeShapes Go.WideShapes Go.RowKit Go.Extern.Stop Go.Stop Go.Extern Go.Ev
set_option linter.unusedVariables false
set_option linter.unusedSimpArgs false
theorem Qbap (t:Value) (w:World):
  Calls Tryd.prog 35 #[.nilIface,t] w fun e w'=>e=.returned (.bool false)/\w'=w:=by
 go_enter Tryd.func35,Tryd.ntmps35
 go_wp2
 go_ret
 exact ⟨rfl,rfl⟩
theorem Qboi (t:Addr) (w:World):(ReflectliteValue.unpack (.iface 88 (.pointer (some t)))).run Tryd.prog w
  =.ok (.agg #[.pointer (some ⟨1,88,none⟩),.pointer (some ⟨w.heap.size,0,none⟩),.int .u64 150]) (w.alloc (.cells #[.pointer (some t)] 88)):=by kernel_rfl
theorem Qboe (a:Addr) (w:World):(ReflectliteValue.methodAny (ReflectliteValue.valueError "reflectlite.Value.Type" 0) (fun t _ _ _=>ReflectliteType.toType t) #[.agg #[.pointer (some ⟨1,88,none⟩),.pointer (some a),.int .u64 150]]).run Tryd.prog w
  =.ok (.iface 140 (.agg #[.pointer (some ⟨1,88,none⟩)])) w:=by kernel_rfl
theorem Qbjt (h:Value) (w:World):(Go.method 282 140 (.agg #[h]) "Kind").run Tryd.prog w=.ok (93,h) w:=by kernel_rfl
theorem Qbdw (w:World):((ReflectliteType.abiMethod fun t=>(fun a:Nat=>Value.int IntKind.u8 (a:Int))<$>Rtype.kind t) #[.pointer (some ⟨1,88,none⟩)]).run Tryd.prog w=.ok (.int .u8 22) w:=by kernel_rfl
theorem Qbdv (w:World):((ReflectliteType.abiMethod fun t=>(fun a:Nat=>Value.int IntKind.u8 (a:Int))<$>Rtype.kind t) #[.pointer (some ⟨1,78,none⟩)]).run Tryd.prog w=.ok (.int .u8 22) w:=by kernel_rfl
theorem rlm (z:Sem Value) (f:TypeId->Addr->Nat->Nat->Sem Value) (v:Value):
  ReflectliteValue.method z f #[v]=(do match<-ReflectliteValue.parts v with|none=>z|some (t,a,fl)=>f t a fl (fl%32)):=rfl
theorem Q7r (a:Addr) (w:World):(ReflectliteValue.parts (.agg #[.pointer (some ⟨1,88,none⟩),.pointer (some a),.int .u64 150])).run Tryd.prog w=.ok (some (88,a,150)) w:=by kernel_rfl
theorem Qbds (a p:Addr) (W:World) (ha:W.cell? a=some (.pointer (some p))):
  (ReflectliteValue.method (ReflectliteValue.valueError "reflectlite.Value.IsNil" 0) ReflectliteValue.isNil #[.agg #[.pointer (some ⟨1,88,none⟩),.pointer (some a),.int .u64 150]]).run Tryd.prog W=.ok (.bool false) W:=by
 rw [rlm];simp only [Sem.run_bind,Q7r,Result.andThen];simp [ReflectliteValue.isNil,loadVar,isAgg,underlying,Tryd.underlying88,ha,Result.andThen]
theorem Qbjr (h:Value) (w:World):(Go.method 282 140 (.agg #[h]) "Elem").run Tryd.prog w=.ok (106,.agg #[h]) w:=by kernel_rfl
theorem Qbjs (h:Value) (w:World):(Go.method 282 140 (.agg #[h]) "Implements").run Tryd.prog w=.ok (107,.agg #[h]) w:=by kernel_rfl
theorem Qbjp (h:Value) (w:World):(Go.method 282 140 (.agg #[h]) "AssignableTo").run Tryd.prog w=.ok (104,.agg #[h]) w:=by kernel_rfl
theorem Qbjq (h:Value) (w:World):(Go.method 282 140 h "Comparable").run Tryd.prog w=.ok (105,h) w:=by kernel_rfl
theorem Qbb6 (w:World):(ReflectliteType.method ReflectliteType.elem #[.agg #[.pointer (some ⟨1,88,none⟩)]]).run Tryd.prog w=.ok (.iface 140 (.agg #[.pointer (some ⟨1,78,none⟩)])) w:=by kernel_rfl
theorem Qbdh (w:World):(ReflectliteType.relation "Implements" ReflectliteType.implements_ #[.agg #[.pointer (some ⟨1,78,none⟩)],.iface 140 (.agg #[.pointer (some ⟨1,50,none⟩)])]).run Tryd.prog w=.ok (.bool true) w:=by kernel_rfl
theorem Qbod (v:Value) (w:World):(ReflectliteType.typeOf #[.iface 78 v]).run Tryd.prog w=.ok (.iface 140 (.agg #[.pointer (some ⟨1,78,none⟩)])) w:=by kernel_rfl
theorem Qboc (v:Value) (w:World):(ReflectliteType.typeOf #[.iface 34 v]).run Tryd.prog w=.ok (.iface 140 (.agg #[.pointer (some ⟨1,34,none⟩)])) w:=by kernel_rfl
theorem Qbbb (w:World):(callFunc 105 #[.agg #[.pointer (some ⟨1,34,none⟩)]]).run Tryd.prog w=.ok (.value (.bool true)) w:=by
 rw [run_callFunc_extern (P:=Tryd.prog) (f:=105) (e:=ReflectliteType.method fun t=>do Rtype.noPackHeld "Comparable" t;pure (.bool (<-typeInfo t).comparable)) Tryd.func105 (by kernel_rfl) (by kernel_rfl) (by kernel_rfl) (by kernel_rfl)];have:((ReflectliteType.method fun t=>do Rtype.noPackHeld "Comparable" t;pure (.bool (<-typeInfo t).comparable)) #[.agg #[.pointer (some ⟨1,34,none⟩)]]).run Tryd.prog w=.ok (.bool true) w:=by kernel_rfl
 rw [this];rfl
theorem Qbau (w:World):(ReflectliteType.relation "AssignableTo" ReflectliteType.assignableTo #[.agg #[.pointer (some ⟨1,78,none⟩)],.iface 140 (.agg #[.pointer (some ⟨1,78,none⟩)])]).run Tryd.prog w=.ok (.bool true) w:=by kernel_rfl
theorem Qboh (e:Addr) (w:World):(ReflectliteValue.unpack (.iface 78 (.pointer (some e)))).run Tryd.prog w
  =.ok (.agg #[.pointer (some ⟨1,78,none⟩),.pointer (some ⟨w.heap.size,0,none⟩),.int .u64 150]) (w.alloc (.cells #[.pointer (some e)] 78)):=by kernel_rfl
theorem Qbb5 (w:World):(Rtype.elem? 88).run Tryd.prog w=.ok (some 78) w:=by kernel_rfl
theorem mkF (p:Addr) (w:World):(ReflectliteValue.mk 78 p ReflectliteValue.flagAddr).run Tryd.prog w=.ok (.agg #[.pointer (some ⟨1,78,none⟩),.pointer (some p),.int .u64 406]) w:=by kernel_rfl
theorem Qbb7 (a p:Addr) (W:World) (ha:W.cell? a=some (.pointer (some p))):
  (ReflectliteValue.method (ReflectliteValue.valueError "reflectlite.Value.Elem" 0) ReflectliteValue.elem #[.agg #[.pointer (some ⟨1,88,none⟩),.pointer (some a),.int .u64 150]]).run Tryd.prog W
   =.ok (.agg #[.pointer (some ⟨1,78,none⟩),.pointer (some p),.int .u64 406]) W:=by
 rw [rlm];simp only [Sem.run_bind,Q7r,Result.andThen];simp [ReflectliteValue.elem,loadVar,isAgg,underlying,Tryd.underlying88,ha,Result.andThen,Qbb5,mkF]
theorem rls (v x:Value):ReflectliteValue.set #[v,x]=(do
  let (some (dst,a,fl),some (src,b,_)):=(<-ReflectliteValue.parts v,<-ReflectliteValue.parts x)
   |unsupported (.noEntry "extern/(internal/reflectlite.Value).Set.zeroValue")
  if fl/ReflectliteValue.flagAddr%2==0 then unsupported (.noEntry "extern/(internal/reflectlite.Value).Set.unaddressable")
  let val<-loadVar src b
  if<-Rtype.directlyAssignable dst src then storeVar dst a val
  else if<-Rtype.implements dst src then
   if (<-Rtype.kind src)==20 then
    match val with
    |.nilIface=>unsupported (.noEntry "extern/reflectlite: a nil value of one interface type handed on as a value of another")
    |_=>storeVar dst a val
   else storeVar dst a (.iface src val)
  else panicString ("reflectlite.Set: value of type " ++(<-Rtype.spelt src)++ " is not assignable to type " ++(<-Rtype.spelt dst))
  pure (.tuple #[])):=rfl
theorem Qbk1 (a:Addr) (w:World):(ReflectliteValue.parts (.agg #[.pointer (some ⟨1,78,none⟩),.pointer (some a),.int .u64 406])).run Tryd.prog w=.ok (some (78,a,406)) w:=by kernel_rfl
theorem Qbk0 (a:Addr) (w:World):(ReflectliteValue.parts (.agg #[.pointer (some ⟨1,78,none⟩),.pointer (some a),.int .u64 150])).run Tryd.prog w=.ok (some (78,a,150)) w:=by kernel_rfl
theorem Qbbs (w:World):(Rtype.directlyAssignable 78 78).run Tryd.prog w=.ok true w:=by kernel_rfl
theorem Qcl (w:World):(sizeOf 78).run Tryd.prog w=.ok 1 w:=by kernel_rfl
theorem Qbnr (ta e:Addr) (old:Value) (W:World) (ht:W.cell? ta=some old) (hf:W.frozen? ta=false):
  (Instr.storeAt 78 (.pointer (some ta)) (.pointer (some e))).run Tryd.prog W=.ok () (W.setCell ta (.pointer (some e))):=by
 simp [Instr.storeAt,Instr.sureAddr,storeVar,Qcl,Value.cells,storeCells,Addr.add,Result.andThen];rw [run_store Tryd.prog W ta _ _ (by rfl)];simp [ht,hf]
theorem setF (ta b e:Addr) (old:Value) (W:World) (hb:W.cell? b=some (.pointer (some e))) (ht:W.cell? ta=some old) (hf:W.frozen? ta=false):
  (ReflectliteValue.set #[.agg #[.pointer (some ⟨1,78,none⟩),.pointer (some ta),.int .u64 406],.agg #[.pointer (some ⟨1,78,none⟩),.pointer (some b),.int .u64 150]]).run Tryd.prog W
   =.ok (.tuple #[]) (W.setCell ta (.pointer (some e))):=by
 rw [rls];simp only [Sem.run_bind,Qbk1,Qbk0,Result.andThen];simp [ReflectliteValue.flagAddr,loadVar,isAgg,underlying,Tryd.underlying78,hb,Result.andThen,Qbbs,storeVar,Qcl,Value.cells,storeCells,Addr.add];rw [run_store Tryd.prog W ta _ _ (by rfl)];simp [ht,hf]
def Qd0 (O:Obj):Prop:= ∃C t fr,O=.cells C t fr/\C[0]? =some (.iface 140 (.agg #[.pointer (some ⟨1,50,none⟩)]))
set_option maxHeartbeats 4000000 in
theorem Qban (e t:Addr) (old:Value) (w:World) (hg:w.cell? ⟨0,0,none⟩=some (.iface 140 (.agg #[.pointer (some ⟨1,50,none⟩)]))) (ht0:w.cell? t=some old) (hf0:w.frozen? t=false):
  Calls Tryd.prog 35 #[.iface 78 (.pointer (some e)),.iface 88 (.pointer (some t))] w fun ev w'=>ev=.returned (.bool true)/\w'=((((w.alloc (.cells #[.pointer (some t)] 88)).alloc (.cells #[.pointer (some ⟨1,88,none⟩),.pointer (some ⟨w.heap.size,0,none⟩),.int .u64 150] 119)).alloc (.cells #[.pointer (some ⟨1,88,none⟩),.pointer (some ⟨w.heap.size,0,none⟩),.int .u64 150] 119)).alloc (.cells #[.pointer (some e)] 78)).setCell t (.pointer (some e)):=by
 have h6:=run_callFunc_extern (P:=Tryd.prog) (f:=61) (e:=(fun args=>ReflectliteValue.unpack (args.getD 0 (.tuple #[])))) Tryd.func61 (by kernel_rfl) (by kernel_rfl) (by kernel_rfl) (by kernel_rfl);have h7:=run_callFunc_extern (P:=Tryd.prog) (f:=62) (e:=(ReflectliteValue.methodAny (ReflectliteValue.valueError "reflectlite.Value.Type" 0) (fun t _ _ _=>ReflectliteType.toType t))) Tryd.func62 (by kernel_rfl) (by kernel_rfl) (by kernel_rfl) (by kernel_rfl);have h8:=run_callFunc_extern (P:=Tryd.prog) (f:=63) (e:=(ReflectliteValue.method (ReflectliteValue.valueError "reflectlite.Value.IsNil" 0) ReflectliteValue.isNil)) Tryd.func63 (by kernel_rfl) (by kernel_rfl) (by kernel_rfl) (by kernel_rfl);have h27:=run_callFunc_extern (P:=Tryd.prog) (f:=93) (e:=(ReflectliteType.abiMethod fun t=>do pure (.int .u8 (<-Rtype.kind t)))) Tryd.func93 (by kernel_rfl) (by kernel_rfl) (by kernel_rfl) (by kernel_rfl);have h37:=run_callFunc_extern (P:=Tryd.prog) (f:=106) (e:=(ReflectliteType.method ReflectliteType.elem)) Tryd.func106 (by kernel_rfl) (by kernel_rfl) (by kernel_rfl) (by kernel_rfl);have h38:=run_callFunc_extern (P:=Tryd.prog) (f:=107) (e:=(ReflectliteType.relation "Implements" ReflectliteType.implements_)) Tryd.func107 (by kernel_rfl) (by kernel_rfl) (by kernel_rfl) (by kernel_rfl);have h10:=run_callFunc_extern (P:=Tryd.prog) (f:=65) (e:=ReflectliteType.typeOf) Tryd.func65 (by kernel_rfl) (by kernel_rfl) (by kernel_rfl) (by kernel_rfl)
 have h35:=run_callFunc_extern (P:=Tryd.prog) (f:=104) (e:=(ReflectliteType.relation "AssignableTo" ReflectliteType.assignableTo)) Tryd.func104 (by kernel_rfl) (by kernel_rfl) (by kernel_rfl) (by kernel_rfl);have h11:=run_callFunc_extern (P:=Tryd.prog) (f:=77) (e:=(ReflectliteValue.method (ReflectliteValue.valueError "reflectlite.Value.Elem" 0) ReflectliteValue.elem)) Tryd.func77 (by kernel_rfl) (by kernel_rfl) (by kernel_rfl) (by kernel_rfl);have h12:=run_callFunc_extern (P:=Tryd.prog) (f:=78) (e:=ReflectliteValue.set) Tryd.func78 (by kernel_rfl) (by kernel_rfl) (by kernel_rfl) (by kernel_rfl);have tO:=Qbod;have mA:=Qbjp;have a25:=Qbau;have v25:=Qboh;have f6:=Qboi;have f7:=Qboe;have mK:=Qbjt;have mE:=Qbjr;have mI:=Qbjs;have k27:=Qbdw;have k25:=Qbdv;have e27:=Qbb6;have i25:=Qbdh;have n8:=Qbds ⟨w.heap.size,0,none⟩ t ((w.alloc (.cells #[.pointer (some t)] 88)).alloc (.cells #[.pointer (some ⟨1,88,none⟩),.pointer (some ⟨w.heap.size,0,none⟩),.int .u64 150] 119)) (by simp);have hlt:0<w.heap.size:=by
  rcases Nat.lt_or_ge 0 w.heap.size with h|h;exact h;simp [World.cell?,Array.getElem?_eq_none h] at hg
 have hg2:((w.alloc (.cells #[.pointer (some t)] 88)).alloc (.cells #[.pointer (some ⟨1,88,none⟩),.pointer (some ⟨w.heap.size,0,none⟩),.int .u64 150] 119)).cell? ⟨0,0,none⟩=some (.iface 140 (.agg #[.pointer (some ⟨1,50,none⟩)])):=by
  rw [World.cell?_alloc_lt _ _ ⟨0,0,none⟩ (by simp<;>omega),World.cell?_alloc_lt _ _ ⟨0,0,none⟩ hlt];exact hg
 have htl:t.block<w.heap.size:=by
  rcases Nat.lt_or_ge t.block w.heap.size with h|h;exact h;simp [World.cell?,Array.getElem?_eq_none h] at ht0
 have el:=Qbb7 ⟨w.heap.size,0,none⟩ t (((w.alloc (.cells #[.pointer (some t)] 88)).alloc (.cells #[.pointer (some ⟨1,88,none⟩),.pointer (some ⟨w.heap.size,0,none⟩),.int .u64 150] 119)).alloc (.cells #[.pointer (some ⟨1,88,none⟩),.pointer (some ⟨w.heap.size,0,none⟩),.int .u64 150] 119)) (by rw [World.cell?_alloc_lt _ _ ⟨w.heap.size,0,none⟩ (by simp;omega)];simp);have st:=setF t ⟨w.heap.size+1+1+1,0,none⟩ e old ((((w.alloc (.cells #[.pointer (some t)] 88)).alloc (.cells #[.pointer (some ⟨1,88,none⟩),.pointer (some ⟨w.heap.size,0,none⟩),.int .u64 150] 119)).alloc (.cells #[.pointer (some ⟨1,88,none⟩),.pointer (some ⟨w.heap.size,0,none⟩),.int .u64 150] 119)).alloc (.cells #[.pointer (some e)] 78))
  (by rw [World.cell?_alloc_at _ _ _ _ (by simp)];rfl)
  (by rw [World.cell?_alloc_lt _ _ t (by simp;omega),World.cell?_alloc_lt _ _ t (by simp;omega),World.cell?_alloc_lt _ _ t (by simp;omega),World.cell?_alloc_lt _ _ t htl];exact ht0)
  (by rw [World.frozen?_alloc_old _ _ t (by simp;omega),World.frozen?_alloc_old _ _ t (by simp;omega),World.frozen?_alloc_old _ _ t (by simp;omega),World.frozen?_alloc_old _ _ t (Nat.ne_of_lt htl)];exact hf0)
 go_enter Tryd.func35,Tryd.ntmps35
 go_wp2
 refine wp_loop_rounds 1 ?_;rw [rounds_succ]
 go_wp2
 go_ret
 exact ⟨rfl,rfl⟩
theorem Qbj7 (v:Value) (xT:TypeId) (w:World):(Instr.typeAssert (.iface 78 v) xT 151 true).run Tryd.prog w=.ok (.tuple #[.nilIface,.bool false]) w:=run_typeAssert_lacksB Tryd.underlying151 (by kernel_rfl) (by kernel_rfl) v xT w
theorem Qbdb (v:Value) (xT:TypeId) (w:World):(Instr.typeAssert (.iface 78 v) xT 147 true).run Tryd.prog w=.ok (.tuple #[.iface 78 v,.bool true]) w:=run_typeAssert_hasB Tryd.underlying147 (by kernel_rfl) v xT w
theorem Qbj6 (v:Value) (xT:TypeId) (w:World):(Instr.typeAssert (.iface 34 v) xT 151 true).run Tryd.prog w=.ok (.tuple #[.nilIface,.bool false]) w:=run_typeAssert_lacksB Tryd.underlying151 (by kernel_rfl) (by kernel_rfl) v xT w
theorem Qbj9 (v:Value) (xT:TypeId) (w:World):(Instr.typeAssert (.iface 34 v) xT 147 true).run Tryd.prog w=.ok (.tuple #[.nilIface,.bool false]) w:=run_typeAssert_lacksB Tryd.underlying147 (by kernel_rfl) (by kernel_rfl) v xT w
theorem Qbka (v:Value) (xT:TypeId) (w:World):(Instr.typeAssert (.iface 34 v) xT 148 true).run Tryd.prog w=.ok (.tuple #[.nilIface,.bool false]) w:=run_typeAssert_lacksB Tryd.underlying148 (by kernel_rfl) (by kernel_rfl) v xT w
theorem Qbju (v:Value) (w:World):(Go.method 282 78 v "Unwrap").run Tryd.prog w=.ok (98,v) w:=by kernel_rfl
theorem eqlE (x y:Int) (w:World):(binOp .eql 50 (.iface 34 (.int .i64 x)) (.iface 34 (.int .i64 y))).run Tryd.prog w=.ok (.bool (x==y)) w:=by
 have h1:=run_underlying (P:=Tryd.prog) Tryd.underlying50;have h2:=run_underlying (P:=Tryd.prog) Tryd.underlying34;have hc: ∃i,Tryd.prog.info? 34=some i/\i.comparable=true:=by
  have:(Tryd.prog.info? 34).map (·.comparable)=some true:=by kernel_rfl
  obtain ⟨i,hi,hc⟩:=Option.map_eq_some_iff.1 this;exact ⟨i,hi,hc⟩
 obtain ⟨i,hi,hc⟩:=hc;have h: ∀d:Nat,(Op.equalIn (d+2) 50 (.iface 34 (.int .i64 x)) (.iface 34 (.int .i64 y))).run Tryd.prog w=.ok (x==y) w:=fun d=>by simp [Op.equalIn,h1,h2,typeInfo,hi,hc]
 simp only [binOp];simp [Op.equal,Op.maxDepth,h 9998]
set_option maxHeartbeats 4000000 in
theorem Qbdu (p:Addr) (c c':Int) (w:World) (hp:w.cell? p=some (.int .i64 c')):
  Calls Tryd.prog 36 #[.iface 78 (.pointer (some p)),.iface 34 (.int .i64 c)] w fun e w'=>e=.returned (.bool (c'==c))/\w'=w:=by
 have h10:=run_callFunc_extern (P:=Tryd.prog) (f:=65) (e:=ReflectliteType.typeOf) Tryd.func65 (by kernel_rfl) (by kernel_rfl) (by kernel_rfl) (by kernel_rfl);have tO:=Qboc;have mC:=Qbjq;have cE:=Qbbb;have nF:=Qbj7;have uF:=Qbdb;have mU:=Qbju;have nE:=Qbj6;have uE:=Qbj9;have vE:=Qbka;have q1:=run_eql_iface_types (P:=Tryd.prog) 78 34 (.pointer (some p)) (.int .i64 c) Tryd.underlying50 (by decide) w;have q2:=eqlE c' c w;have fin: ∀r:Bool,(binOp .eql 50 (.iface 34 (.int .i64 c')) (.iface 34 (.int .i64 c))).run Tryd.prog w=.ok (.bool r) w->Calls Tryd.prog 36 #[.iface 78 (.pointer (some p)),.iface 34 (.int .i64 c)] w fun e w'=>e=.returned (.bool r)/\w'=w:=by
  clear q2;intro r q2;cases r
  ·go_enter Tryd.func36,Tryd.ntmps36
   go_wp2
   refine wp_loop_rounds 2 ?_;rw [rounds_succ]
   go_wp2
   rw [rounds_succ]
   go_wp2
   go_ret
   exact ⟨rfl,rfl⟩
  ·go_enter Tryd.func36,Tryd.ntmps36
   go_wp2
   refine wp_loop_rounds 2 ?_;rw [rounds_succ]
   go_wp2
   rw [rounds_succ]
   go_wp2
   go_ret
   exact ⟨rfl,rfl⟩
 exact fin _ q2
theorem as_ok:AsOk Tryd.prog 35 78 88 0 Qd0 where
 nil:=Qbap
 hit:=fun p t old w O ⟨C,ty,fr,hO0,hC⟩ hO ht hf=>by
  subst hO0;have hg:w.cell? ⟨0,0,none⟩=some (.iface 140 (.agg #[.pointer (some ⟨1,50,none⟩)])):=by
   simp [World.cell?,hO,hC]
  have htl:t.block<w.heap.size:=by
   rcases Nat.lt_or_ge t.block w.heap.size with h|h;exact h;simp [World.cell?,Array.getElem?_eq_none h] at ht
  refine (Qban p t old w hg ht hf).mono ?_;rintro e w' ⟨rfl,rfl⟩;refine ⟨rfl,_,?_,Qbnr t p old _ ?_ ?_⟩;exact ((((Below.refl _ w).alloc (Nat.le_refl _) _).alloc (by simp) _).alloc (by simp;omega) _).alloc (by simp;omega) _;rw [World.cell?_alloc_lt _ _ t (by simp;omega),World.cell?_alloc_lt _ _ t (by simp;omega),World.cell?_alloc_lt _ _ t (by simp;omega),World.cell?_alloc_lt _ _ t htl];exact ht;rw [World.frozen?_alloc_old _ _ t (by simp;omega),World.frozen?_alloc_old _ _ t (by simp;omega),World.frozen?_alloc_old _ _ t (by simp;omega),World.frozen?_alloc_old _ _ t (Nat.ne_of_lt htl)];exact hf
theorem is_ok:IsOk Tryd.prog 36 78 34 where
 hit:=fun p c c' w hp=>(Qbdu p c c' w hp).mono fun e w' ⟨h1,h2⟩=>⟨h1,h2▸Below.refl _ _⟩
theorem own:ownKnob Tryd.prog.godebug=none:=by kernel_rfl
theorem et:Tryd.prog.globalNamed "errors.errorType" =some 0:=by kernel_rfl
theorem rt:(Tryd.prog.cutTypes.find? (·.1== "internal/reflectlite.rtype")).map (·.2)=some 140:=by kernel_rfl
theorem Qbkn:((List.range 182).filter fun t=>Tryd.prog.rowNamed t [101,114,114,111,114])=[50]:=by kernel_rfl
theorem size:Tryd.prog.types.size=182:=by kernel_rfl
def laid:List (String×DataW Unit):=[("errors.errorType",.iface "internal/reflectlite.rtype" (.agg [.ptr (.lit (.string [101,114,114,111,114]))]))]
theorem Q9n {W:World} (h:laidMetH Tryd.prog laid W):World.var? Tryd.prog W "errors.errorType" =some #[.iface 140 (.agg #[.pointer (some ⟨1,50,none⟩)])]:=by
 have h':laidMet Tryd.prog [] W/\handlesMet Tryd.prog laid W:=h;obtain ⟨name,u,ty,e1,e2,e3,e4,e5⟩:=h'.2 _ (List.mem_singleton.2 rfl);have en:name=[101,114,114,111,114]:=(Option.some.inj e1).symm;subst en;obtain rfl:=Option.some.inj (rt.symm.trans e2);have hm:ty∈(List.range 182).filter fun t=>Tryd.prog.rowNamed t [101,114,114,111,114]:=List.mem_filter.2 ⟨List.mem_range.2 (by rw [<-size];exact e3),e4⟩;rw [Qbkn] at hm;obtain rfl:=List.mem_singleton.1 hm;have hh:typeHandle Tryd.prog 50=.pointer (some ⟨1,50,none⟩):=by kernel_rfl
 rw [hh] at e5;exact e5
theorem Qbda {W:World} (h:laidMetH Tryd.prog laid W):W.cell? ⟨0,0,none⟩=some (.iface 140 (.agg #[.pointer (some ⟨1,50,none⟩)])):=by
 simpa using World.var?_cell et (Q9n h) 0
theorem Qbko {W:World} (h:laidMetH Tryd.prog laid W) {C:Array Value} {t:TypeId} {fr:Nat×Nat} (hb:W.heap[0]? =some (.cells C t fr)):C.size=1:=by
 have h:=Q9n h;unfold World.var? at h;rw [et] at h;simp only [Option.bind_some,hb,Option.some.injEq] at h;rw [h];rfl
noncomputable def Q17 (os:Os):World:=
 let w0:=World.holding Tryd.prog os ⟨#[],#[],[]⟩
 {w0 with heap:=w0.heap.modify 0 fun
   |.cells _ t frozen=> .cells #[.iface 140 (.agg #[.pointer (some ⟨1,50,none⟩)])] t frozen
   |o=>o}
theorem Qbdz (os:Os) (args:Array Value):laidMetH Tryd.prog laid ((Q17 os).forCall (fun _ _=>0) ⟨#[],args,[]⟩).memory:=
 laidMetH_of_parts (laidMet_nil _ _) (by kernel_rfl)
def Qee (O:Obj):Fz:=⟨0,0,0,1,fun _ _=> .nilptr,some O⟩
theorem Qbcl {W:World} (h:W.cell? ⟨0,0,none⟩=some (.iface 140 (.agg #[.pointer (some ⟨1,50,none⟩)]))): ∃O,Qd0 O/\FzOk (Qee O) W:=by
 unfold World.cell? at h;cases hb:W.heap[0]? with
 |none=>rw [hb] at h;cases h
 |some o=>
  rw [hb] at h;cases o with
  |cells C t fr=>exact ⟨_,⟨C,t,fr,rfl,by simpa using h⟩,C,t,fr,hb,fun m j hm hj=>absurd hj (Nat.not_lt_zero j),fun o ho=>by cases ho;exact hb⟩
  |_=>cases h
theorem Q7j {O:Obj} (h:Qd0 O) {V:Sig} {r:Nat} (he:V.ext r=some (Qee O)):Qdr 0 Qd0 V:=⟨r,Qee O,O,he,Nat.one_pos,rfl,rfl,h⟩
noncomputable def mh:Qe1:=asMh Tryd.prog 35 78 88 36 34
end Go.Proofs.YtelimhjceiamcaaDoor.fa
