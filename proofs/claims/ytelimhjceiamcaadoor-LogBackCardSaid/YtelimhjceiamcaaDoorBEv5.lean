/- The evaluator, part 5. -/
import Derived.Test.YtelimhjceiamcaaDoorBEv4
set_option linter.unusedVariables false
set_option linter.unusedSimpArgs false
set_option linter.unnecessarySimpa false
namespace Go.Ev
set_option linter.unusedVariables false
set_option linter.unusedSimpArgs false
set_option linter.unnecessarySimpa false
inductive Fact where
 |tru (i:Nat) (b:Bool)
 |isn (i:Nat) (n:Int)
 |non (i:Nat) (n:Int)
def Fact.holds (σ:Sig):Fact->Prop
 |.tru i b=>σ.bval i=b
 |.isn i n=>σ.ival i=n
 |.non i n=>σ.ival i≠n
def Ql (σ:Sig):List Fact->Prop
 |[]=>True
 |x::F=>x.holds σ/\Ql σ F
theorem Qbd {σ:Sig} (x:Fact) {F:List Fact} (h:x.holds σ) (h':Ql σ F):Ql σ (x::F):=⟨h,h'⟩
inductive Ob where
 |ok
 |no
 |node (i:Nat) (y n:Ob)
 |pick (i:Nat) (k:Int) (y n:Ob)
def Ob.Sat (σ:Sig):Ob->Prop
 |.ok=>True
 |.no=>False
 |.node i y n=>(σ.bval i=true->y.Sat σ)/\(σ.bval i=false->n.Sat σ)
 |.pick i k y n=>(σ.ival i=k->y.Sat σ)/\(σ.ival i≠k->n.Sat σ)
inductive Tree (α:Type) where
 |leaf (a:α)
 |node (i:Nat) (y n:Tree α)
 |pick (i:Nat) (k:Int) (y n:Tree α)
 |or (y n:Tree α)
 |req (o:Ob) (t:Tree α)
 |dead
def Sat {α:Type} (σ:Sig) (Q:α->Prop):Tree α->Prop
 |.leaf a=>Q a
 |.node i y n=>(σ.bval i=true->Sat σ Q y)/\(σ.bval i=false->Sat σ Q n)
 |.pick i k y n=>(σ.ival i=k->Sat σ Q y)/\(σ.ival i≠k->Sat σ Q n)
 |.or y n=>Sat σ Q y/\Sat σ Q n
 |.req o t=>o.Sat σ/\Sat σ Q t
 |.dead=>False
theorem Sat.mono {α:Type} {σ:Sig} {Q Q':α->Prop} (hq: ∀a,Q a->Q' a): ∀{T:Tree α},Sat σ Q T->Sat σ Q' T
 |.leaf _,h=>hq _ h
 |.node _ _ _,h=>⟨fun e=>Sat.mono hq (h.1 e),fun e=>Sat.mono hq (h.2 e)⟩
 |.pick _ _ _ _,h=>⟨fun e=>Sat.mono hq (h.1 e),fun e=>Sat.mono hq (h.2 e)⟩
 |.or _ _,h=>⟨Sat.mono hq h.1,Sat.mono hq h.2⟩
 |.req _ _,h=>⟨h.1,Sat.mono hq h.2⟩
 |.dead,h=>h
def Qbb {α β:Type} (F:List Fact) (T:Tree α) (k:List Fact->α->Tree β):Tree β:=
 match T with
 |.leaf a=>k F a
 |.node i y n=> .node i (Qbb (.tru i true::F) y k) (Qbb (.tru i false::F) n k)
 |.pick i c y n=> .pick i c (Qbb (.isn i c::F) y k) (Qbb (.non i c::F) n k)
 |.or y n=> .or (Qbb F y k) (Qbb F n k)
 |.req o t=> .req o (Qbb F t k)
 |.dead=> .dead
theorem Qcc {α β:Type} {σ:Sig} {Q:β->Prop} {k:List Fact->α->Tree β}: ∀{T:Tree α} {F:List Fact},Ql σ F->Sat σ Q (Qbb F T k)->Sat σ (fun a=> ∃F',Ql σ F'/\Sat σ Q (k F' a)) T
 |.leaf _,F,hF,h=>⟨F,hF,h⟩
 |.node i _ _,_,hF,h=>⟨fun e=>Qcc (Qbd (.tru i true) e hF) (h.1 e),fun e=>Qcc (Qbd (.tru i false) e hF) (h.2 e)⟩
 |.pick i c _ _,_,hF,h=>⟨fun e=>Qcc (Qbd (.isn i c) e hF) (h.1 e),fun e=>Qcc (Qbd (.non i c) e hF) (h.2 e)⟩
 |.or _ _,_,hF,h=>⟨Qcc hF h.1,Qcc hF h.2⟩
 |.req _ _,_,hF,h=>⟨h.1,Qcc hF h.2⟩
 |.dead,_,_,h=>h
abbrev CxF:=List Fact->Cx
structure CtxOk (C:CxF):Prop where
 n: ∀F F',(C F).n=(C F').n
 ok: ∀F σ,(C F).Good σ->Ql σ F
 up: ∀F F' σ,(C F).Good σ->Ql σ F'->(C F').Good σ
theorem HRel.to {ng ng':Cx} {g:Inj} {H:List Blk} {w:World} (h:HRel ng g H w) (hn:ng'.n=ng.n) (hg:ng'.Good g.sig):HRel ng' g H w:=
 ⟨h.dom,h.inj,h.blk0,by rw [hn];exact h.glob,hg,h.frz⟩
theorem CtxOk.facts {C:CxF} (hC:CtxOk C) {F:List Fact} {g:Inj} {H:List Blk} {w:World} (h:HRel (C F) g H w):Ql g.sig F:=hC.ok F _ h.sig
theorem CtxOk.move {C:CxF} (hC:CtxOk C) {F F':List Fact} {g:Inj} {H:List Blk} {w:World} (h:HRel (C F) g H w) (h':Ql g.sig F'):HRel (C F') g H w:=
 h.to (hC.n _ _) (hC.up F F' _ h.sig h')
def OutQ (ng:Cx) (hp:Hp) (g:Inj) (w:World) (o:Out) (hp':Hp) (e:Ending) (w':World):Prop:=
 Touch hp hp'/\ ∃g',Qke g' o e/\HRel ng g' hp'.heap w'/\Ext g hp.heap w g' hp'.heap w'
abbrev Q7:=List Fact->FuncId->List AVal->Hp->Tree (Out×Hp)
abbrev Qbf:=List Fact->Nat->List AVal->Hp->Tree (Out×Hp)
def Qxj (P:Program) (k:FuncId):Prop:=
 ∃(tS tR e:TypeId) (size:Nat),P.underlying tS=some (.slice e)/\(∀w,(sizeOf e).run P w=.ok size w)/\
  ∀args w,(callFunc k args).run P w=((Extern.SlicesOverlaps.overlaps #[tS,tS] #[tR] args).run P w).andThen fun v w'=> .ok (.value v) w'
def Qxh (P:Program) (k:FuncId):Bool->Prop
 |true=> ∀(a:Addr) (x y:Int) (w:World),w.cell? a=some (.int .u64 x)->w.frozen? a=false->(callFunc k #[.pointer (some a),.int .u64 y]).run P w=.ok (.value (.int .u64 (IntKind.u64.wrap (x+y)))) (w.setCell a (.int .u64 (IntKind.u64.wrap (x+y))))
 |false=> ∀(a:Addr) (x:Int) (w:World),w.cell? a=some (.int .u64 x)->(callFunc k #[.pointer (some a)]).run P w=.ok (.value (.int .u64 x)) w
structure Hooks (P:Program) (ng:Cx):Prop where
 val: ∀f args v,ng.hook f args=some v-> ∀hp,CallP P ng f args hp (.val v) hp
 mem: ∀f args hp v hp',ng.mhook f args hp=some (v,hp')->CallP P ng f args hp (.val v) hp'
 ovl: ∀f k,ng.insf=some (f,k)->Qxj P k
 atm: ∀k b,(k,b)∈ng.atoms->Qxh P k b
 pan: ∀f args hp v hp',ng.phook f args hp=some (v,hp')->CallP P ng f args hp (.pan v) hp':=by
  intro f args hp v hp' h
  have h2:(none:Option (AVal×Hp))=some (v,hp'):=h
  cases h2
def Qhe (P:Program) (C:CxF) (call:Q7):Prop:=
 ∀F f args hp (Q:Out×Hp->Prop) g w (args':Array Value),HRel (C F) g hp.heap w->LRel g args args'.toList->Sat g.sig Q (call F f args hp)->
  Calls P f args' w fun e w'=> ∃x,Q x/\OutQ (C F) hp g w x.1 x.2 e w'
def Qnk (P:Program) (C:CxF) (round:Qbf):Prop:=
 ∀F b args hp (Q:Out×Hp->Prop) g w (args':Array Value) L (r:Option Nat),HRel (C F) g hp.heap w->g b=some L->LRel g args args'.toList->Sat g.sig Q (round F b args hp)->
  ∃fn tmps asg body,(Instr.yield L.blk args').run P w=.ok (.round L.blk fn tmps asg body) w/\
   RoundIn (FR r) 0 P L.blk fn tmps asg body w fun e w'=> ∃x,Q x/\OutQ (C F) hp g w x.1 x.2 e w'
inductive KA where
 |pure|load|fresh|eff
 deriving DecidableEq
def Qo6 (P:Program):Op->KA
 |.load _ _=> .load
 |.alloc _=> .fresh
 |.box _ _=> .fresh
 |.buildSlice _ _ _=> .fresh
 |.makeSlice _ _ _=> .fresh
 |.store _ _ _=> .eff
 |.makeMap _ _=> .eff
 |.insert _ _ _ _=> .eff
 |.mapUpdate _ _ _ _=> .eff
 |.range _ _=> .eff
 |.entry _=> .load
 |.lookup _ _ _ _=> .load
 |.convert s d _=>match P.underlying s,P.underlying d with
  |some .string,some (.slice _)=> .fresh
  |some (.slice _),some .string=> .load
  |some (.slice _),some (.slice _)=> .eff
  |_,_=> .pure
 |.call c=>match c.callee with
  |.builtin .append=> .eff
  |.builtin .copy=> .eff
  |_=> .pure
 |_=> .pure
def opA (P:Program) (ng:Cx) (t:Tm) (op:Op) (hp:Hp):Option (AVal×Hp):=
 match Qo6 P op with
 |.pure=>match Qe6 P ng t op with
  |some v=>some (v,hp)
  |none=>none
 |.load=>match Qcf P ng t op hp.heap with
  |some x=>some (x.1,hp)
  |none=>none
 |.fresh=>match Qfr P ng t op with
  |some (c,e,m)=>some (m.val hp.heap.length,⟨hp.heap++[.cells c e],hp.log⟩)
  |none=>none
 |.eff=>effA P ng t op hp
def Qhp:Op->Option Call
 |.call c=>match c.callee with
  |.value _=>some c
  |.invoke _ _=>some c
  |_=>none
 |_=>none
inductive Ask where
 |tru (i:Nat)
 |num (i:Nat) (l:List Int)
 |non (i:Nat) (k:Int)
def askW (ng:Cx) (ops:List Oper) (t:Tm) (o:Oper):Option Ask:=
 match o.guard with
 |none=>none
 |some (j,_)=>match ops[j]? with
  |none=>none
  |some q=>match q.dst with
   |none=>none
   |some d=>match t.get d with
    |none=>none
    |some v=>match Qc4 ng v with
     |.symb i=>some (.tru i)
     |_=>none
def askT (ng:Cx):Option AVal->Option Ask
 |some v=>match Qc4 ng v with
  |.symb i=>some (.tru i)
  |_=>none
 |none=>none
def askK (ng:Cx) (k:AVal):List (AVal×AVal)->Option Ask
 |[]=>none
 |p::l=>match askT ng (symS ng (.bin .eql k p.1)) with
  |some a=>some a
  |none=>askK ng k l
def orA (a b:Option Ask):Option Ask:=
 match a with
 |some x=>some x
 |none=>b
def rngL:Nat->Int->List Int
 |0,_=>[]
 |n+1,i=>i::rngL n (i+1)
def Qdj (ng:Cx) (a b:AVal):Option Ask:=
 match Qb9 a,Qb9 b with
 |some _,some _=>none
 |_,_=>askT ng (symS ng (.bin .leq a b))
def Qkn (ng:Cx) (a b:AVal):Option Ask:=
 match Qb9 a,Qb9 b with
 |some _,some _=>none
 |_,_=>askT ng (symS ng (.bin .lss a b))
def Q7t (ng:Cx) (a b:AVal):Option Ask:=
 match symS ng (.sop .cat [a,b]) with
 |some (.syms c)=>match symS ng (.sop .len [.syms c]) with
  |some n=>Qdj ng n (.int .i64 9223372036854775807)
  |none=>none
 |_=>none
def Q7u (ng:Cx) (i:Nat) (lo hi:Option AVal):Option Ask:=
 match lenS ng i with
 |some n=>orA (Qdj ng (.int .i64 0) (lo.getD (.int .i64 0))) (orA (Qdj ng (lo.getD (.int .i64 0)) (hi.getD n)) (Qdj ng (hi.getD n) n))
 |none=>none
def Q7r (ng:Cx) (K:Nat) (a b:AVal):Option Ask:=
 match (match isZ a with
  |true=>some b
  |false=>match isZ b with
   |true=>some a
   |false=>symS ng (.bin .add a b)) with
 |some r=>orA (match kdI ng b||isZ b with
  |true=>none
  |false=>Qdj ng b (.int .i64 9223372036854775807)) (orA (Qdj ng (.int .i64 0) r) (Qdj ng r (.int .i64 K)))
 |none=>none
def Q7s (P:Program) (ng:Cx) (ts:List TypeId) (l:List AVal) (H:List Blk):Option Ask:=
 match ts,l with
 |t::_,[s,x]=>match P.underlying t with
  |some (.slice e)=>match P.info? e,Qvh e ng.lsts with
   |some ie,some cl=>match dstL ng cl e s H,srcL ng cl x H with
    |some (_,dn,_),some (_,sn)=>Q7r ng (140737488355328/ie.bytes) dn sn
    |_,_=>none
   |_,_=>none
  |_=>none
 |_,_=>none
def askA (P:Program) (ng:Cx) (t:Tm) (op:Op) (H:List Blk):Option Ask:=
  match op with
  |.lookup _ x k _=>match ev ng t x,ev ng t k with
    |some (.map b),some k=>match H[b]? with
      |some (.map l)=>askK ng k l
      |_=>none
    |_,_=>none
  |.indexAddr _ x ix=>match ev ng t x,ev ng t ix with
    |some (.row i),some ix=>match ng.rlen i with
      |some n=>orA (askT ng (symS ng (.bin .leq (.int .i64 0) ix))) (askT ng (symS ng (.bin .lss ix n)))
      |none=>none
    |some (.lsl _ _ _ _ n),some ix=>orA (Qdj ng (.int .i64 0) ix) (Qkn ng ix n)
    |some (.slice _ _ n _ _),some (.symi _ i)=>some (.num i (rngL n 0))
    |some (.ptr _ _),some (.symi _ i)=>match P.underlying (match op with
        |.indexAddr ty _ _=>ty
        |_=>0) with
      |some (.array n _)=>some (.num i (rngL n 0))
      |_=>none
    |_,_=>none
  |.index ty x ix=>match ev ng t x,ev ng t ix with
    |some (.syms i),some j=>match lenS ng i with
      |some n=>orA (Qdj ng (.int .i64 0) j) (Qkn ng j n)
      |none=>none
    |some (.agg _),some (.symi _ i)=>match P.underlying ty with
      |some (.array n _)=>some (.num i (rngL n 0))
      |_=>none
    |_,_=>none
  |.convert _ _ x=>match ev ng t x with
    |some (.syms i)=>match lenS ng i with
      |some (.symi _ j)=>some (.num j (rngL 17 0))
      |_=>none
    |some (.lsl _ _ _ _ n)=>Qkn ng (.int .i64 0) n
    |_=>none
  |.binOp .add _ x y _=>match ev ng t x,ev ng t y with
    |some a,some b=>match Qhq a&&Qhq b with
      |true=>Q7t ng a b
      |false=>none
    |_,_=>none
  |.binOp .quo _ _ y _=>match ev ng t y with
    |some (.symi _ i)=>some (.non i 0)
    |_=>none
  |.binOp .rem _ _ y _=>match ev ng t y with
    |some (.symi _ i)=>some (.non i 0)
    |_=>none
  |.binOp .eql _ x y _=>match ev ng t x,ev ng t y with
    |some (.lsl _ _ _ _ n),some .nilslice=>Qkn ng (.int .i64 0) n
    |_,_=>none
  |.binOp .neq _ x y _=>match ev ng t x,ev ng t y with
    |some (.lsl _ _ _ _ n),some .nilslice=>Qkn ng (.int .i64 0) n
    |_,_=>none
  |.pick c _ _=>askT ng (ev ng t c)
  |.call c=>match c.callee with
    |.builtin .append=>match evL ng t c.args.toList with
      |some l=>Q7s P ng c.argTypes.toList l H
      |none=>none
    |_=>none
  |.makeSlice _ l _=>match ev ng t l with
    |some (.symi _ i)=>some (.num i (rngL 17 0))
    |_=>none
  |.slice _ x lo hi _=>match ev ng t x with
   |some (.syms i)=>match evO ng t lo,evO ng t hi with
    |some l,some h=>Q7u ng i l h
    |_,_=>none
   |some (.lsl _ _ _ off n)=>match evO ng t lo,evO ng t hi with
    |some l,some h=>orA (match isZ off,l with
      |false,some y=>match symS ng (.bin .add off y) with
        |some r=>Qdj ng (.int .i64 0) r
        |none=>none
      |_,_=>none)<|orA (Qdj ng (.int .i64 0) (l.getD (.int .i64 0))) (orA (Qdj ng (l.getD (.int .i64 0)) (h.getD n)) (Qdj ng (h.getD n) n))
    |_,_=>none
   |_=>match hi with
    |some h=>match ev ng t h with
      |some (.symi _ i)=>some (.num i (rngL 17 0))
      |_=>match lo with
        |some l=>match ev ng t l with
          |some (.symi _ i)=>some (.num i (rngL 17 0))
          |_=>none
        |none=>none
    |none=>match lo with
      |some l=>match ev ng t l with
        |some (.symi _ i)=>some (.num i (rngL 17 0))
        |_=>none
      |none=>none
  |_=>none
def Qek {α:Type} (k:List Fact->Tree α) (F:List Fact):Option Ask->Tree α
 |some (.tru i)=> .node i (k (.tru i true::F)) (k (.tru i false::F))
 |some (.num i l)=>picks k i l F
 |some (.non i c)=> .pick i c (k (.isn i c::F)) (k (.non i c::F))
 |none=> .dead
where picks (k:List Fact->Tree α) (i:Nat):List Int->List Fact->Tree α
 |[],_=> .dead
 |c::l,F=> .pick i c (k (.isn i c::F)) (picks k i l (.non i c::F))
theorem Qww {α:Type} {σ:Sig} {Q:α->Prop} {k:List Fact->Tree α} {F:List Fact} {x:Option Ask} (hF:Ql σ F) (h:Sat σ Q (Qek k F x)): ∃F',Ql σ F'/\Sat σ Q (k F'):=by
 have key: ∀(i:Nat) (l:List Int) (F:List Fact),Ql σ F->Sat σ Q (Qek.picks k i l F)-> ∃F',Ql σ F'/\Sat σ Q (k F'):=by
  intro i l
  induction l with
  |nil=>intro F hF h;exact h.elim
  |cons c l ih=>
   intro F hF h
   rcases Classical.em (σ.ival i=c) with e|e
   ·exact ⟨.isn i c::F,Qbd (.isn i c) e hF,h.1 e⟩
   ·exact ih _ (Qbd (.non i c) e hF) (h.2 e)
 unfold Qek at h
 split at h
 ·rename_i i
  cases hb:σ.bval i with
  |true=>exact ⟨_,Qbd (.tru i true) hb hF,h.1 hb⟩
  |false=>exact ⟨_,Qbd (.tru i false) hb hF,h.2 hb⟩
 ·exact key _ _ F hF h
 ·rename_i i c
  rcases Classical.em (σ.ival i=c) with e|e
  ·exact ⟨.isn i c::F,Qbd (.isn i c) e hF,h.1 e⟩
  ·exact ⟨.non i c::F,Qbd (.non i c) e hF,h.2 e⟩
 ·exact h.elim
def Qxg (ng:Cx) (t:Tm) (c:Call):Option (Nat×List AVal):=
 match c.callee with
 |.value f=>match ev ng t f,evL ng t c.args.toList with
  |some (.yield b),some l=>some (b,l)
  |_,_=>none
 |_=>none
def Qor (q x:Nat) (all:List (AVal×AVal)) (hp:Hp):Nat->List (AVal×AVal)->Tree (Out×Hp)
 |_,[]=> .dead
 |i,[p]=> .leaf (.val (.tuple [.bool true,p.1,p.2]),⟨hp.heap.set q (.iter x (all.eraseIdx i) (some p)),q::hp.log⟩)
 |i,p::p'::l=> .or (.leaf (.val (.tuple [.bool true,p.1,p.2]),⟨hp.heap.set q (.iter x (all.eraseIdx i) (some p)),q::hp.log⟩)) (Qor q x all hp (i+1) (p'::l))
def Q3y (q x:Nat) (hp:Hp):List (AVal×AVal)->Tree (Out×Hp)
 |[]=> .leaf (.val (.tuple [.bool false]),hp)
 |p::l=>Qor q x (p::l) hp 0 (p::l)
def Qi8 (ng:Cx) (f:FuncId) (args:List AVal) (hp:Hp):Option (Nat×Nat×List AVal×List AVal×Hp):=
 match ng.insf with
 |none=>none
 |some x=>match Nat.beq f x.1 with
  |false=>none
  |true=>match args with
   |.slice b off len cap ex::rest=>match ex with
    |none=>none
    |some z=>match hp.heap[b]? with
     |some (.cells c e)=>if off=0/\len=cap/\0<cap/\c.length=cap*z then
       some (b,z,.slice b 0 len cap none::rest,.slice b 0 len (cap+1) (some z)::rest,⟨hp.heap.set b (.cells (c++List.replicate z .junk) e),b::hp.log⟩) else none
     |_=>none
   |_=>none
def eqN:AVal->AVal->Bool
 |.bool a,.bool b=>a==b
 |.int k a,.int k' b=>decide (k=k')&&a==b
 |.str a,.str b=>a.toList==b.toList
 |.symi k a,.symi k' b=>decide (k=k')&&Nat.beq a b
 |.symb a,.symb b=>Nat.beq a b
 |.syms a,.syms b=>Nat.beq a b
 |_,_=>false
def eqNs:List AVal->List AVal->Bool
 |[],[]=>true
 |a::l,b::m=>eqN a b&&eqNs l m
 |_,_=>false
def numV:AVal->Bool
 |.bool _=>true
 |.int _ _=>true
 |.str _=>true
 |.symi _ _=>true
 |.symb _=>true
 |.syms _=>true
 |_=>false
def Qmm:List AVal->Bool
 |[]=>true
 |a::l=>numV a&&Qmm l
def oldB (n b:Nat):List Nat->Bool
 |[]=>true
 |i::l=>(Nat.ble n i||Nat.beq i b)&&oldB n b l
def Qp8 (hp:Hp) (b z:Nat) (x:Out×Hp):Option (Nat×List AVal×TypeId):=
 match x.1 with
 |.val v=>match v with
  |.slice nb off len cap ex=>match ex with
   |some z'=>match x.2.heap[nb]? with
    |some (.cells c e)=>if z'=z/\off=0/\0<len/\len<=cap/\(nb=b\/hp.heap.length<=nb)/\len*z<=c.length/\oldB hp.heap.length b (x.2.log.take (x.2.log.length-hp.log.length))=true/\Qmm (c.take (len*z))=true then some (len,c.take (len*z),e) else none
    |_=>none
   |none=>none
  |_=>none
 |.pan _=>none
def Qq5 (x y:Nat×List AVal×TypeId):Bool:=Nat.beq x.1 y.1&&(Nat.beq x.2.2 y.2.2&&eqNs x.2.1 y.2.1)
def Qe4 (hp:Hp) (b z:Nat):Tree (Out×Hp)->Option (Nat×List AVal×TypeId)
 |.leaf x=>Qp8 hp b z x
 |.or y n=>match Qe4 hp b z y with
  |some d=>match Qe4 hp b z n with
   |some d'=>match Qq5 d d' with
    |true=>some d
    |false=>none
   |none=>none
  |none=>none
 |_=>none
def Qle (hp:Hp) (b z:Nat) (T1 T2:Tree (Out×Hp)):Tree (Out×Hp):=
 match Qe4 hp b z T1 with
 |some d=>match Qe4 hp b z T2 with
  |some d'=>match Qq5 d d' with
   |true=> .leaf (.val (.slice hp.heap.length 0 d.1 d.1 (some z)),⟨hp.heap.set b .gone++[.cells d.2.1 d.2.2],b::hp.log⟩)
   |false=> .or T1 T2
  |none=> .or T1 T2
 |none=> .or T1 T2
def ovlA (ng:Cx) (t:Tm) (c:Call) (hp:Hp):Bool:=
 match ng.insf with
 |none=>false
 |some x=>match c.callee with
  |.value f=>match ev ng t f,evL ng t c.args.toList with
   |some (.func (.func k) [] []),some [.slice b o _ _ _,.slice b2 _ _ _ _]=>Nat.beq k x.2&&(!Nat.beq b b2&&((match hp.heap[b]? with
    |some (.cells c _)=>Nat.blt o c.length
    |_=>false)&&(match hp.heap[b2]? with
    |some (.cells _ _)=>true
    |_=>false)))
   |_,_=>false
  |_=>false
def Qko (ng:Cx) (t:Tm) (c:Call) (hp:Hp):Option (AVal×Hp):=none
def Qfl (P:Program) (C:CxF) (call:Q7) (round:Qbf) (all:List Oper) (o:Oper):Nat->List Fact->Tm->Hp->Tree (Out×Hp)
  |0,_,_,_=> .dead
  |n+1,F,t,hp=>match Qbs (C F) all t o with
    |none=>Qek (fun F=>Qfl P C call round all o n F t hp) F (askW (C F) all t o)
    |some false=> .leaf (.val Qb4,hp)
    |some true=>match Qhp o.op with
      |some c=>match Qxg (C F) t c with
        |some (b,l)=>round F b l hp
        |none=>match Qjy P (C F) t c with
          |some (f,args)=>match (C F).hook f args with
            |some v=> .leaf (.val v,hp)
            |none=>match (C F).mhook f args hp with
              |some (v,hp')=> .leaf (.val v,hp')
              |none=>match Qi8 (C F) f args hp with
                |some (b,z,a1,a2,hp2)=>Qle hp b z (call F f a1 hp) (call F f a2 hp2)
                |none=>call F f args hp
          |none=>match Qko (C F) t c hp with
           |some (v,hp')=> .leaf (.val v,hp')
           |none=>match ovlA (C F) t c hp with
            |true=> .or (.leaf (.val (.bool true),hp)) (.leaf (.val (.bool false),hp))
            |false=> .dead
      |none=>match opA P (C F) t o.op hp with
        |some (v,hp')=> .leaf (.val v,hp')
        |none=>match o.op with
          |.panic x=>match ev (C F) t x with
            |some v=>match v with
              |.iface _ _=> .leaf (.pan v,hp)
              |_=> .dead
            |none=> .dead
          |.next it s=>match s with
            |false=>match ev (C F) t it with
              |some (.ptr q 0)=>match hp.heap[q]? with
                |some (.iter x l _)=>Q3y q x hp l
                |_=> .dead
              |_=> .dead
            |true=> .dead
          |op=>Qek (fun F=>Qfl P C call round all o n F t hp) F (askA P (C F) t op hp.heap)
def Qym (ng:Cx) (t:Tm) (g:Option (Nat×Bool)) (c:Call):Option ADef:=
 match g with
 |some _=>none
 |none=>match c.callee with
  |.value f=>match ev ng t f,evL ng t c.args.toList with
   |some (.func fn first cap),some l=>some (.fn fn cap (first++l))
   |_,_=>none
  |_=>none
def Q0r:Op->Option Call
 |.defer c=>some c
 |_=>none
def opsT (P:Program) (C:CxF) (call:Q7) (round:Qbf) (inr:Bool) (all:List Oper):List Oper->List Fact->Tm->Hp->Tree (Ex×Tm×Hp)
 |[],_,t,hp=> .leaf (.normal,t,hp)
 |o::rest,F,t,hp=>match Q0r o.op with
  |none=>Qbb F (Qfl P C call round all o 12 F t hp) fun F r=>match r with
   |(.val v,hp')=>opsT P C call round inr all rest F (putA t o.dst v) hp'
   |(.pan v,hp')=> .leaf (.pan v,t,hp')
  |some c=>match inr with
   |true=> .dead
   |false=>match Qym (C F) t o.guard c with
    |some d=>opsT P C call round inr all rest F (putA ⟨t.len,t.tr,d::t.df⟩ o.dst Qb4) hp
    |none=> .dead
theorem Qv0 {P:Program} {ng:Cx} {t:Tm} {all:List Oper} {o:Oper} {hp hp':Hp} {v:AVal} (hw:Qbs ng all t o=some true) (h:opA P ng t o.op hp=some (v,hp')):Step P ng all o t hp v hp':=by
 unfold opA at h
 split at h
 ·split at h
  ·rename_i v' hv;cases h;exact .pure v hw hv
  ·cases h
 ·split at h
  ·rename_i x hx;cases h;exact .load _ x.2 hw (by rw [hx])
  ·cases h
 ·split at h
  ·rename_i c e m hf;cases h;exact .fresh c e m hw hf
  ·cases h
 ·exact .eff v hp' hw h
theorem Qts {op:Op} {c:Call} (h:Qhp op=some c):op=.call c:=by
 unfold Qhp at h
 split at h
 ·split at h<;>cases h<;>rfl
 ·cases h
theorem Qbkl {P:Program} {ng:Cx} {g:Inj} {t:Tm} {ρ:Operand->Value} (hρ:ERel g ng t ρ) {c:Call} {type:TypeId} {b:Nat} {l:List AVal} (h:Qxg ng t c=some (b,l)) (w:World):
  ∃(L:Loc) (args':Array Value),g b=some L/\LRel g l args'.toList/\(do let d<-resolve ρ c type;invoke d.target d.args).run P w=(Instr.yield L.blk args').run P w:=by
 unfold Qxg at h
 split at h
 ·rename_i f hf
  split at h
  ·rename_i b' l' hv hl
   cases h
   have h1:=hρ.1 _ _ hv
   have hh: ∃L,g b=some L/\ρ f=.func (.yield L.blk) #[] #[]:=by
    generalize ρ f=u at h1
    cases h1 with
    |yield _ L hL=>exact ⟨L,hL,rfl⟩
   obtain ⟨L,hL,hu⟩:=hh
   refine ⟨L,c.args.map ρ,hL,?_,?_⟩
   ·simpa using Qby hρ _ _ hl
   ·simp [resolve,hf,hu,invoke,Deferred.ofValue]
  ·cases h
 ·cases h
theorem Qz9 {q x:Nat} {all:List (AVal×AVal)} {hp:Hp} {σ:Sig} {Q:Out×Hp->Prop}: ∀(l:List (AVal×AVal)) (i:Nat),Sat σ Q (Qor q x all hp i l)-> ∀(j:Nat) (p:AVal×AVal),l[j]? =some p->
  Q (.val (.tuple [.bool true,p.1,p.2]),⟨hp.heap.set q (.iter x (all.eraseIdx (i+j)) (some p)),q::hp.log⟩)
 |[],_,_,j,p,hj=>by simp at hj
 |[p],i,h,j,p',hj=>by
  cases j with
  |zero=>simp at hj;subst hj;exact h
  |succ j=>simp at hj
 |p::p'::l,i,h,j,r,hj=>by
  cases j with
  |zero=>simp at hj;subst hj;exact h.1
  |succ j=>
   have:=Qz9 (p'::l) (i+1) h.2 j r (by simpa using hj)
   rw [show i+(j+1)=i+1+j by omega];exact this
theorem MRel.get_of {g:Inj}: ∀{l:List (AVal×AVal)} {m:List MapEntry},MRel g l m-> ∀(j:Nat) (e:MapEntry),m[j]? =some e-> ∃p,l[j]? =some p/\VRel g p.1 e.key/\VRel g p.2 e.val
 |_,_,.cons k v e l m h1 h2 h,0,e',hj=>by simp at hj;subst hj;exact ⟨(k,v),by simp,h1,h2⟩
 |_,_,.cons k v e l m h1 h2 h,j+1,e',hj=>by
  obtain ⟨p,q1,q2,q3⟩:=MRel.get_of h j e' (by simpa using hj)
  exact ⟨p,by simpa using q1,q2,q3⟩
theorem MRel.erase {g:Inj}: ∀{l:List (AVal×AVal)} {m:List MapEntry},MRel g l m-> ∀(j:Nat),MRel g (l.eraseIdx j) (m.eraseIdx j)
 |_,_,.nil,j=>by simpa using MRel.nil
 |_,_,.cons k v e l m h1 h2 h,0=>by simpa using h
 |_,_,.cons k v e l m h1 h2 h,j+1=>by simpa using MRel.cons k v e _ _ h1 h2 (MRel.erase h j)
theorem Qzk: ∀(m:List MapEntry) (j:Nat) (e:MapEntry),(m.map (·.born)).Nodup->m[j]? =some e->m.filter (fun y=> !(y.born==e.born))=m.eraseIdx j
 |[],j,e,_,hj=>by simp at hj
 |y::m,0,e,hn,hj=>by
  simp at hj;subst hj
  simp only [List.map_cons,List.nodup_cons] at hn
  simp only [List.eraseIdx_cons_zero,List.filter_cons,BEq.rfl,Bool.not_true,Bool.false_eq_true,if_false]
  rw [List.filter_eq_self]
  intro z hz
  have:z.born≠y.born:=fun he=>hn.1 (by rw [<-he];exact List.mem_map_of_mem hz)
  simpa using this
 |y::m,j+1,e,hn,hj=>by
  simp only [List.map_cons,List.nodup_cons] at hn
  have he:m[j]? =some e:=by simpa using hj
  have hne:y.born≠e.born:=fun h=>hn.1 (by rw [h];exact List.mem_map_of_mem (List.mem_of_getElem? he))
  simp only [List.eraseIdx_cons_succ,List.filter_cons]
  rw [if_pos (by simpa using hne),Qzk m j e hn.2 he]
theorem Qbfs {P:Program} {ng:Cx} {g:Inj} {hp:Hp} {w:World} (hH:HRel ng g hp.heap w) {q x:Nat} {l:List (AVal×AVal)} {cur:Option (AVal×AVal)} (hb:hp.heap[q]? =some (.iter x l cur)) {u:Value} (hu:VRel g (.ptr q 0) u) (ty:TypeId):
  (l=[]/\(Instr.next u false ty).run P w=.ok (.tuple #[.bool false]) w)\/
  ∃(j:Nat) (p:AVal×AVal) (v:Value) (w':World),l[j]? =some p/\(Instr.next u false ty).run P w=.ok v w'/\VRel g (.tuple [.bool true,p.1,p.2]) v/\
   HRel ng g (hp.heap.set q (.iter x (l.eraseIdx j) (some p))) w'/\Ext g hp.heap w g (hp.heap.set q (.iter x (l.eraseIdx j) (some p))) w':=by
 obtain ⟨L,hL,X,seen,es',k0,k1,k2,k3,k4,k5⟩:=hH.blk q _ hb (by simp)
 obtain ⟨_,⟨f1,f2,f3⟩,_⟩:=hH.frz.mp x X k1
 have hh:u=.pointer (some ⟨L.blk,0,none⟩):=by
  cases hu with
  |ptr _ _ M hM=>rw [hL] at hM;cases hM;rw [k0]
 subst hh
 rcases run_next_at (P:=P) w ty L.blk X.blk X.cl X.cl seen X.es X.cl k2 f1 f3 (Nat.le_refl _) with ⟨n1,n2⟩|⟨e,he,w1,hw1,hrun⟩
 ·left
  refine ⟨?_,n2⟩
  have h0:(leftOf X.es seen).toList=[]:=List.eq_nil_of_length_eq_zero (by simpa using n1)
  rw [h0] at k3
  have:=List.Perm.nil_eq k3
  subst this
  cases k4;rfl
 ·right
  have hm:e∈es':=k3.mem_iff.1 he
  obtain ⟨j,hj,hje⟩:=List.getElem_of_mem hm
  have hje:es'[j]? =some e:=by rw [List.getElem?_eq_getElem hj,hje]
  obtain ⟨p,q1,q2,q3⟩:=k4.get_of j e hje
  have hsub:List.Sublist (leftOf X.es seen).toList X.es.toList:=by
   unfold leftOf;rw [Array.toList_filter];exact List.filter_sublist
  have hnod:((leftOf X.es seen).toList.map (·.born)).Nodup:=f2.sublist (hsub.map _)
  have hnod':(es'.map (·.born)).Nodup:=(k3.map _).nodup_iff.1 hnod
  refine ⟨j,p,_,_,q1,hrun,.tuple _ _ (.cons _ _ _ _ (.bool _) (.cons _ _ _ _ q2 (.cons _ _ _ _ q3 .nil))),?_⟩
  have hlt:L.blk<w.heap.size:=(Array.getElem?_eq_some_iff.1 k2).1
  have hheap:w1.heap=w.heap:=by rcases hw1 with rfl|rfl<;>rfl
  have hW:Wr L.blk w (ChangeMaps.setBlock w1 L.blk (.mapIter (some X.blk) X.cl (seen.push e.born) X.cl)):=by
   constructor
   ·simp [ChangeMaps.setBlock,hheap]
   ·intro k hk
    simp only [ChangeMaps.setBlock,hheap]
    exact Array.getElem?_setIfInBounds_ne (Ne.symm hk)
   ·rcases hw1 with rfl|rfl<;>rfl
   ·rcases hw1 with rfl|rfl<;>rfl
   ·rcases hw1 with rfl|rfl<;>rfl
  refine HRel.writeK hH ⟨_,hb,by simp⟩ hL hW ?_
  refine ⟨X,seen.push e.born,es'.eraseIdx j,k0,k1,?_,?_,k4.erase j,fun k v hc=> ?_⟩
  ·simp [ChangeMaps.setBlock,hheap,hlt]
  ·have e1:(leftOf X.es (seen.push e.born)).toList=(leftOf X.es seen).toList.filter (fun y=> !(y.born==e.born)):=by
    unfold leftOf
    simp only [Array.toList_filter,List.filter_filter]
    congr 1
    funext y
    rw [contains_push]
    cases seen.contains y.born<;>simp
   rw [e1,<-Qzk es' j e hnod' hje]
   exact k3.filter _
  ·cases hc
   exact ⟨e,seen,hsub.subset he,rfl,q2,q3⟩
section
variable {P : Program} {C : CxF} {call : Q7} {round : Qbf}
theorem HRel.below {ng:Cx} {g:Inj} {H:List Blk} {w w':World} (h:HRel ng g H w) (hb:RowKit.Below w.heap.size w w'):HRel ng g H w'/\Ext g H w g H w':=by
 refine ⟨⟨fun i L hi=>⟨(h.dom i L hi).1,Nat.lt_of_lt_of_le (h.dom i L hi).2 hb.size⟩,h.inj,?_,h.glob,h.sig,h.frz.to rfl rfl (Nat.le_refl _) hb.size fun b hlt q2=>⟨hb.block b hlt,q2⟩⟩,
  ⟨Sub.refl g,(fun i L hi hn=>by rw [hn] at hi;cases hi),(fun i L hi hn=>by rw [hn] at hi;cases hi),Nat.le_refl _,fun _ _ hl=>hl,hb.size,fun b hlt _=>hb.block b hlt,hb.os,hb.tape,hb.output⟩⟩
 intro i k hi hk
 rcases h.blk0 i k hi hk with hz|⟨L,hL,hB⟩
 ·exact .inl hz
 exact .inr ⟨L,hL,hB.of_same (hb.block _ (h.dom i L hL).2)⟩
theorem Q94 {ng:Cx} {f:FuncId} {args a1 a2:List AVal} {b z:Nat} {hp hp2:Hp} {g:Inj} {w:World} {args':Array Value} (h:Qi8 ng f args hp=some (b,z,a1,a2,hp2)) (hH:HRel ng g hp.heap w) (hl:LRel g args args'.toList):
  (∃c e,hp.heap[b]? =some (.cells c e))/\(LRel g a1 args'.toList\/(LRel g a2 args'.toList/\HRel ng g hp2.heap w/\Ext g hp.heap w g hp2.heap w/\Touch hp hp2)):=by
 unfold Qi8 at h
 split at h
 ·cases h
 ·split at h
  ·cases h
  ·split at h
   ·rename_i b off len cap ex rest
    split at h
    ·cases h
    ·rename_i z
     split at h
     ·rename_i c e hb
      split at h
      ·rename_i hc
       obtain ⟨h1,h2,h3,h4⟩:=hc
       subst h1;subst h2
       cases h
       refine ⟨⟨_,_,hb⟩,?_⟩
       obtain ⟨args'⟩:=args'
       simp only at hl⊢
       cases hl with
       |cons _ u _ m hu hm=>
       cases hu with
       |slice _ _ _ _ _ o' cap' L hL q0 q1 q2=>
       have ho:o'=0:=by
        rcases q0 with q0|q0
        ·exact q0
        ·omega
       subst ho
       obtain ⟨q3,q4⟩:=q2 _ rfl
       by_cases hcap:cap'=len
       ·subst hcap
        exact .inl (.cons _ _ _ _ (.slice _ _ _ _ _ _ _ L hL (.inl rfl) (fun _=>rfl) (fun _ hz=>by cases hz)) hm)
       ·have hmul:(len+1)*z<=cap'*z:=Nat.mul_le_mul_right _ (by omega)
        rw [Nat.add_mul] at hmul
        obtain ⟨M,hM,C,fr,k1,k2,k3,k4,k5⟩:=hH.blk b _ hb (by simp)
        rw [hL] at hM;cases hM
        have hB:BRel g w (.cells (c++List.replicate z .junk) e) L:=by
         refine ⟨C,fr,k1,k2,k3,by simp;omega,?_⟩
         intro i a hi
         rcases Nat.lt_or_ge i c.length with h9|h9
         ·rw [List.getElem?_append_left h9] at hi
          exact k5 i a hi
         ·rw [List.getElem?_append_right h9] at hi
          have hlt:i-c.length<z:=by
           have:=(List.getElem?_eq_some_iff.1 hi).1
           simpa using this
          rw [List.getElem?_replicate,if_pos hlt] at hi
          cases hi
          have hs:L.dl+i<C.size:=by omega
          have hv:C[L.dl+i]? =some C[L.dl+i]:=by simp [hs]
          have h1c:=k3.one C[L.dl+i] (by simp)
          exact ⟨_,hv,.junk _ h1c,h1c⟩
        obtain ⟨r1,r2⟩:=HRel.writeK hH (k':=.cells (c++List.replicate z .junk) e) ⟨_,hb,by simp⟩ hL (Wr.refl _ _) hB
        refine .inr ⟨.cons _ _ _ _ (.slice _ _ _ _ _ _ _ L hL (.inl rfl) (fun h=>by cases h) (fun z' hz=>by cases hz;exact ⟨by omega,q4⟩)) hm,r1,r2,Qd8 ⟨_,hb,by simp⟩ (fun la h=>by cases h)⟩
      ·cases h
     ·cases h
   ·cases h
theorem Qz3 {ng:Cx} {f:FuncId} {args a1 a2:List AVal} {b z:Nat} {hp hp2:Hp} (h:Qi8 ng f args hp=some (b,z,a1,a2,hp2)):Touch hp hp2/\ ∃c e,hp.heap[b]? =some (.cells c e):=by
 unfold Qi8 at h
 split at h
 ·cases h
 ·split at h
  ·cases h
  ·split at h
   ·split at h
    ·cases h
    ·split at h
     ·rename_i hb
      split at h
      ·cases h
       exact ⟨Qd8 ⟨_,hb,by simp⟩ (fun la h=>by cases h),_,_,hb⟩
      ·cases h
     ·cases h
   ·cases h
theorem OutQ.rebase {ng:Cx} {hp hp2:Hp} {g:Inj} {w:World} {o:Out} {hp':Hp} {e:Ending} {w':World} (hH:HRel ng g hp.heap w) (ht:Touch hp hp2) (hE:Ext g hp.heap w g hp2.heap w) (h:OutQ ng hp2 g w o hp' e w'):OutQ ng hp g w o hp' e w':=by
 obtain ⟨h1,g',h2,h3,h4⟩:=h
 exact ⟨ht.trans h1,g',h2,h3,hE.trans hH h4⟩
set_option maxHeartbeats 2000000 in
theorem Qbgg {P:Program} {w:World} {tS tR e:TypeId} {size:Nat} (ht:P.underlying tS=some (.slice e)) (hz: ∀w,(sizeOf e).run P w=.ok size w) {a b:Addr} {la ca lb cb:Nat} (hne:a.block≠b.block) {tA tB:TypeId} {kA kB:Nat}
  (hsa:w.shape? a.block=some (tA,kA)) (hsb:w.shape? b.block=some (tB,kB)) (hfa:w.frozen? a=false):
  ∃x w',(Extern.SlicesOverlaps.overlaps #[tS,tS] #[tR] #[.slice (some a) la ca,.slice (some b) lb cb]).run P w=.ok (.bool x) w'/\RowKit.Below w.heap.size w w':=by
 have hnb:(a.block !=b.block)=true:=by simpa using hne
 have hnb':(a.block==b.block)=false:=by simpa using hne
 have b0:RowKit.Below w.heap.size w w:=⟨rfl,rfl,rfl,Nat.le_refl _,fun _ _=>rfl⟩
 have b1:RowKit.Below w.heap.size w w.drew:=⟨rfl,rfl,rfl,Nat.le_refl _,fun _ _=>rfl⟩
 show∃x w',Sem.run P (α:=Value) (do
  let some t:=(#[tS,tS]:Array TypeId)[0]?|stuck "slices.overlaps: no parameter types"
  let .slice elem<-underlying t|stuck "slices.overlaps: slice type expected"
  let size<-sizeOf elem
  match (some a:Option Addr),(some b:Option Addr) with
  |some a,some b=>
   if la=0\/lb=0\/size=0 then pure (Value.bool false)
   else if a.block !=b.block&&(<-frozen a)&&(<-frozen b) then unsupported .addressObserved
   else do
    if a.block !=b.block then do
     noView a;noView b
     if<-mayBeOne a b then return Value.bool ((<-choose (.extern "sameAddr.stringBytes" 2))==1)
    pure (Value.bool (a.block==b.block&&a.off<b.off+lb*size&&b.off<a.off+la*size))
  |_,_=>pure (Value.bool false)) w=.ok (.bool x) w'/\RowKit.Below w.heap.size w w'
 by_cases h0:la=0\/lb=0\/size=0
 ·exact ⟨false,w,by simp [run_underlying ht,hz,h0],b0⟩
 ·have hq:(Question.extern "sameAddr.stringBytes" 2).forced=false:=rfl
  cases e1:w.frozen? {block:=a.block,off:=kA}<;>cases e2:w.frozen? b<;>cases e3:w.frozen? {block:=b.block,off:=kB}<;>cases kA<;>cases kB<;>first
   |(refine ⟨false,w,?_,b0⟩;simp [run_underlying ht,hz,h0,hnb,hnb',frozen,noView,viewAt,mayBeOne,stringish,shape,Sem.run,hsa,hsb,hfa,e1,e2,e3];done)
   |(refine ⟨((Question.extern "sameAddr.stringBytes" 2).cut (w.tape w.drawn (Question.extern "sameAddr.stringBytes" 2)))==1,w.drew,?_,b1⟩;simp [run_underlying ht,hz,h0,hnb,hnb',frozen,noView,viewAt,mayBeOne,stringish,shape,Sem.run,hsa,hsb,hfa,e1,e2,e3,hq])
theorem Qbgf {P:Program} {ng:Cx} {t:Tm} {c:Call} {type:TypeId} {hp:Hp} {g:Inj} {w:World} {ρ:Operand->Value} (h:ovlA ng t c hp=true) (hok: ∀f k,ng.insf=some (f,k)->Qxj P k) (hH:HRel ng g hp.heap w) (hρ:ERel g ng t ρ):
  ∃x w',(do let d<-resolve ρ c type;invoke d.target d.args:Sem Next).run P w=.ok (.value (.bool x)) w'/\HRel ng g hp.heap w'/\Ext g hp.heap w g hp.heap w':=by
 unfold ovlA at h
 split at h
 ·cases h
 ·rename_i x hx
  split at h
  ·rename_i fo hc
   split at h
   ·rename_i k b o n1 c1 e1 b2 o2 n2 c2 e2 hf hl
    simp only [Bool.and_eq_true,Bool.not_eq_true'] at h
    obtain ⟨hk,hb,h1,h2⟩:=h
    have hk:=Nat.eq_of_beq_eq_true hk
    have hb:=Nat.ne_of_beq_eq_false hb
    split at h1
    ·rename_i cs ct hcs
     split at h2
     ·rename_i cs2 ct2 hcs2
      obtain ⟨tS,tR,e,size,ht,hz,hcall⟩:=hok x.1 x.2 hx
      have hv:=hρ.1 fo _ hf
      cases hh:ρ fo<;>rw [hh] at hv<;>cases hv
      rename_i first' cap' hfirst hcap
      obtain ⟨first'⟩:=first'
      obtain ⟨cap'⟩:=cap'
      simp only at hfirst hcap
      cases hfirst
      cases hcap
      have hargs:=Qby hρ _ _ hl
      generalize hgen:c.args.toList.map ρ=vs at hargs
      cases hargs with
      |cons _ u _ m hu hm=>
      cases hm with
      |cons _ u2 _ m2 hu2 hm2=>
      cases hm2
      cases hu with
      |slice _ _ _ _ _ o' cap' L hL q0 q1 q2=>
      cases hu2 with
      |slice _ _ _ _ _ o2' cap2' L2 hL2 r0 r1 r2=>
      obtain ⟨M,hM,C,fr,k1,k2,k3,k4,k5⟩:=hH.blk b _ hcs (by simp)
      rw [hL] at hM;cases hM
      obtain ⟨M2,hM2,C2,fr2,l1,l2,l3,l4,l5⟩:=hH.blk b2 _ hcs2 (by simp)
      rw [hL2] at hM2;cases hM2
      have hne:L.blk≠L2.blk:=fun he=>hb (hH.inj b b2 L L2 hL hL2 he ⟨_,hcs,by simp⟩ ⟨_,hcs2,by simp⟩)
      have hsa:w.shape? L.blk=some (ct,C.size):=by simp [World.shape?,k1]
      have hsb:w.shape? L2.blk=some (ct2,C2.size):=by simp [World.shape?,l1]
      have hre:(do let d<-resolve ρ c type;invoke d.target d.args:Sem Next).run P w=(callFunc k #[.slice (some ⟨L.blk,L.dl+o',none⟩) n1 cap',.slice (some ⟨L2.blk,L2.dl+o2',none⟩) n2 cap2']).run P w:=by
       have:c.args.map ρ= #[.slice (some ⟨L.blk,L.dl+o',none⟩) n1 cap',.slice (some ⟨L2.blk,L2.dl+o2',none⟩) n2 cap2']:=by
        apply Array.ext'
        simpa using hgen
       simp [resolve,hc,hh,Deferred.ofValue,invoke,this]
      have key: ∃x w',(Extern.SlicesOverlaps.overlaps #[tS,tS] #[tR] #[.slice (some ⟨L.blk,L.dl+o',none⟩) n1 cap',.slice (some ⟨L2.blk,L2.dl+o2',none⟩) n2 cap2']).run P w=.ok (.bool x) w'/\RowKit.Below w.heap.size w w':=by
       rcases q0 with q0|q0
       ·refine Qbgg ht hz hne hsa hsb ?_
        subst q0
        simp only [World.frozen?,k1]
        have hlt:L.dl+o'<C.size:=by
         have:o'<cs.length:=by simpa using h1
         omega
        have:=k3.not _ hlt
        obtain ⟨lo,hi⟩:=fr
        simp only at this⊢
        simp only [Bool.and_eq_false_iff,decide_eq_false_iff_not]
        by_cases hlo:lo<=L.dl+o'
        ·exact .inr fun hh=>this ⟨hlo,hh⟩
        ·exact .inl hlo
       ·have h0:n1=0\/n2=0\/size=0:=.inl q0.1
        refine ⟨false,w,?_,⟨rfl,rfl,rfl,Nat.le_refl _,fun _ _=>rfl⟩⟩
        show Sem.run P (α:=Value) (do
         let some t:=(#[tS,tS]:Array TypeId)[0]?|stuck "slices.overlaps: no parameter types"
         let .slice elem<-underlying t|stuck "slices.overlaps: slice type expected"
         let size<-sizeOf elem
         match (some (⟨L.blk,L.dl+o',none⟩:Addr):Option Addr),(some (⟨L2.blk,L2.dl+o2',none⟩:Addr):Option Addr) with
         |some a,some b=>
          if n1=0\/n2=0\/size=0 then pure (Value.bool false)
          else if a.block !=b.block&&(<-frozen a)&&(<-frozen b) then unsupported .addressObserved
          else do
           if a.block !=b.block then do
            noView a;noView b
            if<-mayBeOne a b then return Value.bool ((<-choose (.extern "sameAddr.stringBytes" 2))==1)
           pure (Value.bool (a.block==b.block&&a.off<b.off+n2*size&&b.off<a.off+n1*size))
         |_,_=>pure (Value.bool false)) w=.ok (.bool false) w
        simp [run_underlying ht,hz,h0]
      obtain ⟨y,w',e1',e2'⟩:=key
      obtain ⟨g1,g2⟩:=hH.below e2'
      refine ⟨y,w',?_,g1,g2⟩
      rw [hre,hk,hcall,e1']
      rfl
     ·cases h2
    ·cases h1
   ·cases h
  ·cases h
theorem Qxv {ng:Cx} {t:Tm} {c:Call} {hp hp':Hp} {v:AVal} (h:Qko ng t c hp=some (v,hp')):Touch hp hp':=by
 unfold Qko at h
 cases h
theorem Q7y {P:Program} {ng:Cx} {t:Tm} {c:Call} {type:TypeId} {hp hp':Hp} {g:Inj} {w:World} {v:AVal} {ρ:Operand->Value} (h:Qko ng t c hp=some (v,hp')) (hok: ∀k b,(k,b)∈ng.atoms->Qxh P k b) (hH:HRel ng g hp.heap w) (hρ:ERel g ng t ρ):
  ∃u w',(do let d<-resolve ρ c type;invoke d.target d.args:Sem Next).run P w=.ok (.value u) w'/\VRel g v u/\HRel ng g hp'.heap w'/\Ext g hp.heap w g hp'.heap w':=by
 unfold Qko at h
 cases h
theorem Qz7 {hp:Hp} {b:Nat} {c:List AVal} {e:TypeId} (hb:Live hp.heap b):Touch hp ⟨hp.heap.set b .gone++[.cells c e],b::hp.log⟩:=
 (Qd8 (k:=.gone) hb (fun la h=>by cases h)).trans Qgf
theorem toList_inj {a b:ByteArray} (h:a.toList=b.toList):a=b:=by
 have h1:=beq_toListBytes a b
 rw [h] at h1
 simp only [BEq.rfl] at h1
 obtain ⟨a⟩:=a
 obtain ⟨b⟩:=b
 have h2:(a==b)=true:=h1
 rw [eq_of_beq h2]
theorem Q9n: ∀{a b:AVal},eqN a b=true->a=b:=by
 intro a b h
 cases a<;>cases b<;>simp only [eqN,Bool.and_eq_true,decide_eq_true_eq,beq_iff_eq,Bool.false_eq_true] at h
 ·rw [h]
 ·rw [h.1,h.2]
 ·rename_i x y
  rw [toList_inj h]
 ·rw [h.1,Nat.eq_of_beq_eq_true h.2]
 ·rw [Nat.eq_of_beq_eq_true h]
 ·rw [Nat.eq_of_beq_eq_true h]
theorem Qzi: ∀{l m:List AVal},eqNs l m=true->l=m
 |[],[],_=>rfl
 |[],_::_,h=>by simp [eqNs] at h
 |_::_,[],h=>by simp [eqNs] at h
 |a::l,b::m,h=>by
  simp only [eqNs,Bool.and_eq_true] at h
  rw [Q9n h.1,Qzi h.2]
theorem Q5w {x y:Nat×List AVal×TypeId} (h:Qq5 x y=true):x=y:=by
 simp only [Qq5,Bool.and_eq_true] at h
 obtain ⟨h1,h2,h3⟩:=h
 obtain ⟨a,b,c⟩:=x
 obtain ⟨a',b',c'⟩:=y
 simp only at h1 h2 h3
 rw [Nat.eq_of_beq_eq_true h1,Nat.eq_of_beq_eq_true h2,Qzi h3]
theorem Qbf4 {g g':Inj} (hs:g'.sig=g.sig) {a:AVal} {v:Value} (h:VRel g a v) (hn:numV a=true):VRel g' a v:=by
 cases h<;>simp only [numV,Bool.false_eq_true] at hn
 ·exact .bool _
 ·exact .int _ _
 ·exact .str _
 ·rw [<-hs];exact .symi _ _
 ·rw [<-hs];exact .symb _
 ·rw [<-hs];exact .syms _
theorem Q34: ∀{l:List AVal},Qmm l=true-> ∀(i:Nat) (a:AVal),l[i]? =some a->numV a=true
 |[],_,i,a,h=>by simp at h
 |b::l,hn,0,a,h=>by
  simp only [Qmm,Bool.and_eq_true] at hn
  simp at h;subst h;exact hn.1
 |b::l,hn,i+1,a,h=>by
  simp only [Qmm,Bool.and_eq_true] at hn
  exact Q34 hn.2 i a (by simpa using h)
theorem Q4e {n b:Nat}: ∀{l:List Nat},oldB n b l=true-> ∀i,i<n->i≠b->i∉l
 |[],_,_,_,_=>by simp
 |j::l,h,i,hi,hb=>by
  simp only [oldB,Bool.and_eq_true,Bool.or_eq_true] at h
  simp only [List.mem_cons,not_or]
  refine ⟨fun e=> ?_,Q4e h.2 i hi hb⟩
  rcases h.1 with h1|h1
  ·have:=Nat.le_of_ble_eq_true h1;omega
  ·exact hb (e.trans (Nat.eq_of_beq_eq_true h1))
theorem Qp9 {hp:Hp} {b z:Nat} {d:Nat×List AVal×TypeId} {σ:Sig}: ∀{T:Tree (Out×Hp)},Qe4 hp b z T=some d->Sat σ (fun x=>Qp8 hp b z x=some d) T
 |.leaf x,h=>h
 |.or y n,h=>by
  simp only [Qe4] at h
  split at h
  ·rename_i d1 h1
   split at h
   ·rename_i d2 h2
    split at h
    ·rename_i hs
     cases h
     have:=Q5w hs
     subst this
     exact ⟨Qp9 h1,Qp9 h2⟩
    ·cases h
   ·cases h
  ·cases h
 |.node _ _ _,h=>by simp [Qe4] at h
 |.pick _ _ _ _,h=>by simp [Qe4] at h
 |.dead,h=>by simp [Qe4] at h
 |.req _ _,h=>by simp [Qe4] at h
theorem Q99 {ng:Cx} {g g':Inj} {H H':List Blk} {w w':World} (h:HRel ng g H w) (h':HRel ng g' H' w') (hsub:Sub g g') {i:Nat} {k:Blk} (hi:H[i]? =some k) (hi':H'[i]? =some k) (hk:k≠.gone):Qb6 g k\/ ∃L,g i=some L/\BRel g w' k L:=by
 rcases h.blk0 i k hi hk with hz|⟨L,hL,hB⟩
 ·exact .inl hz
 rcases h'.blk0 i k hi' hk with hz|⟨L',hL',hB'⟩
 ·exact .inl (hz.mono hsub.sig.symm)
 refine .inr ⟨L,hL,?_⟩
 have:=hsub i L hL
 rw [this] at hL';cases hL'
 cases k with
 |gone=>trivial
 |map l=>
  obtain ⟨_,_,es1,_,_,b3,_⟩:=hB
  obtain ⟨es,cl,es',d1,d2,d3,d4⟩:=hB'
  exact ⟨es,cl,es',d1,d2,MRel.back hsub b3 d3,d4⟩
 |iter x l cur=>
  obtain ⟨X,_,es1,b0,b1,_,_,b4,b5⟩:=hB
  obtain ⟨X',seen,es',d0,d1,d2,d3,d4,d5⟩:=hB'
  have:=hsub.mp _ _ b1
  rw [this] at d1;cases d1
  refine ⟨_,seen,es',b0,b1,d2,d3,MRel.back hsub b4 d4,fun k v e=> ?_⟩
  obtain ⟨e1,s0,_,_,c3,c4⟩:=b5 k v e
  obtain ⟨e2,s1,f1,f2,f3,f4⟩:=d5 k v e
  exact ⟨e2,s1,f1,f2,VRel.back' hsub c3 f3,VRel.back' hsub c4 f4⟩
 |loop la=>
  obtain ⟨r,b1,b2,b3,b4,b5,b6,b7,D,b8,b9⟩:=hB
  obtain ⟨r',d1,d2,d3,d4,d5,d6,d7,D',d8,d9⟩:=hB'
  have hD:=hsub _ _ b8
  rw [hD] at d8;cases d8
  refine ⟨r',d1,d2,d3,⟨d4.1,fun j v hv=> ?_⟩,d5,d6,d7,D,b8,d9⟩
  obtain ⟨u,_,m2⟩:=b4.2 j v hv
  obtain ⟨u',n1,n2⟩:=d4.2 j v hv
  exact ⟨u',n1,VRel.back' hsub m2 n2⟩
 |dfr=>exact hB'
 |cells c e=>
  obtain ⟨C,fr,_,_,_,_,b5⟩:=hB
  obtain ⟨C',fr',d1,d2,d3,d4,d5⟩:=hB'
  refine ⟨C',fr',d1,d2,d3,d4,?_⟩
  intro j x hj
  obtain ⟨v,_,m2,_⟩:=b5 j x hj
  obtain ⟨v',n1,n2,n3⟩:=d5 j x hj
  exact ⟨v',n1,VRel.back' hsub m2 n2,n3⟩
 |lst s n cl e=>
  obtain ⟨S,N,_,_,_,p1,p2,_,_,_,_,_,p8⟩:=hB
  obtain ⟨S',N',C',fr',e9,d1,d2,d3,d4,d5,d6,d7,d8⟩:=hB'
  rw [hsub.sig] at d1 d2 d6
  have eN:N'=N:=by rw [p2] at d2;cases d2;rfl
  have eS:S'=S:=by rw [p1] at d1;cases d1;rfl
  subst eN;subst eS
  refine ⟨S',N',C',fr',e9,d1,d2,d3,d4,d5,d6,d7,fun m j hm hj=> ?_⟩
  obtain ⟨v,_,m2,_⟩:=p8 m j hm hj
  obtain ⟨v',n1,n2,n3⟩:=d8 m j hm hj
  exact ⟨v',n1,VRel.back' hsub m2 n2,n3⟩
theorem OutQ.norm {ng:Cx} {hp:Hp} {g:Inj} {w:World} {b z len:Nat} {c:List AVal} {e:TypeId} {x:Out×Hp} {en:Ending} {w':World} (hH:HRel ng g hp.heap w) (hb: ∃c e,hp.heap[b]? =some (.cells c e)) (h:Qp8 hp b z x=some (len,c,e)) (ho:OutQ ng hp g w x.1 x.2 en w'):
  OutQ ng hp g w (.val (.slice hp.heap.length 0 len len (some z))) ⟨hp.heap.set b .gone++[.cells c e],b::hp.log⟩ en w':=by
 obtain ⟨cb,eb,hb⟩:=hb
 have hbl:b<hp.heap.length:=(List.getElem?_eq_some_iff.1 hb).1
 have hlb:Live hp.heap b:=⟨_,hb,by simp⟩
 obtain ⟨hT,g',hO,hH',hE⟩:=ho
 unfold Qp8 at h
 split at h
 ·rename_i v hv
  split at h
  ·rename_i nb off len' cap ex
   split at h
   ·rename_i z'
    split at h
    ·rename_i c0 e0 hnb
     split at h
     ·rename_i hc
      obtain ⟨rfl,rfl,h0,hcap,hnbb,hlen,hold,hnum⟩:=hc
      simp only [Option.some.injEq,Prod.mk.injEq] at h
      obtain ⟨rfl,rfl,rfl⟩:=h
      rw [hv] at hO
      obtain ⟨u,rfl,hu⟩:=hO
      cases hu with
      |slice _ _ _ _ _ o' cap' L hL q0 q1 q2=>
      have ho':o'=0:=by
       rcases q0 with q0|q0
       ·exact q0
       ·omega
      subst ho'
      obtain ⟨q3,q4⟩:=q2 _ rfl
      have hsame: ∀i,i<hp.heap.length->i≠b->x.2.heap[i]? =hp.heap[i]?:=by
       intro i hi hib
       obtain ⟨pre,e1,e2⟩:=hT.log
       refine e2 i hi ?_
       have:x.2.log.take (x.2.log.length-hp.log.length)=pre:=by rw [e1];simp
       rw [this] at hold
       exact Q4e hold i hi hib
      have hgn:g hp.heap.length=none:=by
       cases hg:g hp.heap.length with
       |none=>rfl
       |some M=>have:=(hH.dom _ M hg).1;omega
      have hlnb:Live x.2.heap nb:=⟨_,hnb,by simp⟩
      have hset: ∀i,i≠b->(hp.heap.set b .gone)[i]? =hp.heap[i]?:=fun i hi=>List.getElem?_set_ne (Ne.symm hi)
      have hsetb:(hp.heap.set b .gone)[b]? =some .gone:=List.getElem?_set_self hbl
      have hlenS:(hp.heap.set b .gone).length=hp.heap.length:=by simp
      have old: ∀i k,(hp.heap.set b .gone++[.cells (c0.take (len'*z')) e0])[i]? =some k->k≠.gone->(i<hp.heap.length/\i≠b/\hp.heap[i]? =some k)\/(i=hp.heap.length/\k=.cells (c0.take (len'*z')) e0):=by
       intro i k hi hk
       rcases Nat.lt_or_ge i hp.heap.length with h9|h9
       ·rw [List.getElem?_append_left (by rw [hlenS];exact h9)] at hi
        by_cases hib:i=b
        ·subst hib;rw [hsetb] at hi;cases hi;exact absurd rfl hk
        ·rw [hset i hib] at hi;exact .inl ⟨h9,hib,hi⟩
       ·rw [List.getElem?_append_right (by rw [hlenS];exact h9),hlenS] at hi
        have:i-hp.heap.length=0:=by
         have:=(List.getElem?_eq_some_iff.1 hi).1
         simp at this;omega
        rw [this] at hi
        simp at hi
        exact .inr ⟨by omega,hi.symm⟩
      have liv: ∀i,Live (hp.heap.set b .gone++[.cells (c0.take (len'*z')) e0]) i->(i<hp.heap.length/\i≠b/\Live hp.heap i/\Live x.2.heap i)\/i=hp.heap.length:=by
       rintro i ⟨k,hi,hk⟩
       rcases old i k hi hk with ⟨h1,h2,h3⟩|⟨h1,_⟩
       ·exact .inl ⟨h1,h2,⟨k,h3,hk⟩,⟨k,(hsame i h1 h2).trans h3,hk⟩⟩
       ·exact .inr h1
      have hsub:=hE.sub
      have apart: ∀i M,i<hp.heap.length->i≠b->Live x.2.heap i->g i=some M->M.blk≠L.blk:=by
       intro i M h1 h2 h3 h4 he
       have:=hH'.inj i nb M L (hsub _ _ h4) hL he h3 hlnb
       omega
      obtain ⟨M,hM,C,fr,k1,k2,k3,k4,k5⟩:=hH'.blk nb _ hnb (by simp)
      rw [hL] at hM;cases hM
      have hLblk:=(hH'.dom nb L hL).2
      refine ⟨?_,upd g hp.heap.length L,⟨_,rfl,?_⟩,?_,?_⟩
      ·exact Qz7 hlb
      ·exact .slice _ _ _ _ _ 0 cap' L (Qx _ _ _) (.inl rfl) (fun h=>by cases h) (fun z hz=>by cases hz;exact ⟨by omega,q4⟩)
      ·refine ⟨?_,?_,?_,?_,hH.sig,?_⟩
       ·intro i N hi
        by_cases hin:i=hp.heap.length
        ·subst hin
         rw [Qx] at hi;cases hi
         exact ⟨by simp,hLblk⟩
        ·rw [Qs _ _ hin] at hi
         have:=hH.dom i N hi
         exact ⟨by simp;omega,Nat.lt_of_lt_of_le this.2 hE.size⟩
       ·intro i j N N' hi hj he li lj
        rcases liv i li with ⟨a1,a2,a3,a4⟩|a1<;>rcases liv j lj with ⟨d1,d2,d3,d4⟩|d1
        ·rw [Qs _ _ (by omega)] at hi hj
         exact hH.inj i j N N' hi hj he a3 d3
        ·subst d1
         rw [Qs _ _ (by omega)] at hi
         rw [Qx] at hj;cases hj
         exact absurd he (apart i N a1 a2 a4 hi)
        ·subst a1
         rw [Qs _ _ (by omega)] at hj
         rw [Qx] at hi;cases hi
         exact absurd he.symm (apart j N' d1 d2 d4 hj)
        ·omega
       ·intro i k hi hk
        rcases old i k hi hk with ⟨a1,a2,a3⟩|⟨a1,a2⟩
        ·rcases Q99 hH hH' hsub a3 ((hsame i a1 a2).trans a3) hk with hz|⟨N,n1,n2⟩
         ·exact .inl (hz.mono rfl)
         ·exact .inr ⟨N,by rw [Qs _ _ (by omega)];exact n1,n2.mono (Qfd L hgn)⟩
        ·subst a1;subst a2
         refine .inr ⟨L,Qx _ _ _,C,fr,k1,k2,k3,by rw [List.length_take];omega,?_⟩
         intro j a hj
         have hj0:c0[j]? =some a:=by
          rw [List.getElem?_take] at hj
          split at hj
          ·exact hj
          ·cases hj
         obtain ⟨y,y1,y2,y3⟩:=k5 j a hj0
         exact ⟨y,y1,Qbf4 (g':=upd g hp.heap.length L) (show g.sig=g'.sig from hsub.sig.symm) y2 (Q34 hnum j a hj),y3⟩
       ·intro i hi
        obtain ⟨N,n1,n2⟩:=hH.glob i hi
        have:=(hH.dom i N n1).1
        exact ⟨N,by rw [Qs _ _ (by omega)];exact n1,n2⟩
       ·refine ⟨fun i X hi hX=> ?_,fun i X hi=> ?_,fun i X hi hX=>hH'.frz.top i X hi (by rw [hsub.sig];exact hX)⟩
        ·have f:=hH'.frz.row i X (by rw [hsub.sig];exact hi) hX
         refine ⟨f.1,fun j N hj lj=> ?_⟩
         rcases liv j lj with ⟨a1,a2,a3,a4⟩|a1
         ·rw [Qs _ _ (by omega)] at hj
          exact f.2 j N (hsub _ _ hj) a4
         ·subst a1
          rw [Qx] at hj;cases hj
          exact f.2 nb L hL hlnb
        ·have f0:=hH.frz.mp i X hi
         have f:=hH'.frz.mp i X (hsub.mp i X hi)
         refine ⟨by simp;omega,f.2.1,fun j N hj lj=> ?_⟩
         rcases liv j lj with ⟨a1,a2,a3,a4⟩|a1
         ·rw [Qs _ _ (by omega)] at hj
          exact f.2.2 j N (hsub _ _ hj) a4
         ·subst a1
          rw [Qx] at hj;cases hj
          exact f.2.2 nb L hL hlnb
      ·refine ⟨Qfd L hgn,?_,fun i X hi hn=> ?_,by simp,fun i hi li=> ?_,hE.size,hE.frame,hE.os,hE.tape,hE.output⟩
       ·intro i N hi hn
        by_cases hin:i=hp.heap.length
        ·subst hin
         rw [Qx] at hi;cases hi
         refine ⟨Nat.le_refl _,?_⟩
         cases hgnb:g nb with
         |none=>exact (hE.new nb L hL hgnb).2
         |some N=>
          have:=hsub _ _ hgnb
          rw [hL] at this;cases this
          have hlt:=(hH.dom nb _ hgnb).1
          have:nb=b:=by omega
          subst this
          exact .inr ⟨nb,L,hgnb,rfl,hlb⟩
        ·rw [Qs _ _ hin] at hi
         rw [hn] at hi;cases hi
       ·exact absurd hi (by show¬g.mp i=some X;rw [hn];simp)
       ·rcases liv i li with ⟨_,_,a3,_⟩|a1
        ·exact a3
        ·omega
     ·cases h
    ·cases h
   ·cases h
  ·cases h
 ·cases h
theorem Q78 {P:Program} {C:CxF} {call:Q7} (hcall:Qhe P C call) {F:List Fact} {f:FuncId} {args:List AVal} {hp:Hp} {Q1:Out×Hp->Prop} {g:Inj} {w:World} {args':Array Value} (hH:HRel (C F) g hp.heap w) (hl:LRel g args args'.toList)
  (hs:Sat g.sig Q1 (match Qi8 (C F) f args hp with
   |some (b,z,a1,a2,hp2)=>Qle hp b z (call F f a1 hp) (call F f a2 hp2)
   |none=>call F f args hp)):Calls P f args' w fun e w'=> ∃x,Q1 x/\OutQ (C F) hp g w x.1 x.2 e w':=by
 split at hs
 ·rename_i b z a1 a2 hp2 hf
  obtain ⟨hbb,hfork⟩:=Q94 hf hH hl
  have both:Sat g.sig Q1 (.or (call F f a1 hp) (call F f a2 hp2))->Calls P f args' w fun e w'=> ∃x,Q1 x/\OutQ (C F) hp g w x.1 x.2 e w':=by
   intro hs
   rcases hfork with h|⟨h,hH2,hE,hT⟩
   ·exact hcall F f a1 hp Q1 g w args' hH h hs.1
   ·exact (hcall F f a2 hp2 Q1 g w args' hH2 h hs.2).mono fun e w' ⟨x,q,o⟩=>⟨x,q,o.rebase hH hT hE⟩
  unfold Qle at hs
  split at hs
  ·rename_i d hd1
   split at hs
   ·rename_i d' hd2
    split at hs
    ·rename_i hsm
     have:=Q5w hsm
     subst this
     obtain ⟨len,c,e⟩:=d
     have hq:Q1 (.val (.slice hp.heap.length 0 len len (some z)),⟨hp.heap.set b .gone++[.cells c e],b::hp.log⟩):=hs
     rcases hfork with h|⟨h,hH2,hE,hT⟩
     ·exact (hcall F f a1 hp _ g w args' hH h (Qp9 hd1)).mono fun en w' ⟨x,q,o⟩=>⟨_,hq,o.norm hH hbb q⟩
     ·exact (hcall F f a2 hp2 _ g w args' hH2 h (Qp9 hd2)).mono fun en w' ⟨x,q,o⟩=>⟨_,hq,(o.rebase hH hT hE).norm hH hbb q⟩
    ·exact both hs
   ·exact both hs
  ·exact both hs
 ·exact hcall F f args hp Q1 g w args' hH hl hs
theorem Qsq (hC:CtxOk C) (hh: ∀F,Hooks P (C F)) (hcall:Qhe P C call) (hround:Qnk P C round) {ops:Array Oper} {o:Oper} {r:Option Nat}: ∀(n:Nat) (F:List Fact) (t:Tm) (hp:Hp) (Q1:Out×Hp->Prop) (g:Inj) (w:World) (a:Act) (K:Act->World->Prop)
  (Q:Exit->Act->World->Prop),HRel (C F) g hp.heap w->TRel g t a->Sat g.sig Q1 (Qfl P C call round ops.toList o n F t hp)->
  (∀v hp' g' u w',Q1 (.val v,hp')->Touch hp hp'->VRel g' v u->HRel (C F) g' hp'.heap w'->Ext g hp.heap w g' hp'.heap w'->K (a.put o.dst u) w')->
  (∀v hp' g' u w',Q1 (.pan v,hp')->Touch hp hp'->VRel g' v u->HRel (C F) g' hp'.heap w'->Ext g hp.heap w g' hp'.heap w'->Q (.panic [{v:=u,recovered:=false}]) a w')->
  if Region.wanted o (yielded ops a.tmps) then o.wpIn (FR r) 0 P a w K Q else (∀f,o.about P w a.eval=some f->(FR r).fn f)/\K (a.put o.dst undef) w
 |0,F,t,hp,Q1,g,w,a,K,Q,hH,ht,hs,hK,hP=>hs.elim
 |n+1,F,t,hp,Q1,g,w,a,K,Q,hH,ht,hs,hK,hP=>by
  have again: ∀x,Sat g.sig Q1 (Qek (fun F=>Qfl P C call round ops.toList o n F t hp) F x)->if Region.wanted o (yielded ops a.tmps) then o.wpIn (FR r) 0 P a w K Q else (∀f,o.about P w a.eval=some f->(FR r).fn f)/\K (a.put o.dst undef) w:=by
   intro x hx
   obtain ⟨F',hF',h'⟩:=Qww (hC.facts hH) hx
   refine Qsq hC hh hcall hround n F' t hp Q1 g w a K Q (hC.move hH hF') ht h' ?_ ?_
   ·intro v hp' g' u w' q ht' hv hH' hE
    exact hK v hp' g' u w' q ht' hv (hC.move hH' (by rw [hE.sub.sig];exact hC.facts hH)) hE
   ·intro v hp' g' u w' q ht' hv hH' hE
    exact hP v hp' g' u w' q ht' hv (hC.move hH' (by rw [hE.sub.sig];exact hC.facts hH)) hE
  have step: ∀v hp',Q1 (.val v,hp')->Step P (C F) ops.toList o t hp v hp'->if Region.wanted o (yielded ops a.tmps) then o.wpIn (FR r) 0 P a w K Q else (∀f,o.about P w a.eval=some f->(FR r).fn f)/\K (a.put o.dst undef) w:=
   fun v hp' q st=>st.wp hH ht fun g' u w' hv hH' hE=>hK v hp' g' u w' q st.touch hv hH' hE
  have hρ:ERel g (C F) t a.eval:=⟨fun x v hv=>ht.eval hH.sig hH.glob hv,hH.sig⟩
  simp only [Qfl] at hs
  split at hs
  ·exact again _ hs
  ·rename_i hw
   exact step _ _ hs (.skip hw)
  ·rename_i hw
   split at hs
   ·rename_i c hcl
    have hop:=Qts hcl
    have hnd: ∀c',o.op≠.defer c':=by intro c';rw [hop];intro h;cases h
    split at hs
    ·rename_i b l hy
     rw [Qdh hH.sig hw ht,if_pos rfl]
     obtain ⟨L,args',hL,hl,hrun⟩:=Qbkl (P:=P) (type:=o.type) hρ hy w
     obtain ⟨fn,tmps,asg,body,h1,h2⟩:=hround F b l hp Q1 g w args' L r hH hL hl hs
     have h1':(execOp a.eval o).run P w=.ok (.round L.blk fn tmps asg body) w:=by
      rw [<-h1,<-hrun]
      obtain ⟨dst,op,type,pos,after,guard⟩:=o
      simp only at hop
      subst hop
      rfl
     refine ⟨fun _ _=>trivial,?_⟩
     rw [Oper.semAt_eq _ _ _ hnd,h1']
     refine ⟨fun h=>(by cases h),h2.mono ?_⟩
     rintro e w' ⟨⟨x,hp'⟩,q,ht',g',ho,hH',hE⟩
     cases x with
     |val v=>obtain ⟨u,rfl,hu⟩:=ho;exact hK v hp' g' u w' q ht' hu hH' hE
     |pan v=>obtain ⟨u,rfl,hu⟩:=ho;exact hP v hp' g' u w' q ht' hu hH' hE
    ·split at hs
     ·rename_i f args hres
      split at hs
      ·rename_i v hv
       exact step _ _ hs (.call c f args v hp hw hop hres ((hh F).val f args v hv hp))
      ·split at hs
       ·rename_i v hp' hv
        exact step _ _ hs (.call c f args v hp' hw hop hres ((hh F).mem f args hp v hp' hv))
       rw [Qdh hH.sig hw ht,if_pos rfl]
       obtain ⟨args',h1,h2⟩:=Q5d (P:=P) (w:=w) (type:=o.type) hρ hres
       have h1':(execOp a.eval o).run P w=.ok (.enter f args') w:=by
        obtain ⟨dst,op,type,pos,after,guard⟩:=o
        simp only at hop h1
        subst hop
        exact h1
       refine ⟨fun _ _=>trivial,?_⟩
       rw [Oper.semAt_eq _ _ _ hnd,h1']
       refine ⟨fun h=>(by cases h),Qx5 ((Q78 hcall hH h2 hs).mono ?_)⟩
       rintro e w' ⟨⟨x,hp'⟩,q,ht',g',ho,hH',hE⟩
       cases x with
       |val v=>obtain ⟨u,rfl,hu⟩:=ho;exact hK v hp' g' u w' q ht' hu hH' hE
       |pan v=>obtain ⟨u,rfl,hu⟩:=ho;exact hP v hp' g' u w' q ht' hu hH' hE
     ·split at hs
      ·rename_i v hp' hat
       rw [Qdh hH.sig hw ht,if_pos rfl]
       obtain ⟨u,w',e1,e0,e2,e3⟩:=Q7y (P:=P) (type:=o.type) hat (fun k b hk=>(hh F).atm k b hk) hH hρ
       have h1':(execOp a.eval o).run P w=.ok (.value u) w':=by
        obtain ⟨dst,op,type,pos,after,guard⟩:=o
        simp only at hop e1
        subst hop
        exact e1
       refine ⟨fun _ _=>trivial,?_⟩
       rw [Oper.semAt_eq _ _ _ hnd,h1']
       exact hK v hp' g u w' hs (Qxv hat) e0 e2 e3
      split at hs
      ·rename_i hov
       rw [Qdh hH.sig hw ht,if_pos rfl]
       obtain ⟨x,w',e1,e2,e3⟩:=Qbgf (P:=P) (type:=o.type) hov (fun f k hk=>(hh F).ovl f k hk) hH hρ
       have h1':(execOp a.eval o).run P w=.ok (.value (.bool x)) w':=by
        obtain ⟨dst,op,type,pos,after,guard⟩:=o
        simp only at hop e1
        subst hop
        exact e1
       refine ⟨fun _ _=>trivial,?_⟩
       rw [Oper.semAt_eq _ _ _ hnd,h1']
       refine hK (.bool x) hp g _ w' ?_ (Touch.refl _) (.bool x) e2 e3
       cases x with
       |true=>exact hs.1
       |false=>exact hs.2
      ·exact hs.elim
   ·split at hs
    ·rename_i v hp' ho
     exact step _ _ hs (Qv0 hw ho)
    ·split at hs
     ·rename_i x hpx
      split at hs
      ·rename_i v hv
       split at hs
       ·rename_i ty y
        have hu:=hρ.1 _ _ hv
        rw [Qdh hH.sig hw ht,if_pos rfl]
        have h1':(execOp a.eval o).run P w=.halt (.panic (a.eval x)) w:=by
         have hq: ∃q,a.eval x=.iface ty q:=by
          generalize a.eval x=u at hu
          cases hu with
          |iface _ _ q hq=>exact ⟨q,rfl⟩
         obtain ⟨q,hq⟩:=hq
         obtain ⟨dst,op,type,pos,after,guard⟩:=o
         simp only at hpx
         subst hpx
         simp [execOp,Instr.panic,goPanic,hq]
        refine ⟨fun _ _=>trivial,?_⟩
        rw [Oper.semAt_eq _ _ _ (by intro c';rw [hpx];intro h;cases h),h1']
        exact hP _ _ g _ w hs (Touch.refl _) hu hH (Ext.refl _ _ _)
       ·exact hs.elim
      ·exact hs.elim
     ·rename_i it s hnx
      split at hs
      ·split at hs
       ·rename_i q hq
        split at hs
        ·rename_i x l cur hb
         have hu:=hρ.1 _ _ hq
         rw [Qdh hH.sig hw ht,if_pos rfl]
         refine ⟨fun _ _=>trivial,?_⟩
         rw [Oper.semAt_eq _ _ _ (by intro c';rw [hnx];intro h;cases h)]
         have hex: ∀v w',(Instr.next (a.eval it) false o.type).run P w=.ok v w'->(execOp a.eval o).run P w=.ok (.value v) w':=by
          intro v w' h1
          obtain ⟨dst,op,type,pos,after,guard⟩:=o
          simp only at hnx
          subst hnx
          simp [execOp,h1]
         rcases Qbfs (P:=P) hH hb hu o.type with ⟨hl,hrun⟩|⟨j,p,v,w',hj,hrun,hv,h1,h2⟩
         ·subst hl
          rw [hex _ _ hrun]
          exact hK _ _ g _ w hs (Touch.refl _) (.tuple _ _ (.cons _ _ _ _ (.bool _) .nil)) hH (Ext.refl _ _ _)
         ·rw [hex _ _ hrun]
          have hl: ∃p0 l0,l=p0::l0:=by
           cases l with
           |nil=>simp at hj
           |cons p0 l0=>exact ⟨p0,l0,rfl⟩
          obtain ⟨p0,l0,rfl⟩:=hl
          have hq1:=Qz9 _ _ hs j p hj
          rw [Nat.zero_add] at hq1
          exact hK _ _ g v w' hq1 (Qd8 ⟨_,hb,by simp⟩ (fun la h=>by cases h)) hv h1 h2
        ·exact hs.elim
       ·exact hs.elim
      ·exact hs.elim
     ·exact again _ hs
end
inductive DfRel (g:Inj):List ADef->List Deferred->Prop
 |nil:DfRel g [] []
 |mark (b:Nat) (L:Loc) (l:List ADef) (m:List Deferred):g b=some L->DfRel g l m->DfRel g (.mark b::l) ({target:=.collected L.blk,args:= #[]}::m)
 |fn (fv:Fn) (cap args:List AVal) (cap' args':Array Value) (l:List ADef) (m:List Deferred):LRel g cap cap'.toList->LRel g args args'.toList->DfRel g l m->DfRel g (.fn fv cap args::l) ({target:=.fn fv cap',args:=args'}::m)
theorem DfRel.mono {g g':Inj} (hs:Sub g g'): ∀{l:List ADef} {m:List Deferred},DfRel g l m->DfRel g' l m
 |_,_,.nil=> .nil
 |_,_,.mark b L l m h k=> .mark b L l m (hs _ _ h) (DfRel.mono hs k)
 |_,_,.fn fv cap args cap' args' l m h1 h2 k=> .fn fv cap args cap' args' l m (h1.mono hs) (h2.mono hs) (DfRel.mono hs k)
def FRel (g:Inj) (t:Tm) (a:Act):Prop:=TRel g t a/\DfRel g t.df a.defers
theorem FRel.mono {g g':Inj} {t:Tm} {a:Act} (hs:Sub g g') (h:FRel g t a):FRel g' t a:=⟨h.1.mono hs,h.2.mono hs⟩
theorem Qe7 (a:Act) (d:Option Tmp) (u:Value):(a.put d u).tmps.size=a.tmps.size/\(a.put d u).defers=a.defers:=by cases d<;>simp [Act.put]
theorem Q42 (t:Tm) (d:Option Tmp) (v:AVal):(putA t d v).df=t.df:=by
 unfold putA
 split<;>rfl
theorem FRel.put {g:Inj} {t:Tm} {a:Act} (h:FRel g t a) (d:Option Tmp) {v:AVal} {u:Value} (hv:VRel g v u):FRel g (putA t d v) (a.put d u):=
 ⟨h.1.put d hv,by rw [Q42,(Qe7 a d u).2];exact h.2⟩
def Qbj (g:Inj):Ex->Exit->Prop
 |.normal,.normal=>True
 |.exit i,.exit j=>i=j
 |.ret,.ret=>True
 |.pan v,.panic ch=> ∃u,ch=[{v:=u,recovered:=false}]/\VRel g v u
 |_,_=>False
def Qp (ng:Cx) (hp:Hp) (g:Inj) (w:World) (a:Act) (x:Ex×Tm×Hp) (e:Exit) (a':Act) (w':World):Prop:=
 Touch hp x.2.2/\ ∃g',Qbj g' x.1 e/\HRel ng g' x.2.2.heap w'/\Ext g hp.heap w g' x.2.2.heap w'/\FRel g' x.2.1 a'/\a'.tmps.size=a.tmps.size
theorem Qp.trans {ng:Cx} {hp hp':Hp} {x:Ex×Tm×Hp} {g g':Inj} {w w':World} {a a':Act} {e:Exit} {a'':Act} {w'':World} (h0:HRel ng g hp.heap w) (ht:Touch hp hp') (hE:Ext g hp.heap w g' hp'.heap w')
  (hs:a'.tmps.size=a.tmps.size) (h:Qp ng hp' g' w' a' x e a'' w''):Qp ng hp g w a x e a'' w'':=by
 obtain ⟨h0',g'',h1,h2,h3,h4,h5⟩:=h
 exact ⟨ht.trans h0',g'',h1,h2,hE.trans h0 h3,h4,h5.trans hs⟩
theorem Qp.move {C:CxF} (hC:CtxOk C) {F F':List Fact} {hp:Hp} {x:Ex×Tm×Hp} {g:Inj} {w:World} {a:Act} {e:Exit} {a':Act} {w':World} (hF:Ql g.sig F) (h:Qp (C F') hp g w a x e a' w'):Qp (C F) hp g w a x e a' w':=by
 obtain ⟨h0,g',h1,h2,h3,h4,h5⟩:=h
 exact ⟨h0,g',h1,hC.move h2 (by rw [h3.sub.sig];exact hF),h3,h4,h5⟩
theorem Qnh {F:Fence} {n:Nat} {P:Program} {ops:Array Oper} {Q Q':Exit->Act->World->Prop} (hq: ∀e a w,Q e a w->Q' e a w): ∀(l:List Oper) (a:Act) (w:World),wpListIn F n P ops Q l a w->wpListIn F n P ops Q' l a w:=by
 intro l
 induction l with
 |nil=>intro a w h;exact hq _ _ _ h
 |cons o l ih=>
  intro a w h
  unfold wpListIn at h⊢
  split
  ·rename_i hw
   rw [if_pos hw] at h
   unfold Oper.wpIn at h⊢
   refine ⟨h.1,?_⟩
   have h:=h.2
   generalize (o.semAt F.round a.eval).run P w=r at h⊢
   cases r with
   |ok x w'=>
    cases x<;>simp only [Oper.uponIn] at h⊢ <;>first
     |exact ih _ _ h
     |exact ⟨h.1,CallsIn.mono h.2 (fun e w'' he=>by
       cases e with
       |returned v=>exact ih _ _ he
       |panicked ch=>exact hq _ _ _ he
       |outgrown=>obtain ⟨a1,w1,h1⟩:=he;exact ⟨a1,w1,hq _ _ _ h1⟩)⟩
     |exact ⟨h.1,RowsIn.mono h.2 (fun _ _ he=>ih _ _ he)⟩
     |exact ⟨h.1,RoundIn.mono h.2 (fun e w'' he=>by
       cases e with
       |returned v=>exact ih _ _ he
       |panicked ch=>exact hq _ _ _ he
       |outgrown=>obtain ⟨a1,w1,h1⟩:=he;exact ⟨a1,w1,hq _ _ _ h1⟩)⟩
   |halt x w'=>cases x<;>simp only [Oper.uponIn] at h⊢ <;>exact hq _ _ _ h
  ·rename_i hw
   rw [if_neg hw] at h
   exact ⟨h.1,ih _ _ h.2⟩
theorem Qql {P:Program} {C:CxF} {call:Q7} {round:Qbf} (hC:CtxOk C) (hh: ∀F,Hooks P (C F)) (hcall:Qhe P C call) (hround:Qnk P C round) {ops:Array Oper} {r:Option Nat} {inr:Bool} (hr:inr=false->r=none):
  ∀(rest:List Oper) (F:List Fact) (t:Tm) (hp:Hp) (Q:Ex×Tm×Hp->Prop) (g:Inj) (w:World) (a:Act),HRel (C F) g hp.heap w->FRel g t a->Sat g.sig Q (opsT P C call round inr ops.toList rest F t hp)->
  wpListIn (FR r) 0 P ops (fun e a' w'=> ∃x,Q x/\Qp (C F) hp g w a x e a' w') rest a w
 |[],F,t,hp,Q,g,w,a,hH,ht,hs=>⟨_,hs,Touch.refl _,g,trivial,hH,Ext.refl _ _ _,ht,rfl⟩
 |o::rest,F,t,hp,Q,g,w,a,hH,ht,hs=>by
  simp only [opsT] at hs
  split at hs
  case h_2=>
   rename_i c hdc
   have hop:o.op=.defer c:=by
    revert hdc;unfold Q0r;split
    ·rename_i c' h;intro e;cases e;exact h
    ·intro e;cases e
   split at hs
   ·exact hs.elim
   cases hr rfl
   split at hs
   ·rename_i d hd
    unfold Qym at hd
    split at hd
    ·cases hd
    ·rename_i hgd
     split at hd
     ·rename_i fo hc
      split at hd
      ·rename_i fn first cap l hf hl
       cases hd
       have hρ:ERel g (C F) t a.eval:=⟨fun x v hv=>ht.1.eval hH.sig hH.glob hv,hH.sig⟩
       have h1:=hρ.1 fo _ hf
       cases hh':a.eval fo<;>rw [hh'] at h1<;>cases h1
       rename_i first' cap' hfirst hcap
       refine wpListIn_step fun K hK=> ?_
       have hargs:LRel g (first++l) (first'++c.args.map a.eval).toList:=by
        simpa using hfirst.append (Qby hρ _ _ hl)
       have hex:(execOp a.eval o).run P w=.ok (.defer {target:=.fn fn cap',args:=first'++c.args.map a.eval}) w:=by
        obtain ⟨dst,op,type,pos,after,guard⟩:=o
        simp only at hop
        subst hop
        simp [execOp,resolve,hc,hh',Deferred.ofValue]
       have hw:Region.wanted o (yielded ops a.tmps)=true:=by simp [Region.wanted,hgd]
       rw [if_pos hw]
       refine ⟨fun _ _=>trivial,?_⟩
       rw [show (FR none).round=none from rfl,Oper.semAt_none,hex]
       refine hK _ _ ?_
       have hput:=(show FRel g ⟨t.len,t.tr,.fn fn cap (first++l)::t.df⟩ {a with defers:={target:=.fn fn cap',args:=first'++c.args.map a.eval}::a.defers} from ⟨⟨ht.1.1,ht.1.2⟩,.fn _ _ _ _ _ _ _ hcap hargs ht.2⟩).put o.dst (v:=Qb4) (u:=undef) (.tuple _ _ .nil)
       have hs':=hs
       have:=Qql hC hh hcall hround hr rest F _ hp Q g w _ hH hput hs'
       exact Qnh (fun e a'' w'' ⟨x,hx,h0,g',k1,k2,k3,k4,k5⟩=>⟨x,hx,h0,g',k1,k2,k3,k4,k5.trans (by rw [(Qe7 _ o.dst undef).1])⟩) rest _ _ this
      ·cases hd
     ·cases hd
   ·exact hs.elim
  have hs:=Qcc (hC.facts hH) hs
  refine wpListIn_step fun K hK=>Qsq hC hh hcall hround 12 F t hp _ g w a K _ hH ht.1 hs ?_ ?_
  ·rintro v hp' g' u w' ⟨F',hF',q⟩ ht' hv hH' hE
   refine hK _ _ ?_
   have hF0:Ql g'.sig F:=by rw [hE.sub.sig];exact hC.facts hH
   have:=Qql hC hh hcall hround hr rest F' (putA t o.dst v) hp' Q g' w' (a.put o.dst u) (hC.move hH' (by rw [hE.sub.sig];exact hF')) ((ht.mono hE.sub).put o.dst hv) (by rw [hE.sub.sig];exact q)
   exact Qnh (fun e a'' w'' ⟨x,hx,hq⟩=>⟨x,hx,(hq.move hC hF0).trans hH ht' hE (Qe7 a o.dst u).1⟩) rest _ _ this
  ·rintro v hp' g' u w' ⟨F',hF',q⟩ ht' hv hH' hE
   exact ⟨_,q,ht',g',⟨u,rfl,hv⟩,hH',hE,ht.mono hE.sub,rfl⟩
end Go.Ev
namespace Go.Ev
mutual
def eqV:AVal->AVal->Bool
 |.bool a,.bool b=>a==b
 |.int k a,.int k' b=>decide (k=k')&&a==b
 |.float k a,.float k' b=>decide (k=k')&&Nat.beq a b
 |.str a,.str b=>a.toList==b.toList
 |.nilptr,.nilptr=>true
 |.ptr b o,.ptr b' o'=>Nat.beq b b'&&Nat.beq o o'
 |.nilslice,.nilslice=>true
 |.slice b o l c e,.slice b' o' l' c' e'=>Nat.beq b b'&&(Nat.beq o o'&&(Nat.beq l l'&&(Nat.beq c c'&&decide (e=e'))))
 |.nilmap,.nilmap=>true
 |.map b,.map b'=>Nat.beq b b'
 |.nilfunc,.nilfunc=>true
 |.func f x y,.func f' x' y'=>decide (f=f')&&(eqVs x x'&&eqVs y y')
 |.niliface,.niliface=>true
 |.iface t v,.iface t' v'=>Nat.beq t t'&&eqV v v'
 |.agg l,.agg m=>eqVs l m
 |.tuple l,.tuple m=>eqVs l m
 |.symi k i,.symi k' j=>decide (k=k')&&Nat.beq i j
 |.symb i,.symb j=>Nat.beq i j
 |.syms i,.syms j=>Nat.beq i j
 |.row i,.row j=>Nat.beq i j
 |.crow i,.crow j=>Nat.beq i j
 |.rptr i x j,.rptr i' x' j'=>Nat.beq i i'&&(Nat.beq j j'&&eqV x x')
 |.yield b,.yield b'=>Nat.beq b b'
 |.lsl b z ap o n,.lsl b' z' ap' o' n'=>Nat.beq b b'&&(Nat.beq z z'&&(ap==ap'&&(eqV o o'&&eqV n n')))
 |.lptr b z x j,.lptr b' z' x' j'=>Nat.beq b b'&&(Nat.beq z z'&&(Nat.beq j j'&&eqV x x'))
 |_,_=>false
def eqVs:List AVal->List AVal->Bool
 |[],[]=>true
 |a::l,b::m=>eqV a b&&eqVs l m
 |_,_=>false
end
mutual
theorem Q9: ∀(a b:AVal),eqV a b=true->a=b
 |a,b,h=>by
  unfold eqV at h
  split at h<;>first
   |rfl
   |(cases h;done)
   |(rename_i x y;have:=eq_of_beq h;subst this;rfl)
   |(simp only [Bool.and_eq_true,decide_eq_true_eq,Nat.beq_eq,beq_iff_eq] at h;obtain ⟨h1,h2⟩:=h;subst h1;subst h2;rfl)
   |(rename_i x y;rw [toList_inj (eq_of_beq h)])
   |(rename_i x y;rw [Nat.eq_of_beq_eq_true h])
   |(rename_i x y;rw [Qdd _ _ h])
   |(simp only [Bool.and_eq_true,decide_eq_true_eq,Nat.beq_eq] at h;obtain ⟨h1,h2,h3,h4,h5⟩:=h;subst h1;subst h2;subst h3;subst h4;subst h5;rfl)
   |(simp only [Bool.and_eq_true,decide_eq_true_eq] at h;obtain ⟨h1,h2,h3⟩:=h;rw [h1,Qdd _ _ h2,Qdd _ _ h3])
   |(simp only [Bool.and_eq_true] at h;obtain ⟨h1,h2⟩:=h;rw [Nat.eq_of_beq_eq_true h1,Q9 _ _ h2])
   |(simp only [Bool.and_eq_true] at h;obtain ⟨h1,h2,h3⟩:=h;rw [Nat.eq_of_beq_eq_true h1,Nat.eq_of_beq_eq_true h2,Q9 _ _ h3])
   |(simp only [Bool.and_eq_true] at h;obtain ⟨h1,h2,h3,h4,h5⟩:=h;rw [Nat.eq_of_beq_eq_true h1,Nat.eq_of_beq_eq_true h2,eq_of_beq h3,Q9 _ _ h4,Q9 _ _ h5])
   |(simp only [Bool.and_eq_true] at h;obtain ⟨h1,h2,h3,h4⟩:=h;rw [Nat.eq_of_beq_eq_true h1,Nat.eq_of_beq_eq_true h2,Nat.eq_of_beq_eq_true h3,Q9 _ _ h4])
theorem Qdd: ∀(l m:List AVal),eqVs l m=true->l=m
 |[],[],_=>rfl
 |a::l,b::m,h=>by
  simp only [eqVs,Bool.and_eq_true] at h
  rw [Q9 a b h.1,Qdd l m h.2]
 |[],_::_,h=>by simp [eqVs] at h
 |_::_,[],h=>by simp [eqVs] at h
end
def eqDf:List ADef->List ADef->Bool
 |[],[]=>true
 |.mark b::l,.mark b'::m=>Nat.beq b b'&&eqDf l m
 |.fn f x y::l,.fn f' x' y'::m=>decide (f=f')&&(eqVs x x'&&(eqVs y y'&&eqDf l m))
 |_,_=>false
theorem Qoe: ∀{l m:List ADef},eqDf l m=true->l=m
 |[],[],_=>rfl
 |.mark b::l,.mark b'::m,h=>by
  simp only [eqDf,Bool.and_eq_true] at h
  rw [Nat.eq_of_beq_eq_true h.1,Qoe h.2]
 |.fn f x y::l,.fn f' x' y'::m,h=>by
  simp only [eqDf,Bool.and_eq_true,decide_eq_true_eq] at h
  rw [h.1,Qdd _ _ h.2.1,Qdd _ _ h.2.2.1,Qoe h.2.2.2]
 |[],_::_,h=>by simp [eqDf] at h
 |.mark _::_,[],h=>by simp [eqDf] at h
 |.fn _ _ _::_,[],h=>by simp [eqDf] at h
 |.mark _::_,.fn _ _ _::_,h=>by simp [eqDf] at h
 |.fn _ _ _::_,.mark _::_,h=>by simp [eqDf] at h
def eqM:List (AVal×AVal)->List (AVal×AVal)->Bool
 |[],[]=>true
 |a::l,b::m=>eqV a.1 b.1&&(eqV a.2 b.2&&eqM l m)
 |_,_=>false
theorem Qi1: ∀{l m:List (AVal×AVal)},eqM l m=true->l=m
 |[],[],_=>rfl
 |(a,a')::l,(b,b')::m,h=>by
  simp only [eqM,Bool.and_eq_true] at h
  rw [Q9 _ _ h.1,Q9 _ _ h.2.1,Qi1 h.2.2]
 |[],_::_,h=>by simp [eqM] at h
 |_::_,[],h=>by simp [eqM] at h
theorem Qzh {c c':Option (AVal×AVal)} (h:eqM c.toList c'.toList=true):c=c':=by
 have:=Qi1 h
 cases c<;>cases c'<;>simp at this<;>first|rfl|rw [this]
theorem Qna {p l:List Nat}:(p++l).take ((p++l).length-l.length)=p:=by
 rw [List.length_append,Nat.add_sub_cancel]
 simp
def Qod:Blk->Blk->Bool
 |.cells c e,.cells c' e'=>Nat.beq e e'&&eqVs c c'
 |.map l,.map m=>eqM l m
 |.gone,.gone=>true
 |.dfr,.dfr=>true
 |.iter x l c,.iter x' l' c'=>Nat.beq x x'&&(eqM l l'&&eqM c.toList c'.toList)
 |.lst s n cl e,.lst s' n' cl' e'=>Nat.beq e e'&&(decide (cl=cl')&&(eqV s s'&&eqV n n'))
 |_,_=>false
theorem Qzf {a b:Blk} (h:Qod a b=true):a=b:=by
 unfold Qod at h
 split at h
 ·simp only [Bool.and_eq_true] at h
  rw [Nat.eq_of_beq_eq_true h.1,Qdd _ _ h.2]
 ·rw [Qi1 h]
 ·rfl
 ·rfl
 ·simp only [Bool.and_eq_true] at h
  rw [Nat.eq_of_beq_eq_true h.1,Qi1 h.2.1,Qzh h.2.2]
 ·simp only [Bool.and_eq_true,decide_eq_true_eq] at h
  rw [Nat.eq_of_beq_eq_true h.1,h.2.1,Q9 _ _ h.2.2.1,Q9 _ _ h.2.2.2]
 ·cases h
def eqAl:List (Nat×AVal)->List (Nat×AVal)->Bool
 |[],[]=>true
 |x::l,y::m=>Nat.beq x.1 y.1&&(eqV x.2 y.2&&eqAl l m)
 |_,_=>false
theorem Qze: ∀{l m:List (Nat×AVal)},eqAl l m=true->l=m
 |[],[],_=>rfl
 |(a,x)::l,(b,y)::m,h=>by
  simp only [eqAl,Bool.and_eq_true] at h
  rw [Nat.eq_of_beq_eq_true h.1,Q9 _ _ h.2.1,Qze h.2.2]
 |[],_::_,h=>by simp [eqAl] at h
 |_::_,[],h=>by simp [eqAl] at h
def eqOV:Option AVal->Option AVal->Bool
 |none,none=>true
 |some a,some b=>eqV a b
 |_,_=>false
theorem Q9p {a b:Option AVal} (h:eqOV a b=true):a=b:=by
 unfold eqOV at h
 split at h
 ·rfl
 ·rw [Q9 _ _ h]
 ·cases h
def eqTT:TT->TT->Bool
 |.e,.e=>true
 |.n l v r,.n l' v' r'=>eqOV v v'&&(eqTT l l'&&eqTT r r')
 |.al l,.al m=>eqAl l m
 |_,_=>false
theorem Qs9: ∀{a b:TT},eqTT a b=true->a=b
 |.e,.e,_=>rfl
 |.n l v r,.n l' v' r',h=>by
  simp only [eqTT,Bool.and_eq_true] at h
  rw [Q9p h.1,Qs9 h.2.1,Qs9 h.2.2]
 |.al l,.al m,h=>by simp only [eqTT] at h;rw [Qze h]
 |.e,.n _ _ _,h=>by simp [eqTT] at h
 |.e,.al _,h=>by simp [eqTT] at h
 |.n _ _ _,.e,h=>by simp [eqTT] at h
 |.n _ _ _,.al _,h=>by simp [eqTT] at h
 |.al _,.e,h=>by simp [eqTT] at h
 |.al _,.n _ _ _,h=>by simp [eqTT] at h
def eqTm (a b:Tm):Bool:=Nat.beq a.len b.len&&(eqDf a.df b.df&&eqTT a.tr b.tr)
theorem Q9q {a b:Tm} (h:eqTm a b=true):a=b:=by
 simp only [eqTm,Bool.and_eq_true] at h
 have h1:=Nat.eq_of_beq_eq_true h.1
 have h2:=Qoe h.2.1
 have h3:=Qs9 h.2.2
 cases a;cases b
 simp only at h1 h2 h3
 rw [h1,h2,h3]
def eqOB:Option Blk->Option Blk->Bool
 |none,none=>true
 |some a,some b=>Qod a b
 |_,_=>false
theorem Q9o {a b:Option Blk} (h:eqOB a b=true):a=b:=by
 unfold eqOB at h
 split at h
 ·rfl
 ·rw [Qzf h]
 ·cases h
def Qmj (h0 h:Hp):List Nat:=h.log.take (h.log.length-h0.log.length)
def eqBs:List Blk->List Blk->Bool
 |[],[]=>true
 |a::l,b::m=>Qod a b&&eqBs l m
 |_,_=>false
theorem Qzg: ∀{l m:List Blk},eqBs l m=true->l=m
 |[],[],_=>rfl
 |a::l,b::m,h=>by
  simp only [eqBs,Bool.and_eq_true] at h
  rw [Qzf h.1,Qzg h.2]
 |[],_::_,h=>by simp [eqBs] at h
 |_::_,[],h=>by simp [eqBs] at h
def Qof (h0:Hp) (x y:Tm×Hp):Bool:=
 eqTm x.1 y.1&&(eqBs (x.2.heap.drop h0.heap.length) (y.2.heap.drop h0.heap.length)&&((Qmj h0 x.2++Qmj h0 y.2).all fun i=>eqOB x.2.heap[i]? y.2.heap[i]?))
theorem Q9m {h0:Hp} {x y:Tm×Hp} (h:Qof h0 x y=true) (tx:Touch h0 x.2) (ty:Touch h0 y.2):x.1=y.1/\x.2.heap=y.2.heap:=by
 simp only [Qof,Bool.and_eq_true,List.all_eq_true] at h
 refine ⟨Q9q h.1,List.ext_getElem? fun i=> ?_⟩
 obtain ⟨px,ex,fx⟩:=tx.log
 obtain ⟨py,ey,fy⟩:=ty.log
 rcases Nat.lt_or_ge i h0.heap.length with hi|hi
 ·by_cases hm:i∈Qmj h0 x.2++Qmj h0 y.2
  ·exact Q9o (h.2.2 i hm)
  ·unfold Qmj at hm
   rw [ex,ey,Qna,Qna] at hm
   simp only [List.mem_append,not_or] at hm
   rw [fx i hi hm.1,fy i hi hm.2]
 ·have:=congrArg (fun l=>l[i-h0.heap.length]?) (Qzg h.2.1)
  simp only [List.getElem?_drop] at this
  rwa [show h0.heap.length+(i-h0.heap.length)=i by omega] at this
def Qjr (t:Tm):List Tmp->List (Nat×AVal)
 |[]=>[]
 |d::ds=>match t.get d with
  |some v=>(d,v)::Qjr t ds
  |none=>Qjr t ds
def only (t:Tm) (ds:List Tmp):Tm:=⟨t.len,.al (Qjr t ds),[]⟩
def Qf3 (acc:List Nat) (o:Oper):Nat:=
 o.after.toList.foldl (fun s e=>if Region.binds .any e then s|||2^e.on|||(acc[e.on]?).getD 0 else s) 0
def Qce (acc:List Nat):List Oper->List Nat
 |[]=>acc
 |o::l=>Qce (acc++[Qf3 acc o]) l
def ancB (ms:List Nat) (i j:Nat):Bool:=((ms[i]?).getD 0).testBit j
def Qhj:Nat->List Oper->Bool
 |_,[]=>true
 |i,o::l=>(o.after.toList.all fun e=> !Region.binds .any e||decide (e.on<i))&&Qhj (i+1) l
def Qiw:List Oper->Bool
 |[]=>true
 |o::l=>(match o.dst with
  |none=>true
  |some d=>l.all fun q=>q.dst !=some d)&&Qiw l
def Qv8 (ops:Array Oper) (ms:List Nat) (all:List (Oper×Nat)):Bool:=
 all.all fun x=>(x.1.looksAt ops).all fun d=>all.all fun y=>(y.1.dst !=some d)||(y.2==x.2)||ancB ms x.2 y.2||ancB ms y.2 x.2
def Qoy:DK->Bool
 |.eff _=>true
 |_=>false
def Qsw (ms:List Nat) (ks:List (DK×Nat)):Bool:=
 ks.all fun x=> !Qoy x.1||ks.all fun y=> !Qoy y.1|| !decide (x.2<y.2)||ancB ms y.2 x.2
def Qmc (ms:List Nat) (ks:List (DK×Nat)):Bool:=
 ks.all fun x=>match x.1 with
  |.load (some b)=>ks.all fun y=>match y.1 with
   |.eff pre=>ancB ms x.2 y.2||ancB ms y.2 x.2|| !pre.contains b
   |.mk z=> !Nat.beq z b
   |_=>true
  |_=>true
def Qtq (ms:List Nat) (ks:List (DK×Nat)):Bool:=
 ks.all fun x=>match x.1 with
  |.ins z d k _=>(ks.any fun y=>match y.1 with
    |.mk z'=>Nat.beq z' z&&ancB ms x.2 y.2
    |_=>false)&&ks.all fun y=>match y.1 with
    |.ins z' _ k' _=> !Nat.beq z' z||Nat.beq x.2 y.2||((keyA d k').isSome&& !Qf9 k' k)
    |_=>true
  |_=>true
def Qcl (ms:List Nat) (i:Nat):Nat->List DK->List Nat
 |_,[]=>[]
 |j,k::l=>match k with
  |.fresh x _ _=>if ancB ms i j then Qcl ms i (j+1) l else x::Qcl ms i (j+1) l
  |.mk x=>x::Qcl ms i (j+1) l
  |_=>Qcl ms i (j+1) l
def Qeg:List Nat->List Blk->List Blk
 |[],H=>H
 |x::ids,H=>Qeg ids (H.set x .gone)
def Qe8 (old:List Blk):List Nat->List Blk->List Blk
 |[],H=>H
 |x::ids,H=>Qe8 old ids (match old[x]? with
  |some k=>H.set x k
  |none=>H)
inductive Res (α:Type) where
 |ok (a:α)
 |ask (x:Ask)
 |no
def resO {α:Type} (o:Option α) (x:Option Ask):Res α:=
 match o with
 |some a=> .ok a
 |none=>match x with
  |some x=> .ask x
  |none=> .no
theorem Qmw {α:Type} {o:Option α} {x:Option Ask} {a:α} (h:resO o x=.ok a):o=some a:=by
 unfold resO at h
 split at h
 ·cases h;rfl
 ·split at h<;>cases h
structure Hq where
 hp:Hp
structure DS where
 t:Tm
 s:Hq
 nx:Nat
 kds:List DK
def isMk (x:Nat):List DK->Bool
 |[]=>false
 |.mk y::l=>Nat.beq y x||isMk x l
 |_::l=>isMk x l
def Qvj (P:Program) (ng:Cx) (t:Tm) (kds:List DK):Op->Option (Option (Nat×TypeDesc×AVal×AVal))
 |.makeMap _ none=>some none
 |.insert ty m k v=>match ev ng t m with
  |some (.map x)=>match isMk x kds with
   |true=>match P.underlying ty with
    |some (.map kt _)=>match P.underlying kt with
     |some d=>match ev ng t k,ev ng t v with
      |some kv,some vv=>match keyA d kv with
       |some _=>some (some (x,d,kv,vv))
       |none=>none
      |_,_=>none
     |none=>none
    |_=>none
   |false=>none
  |_=>none
 |_=>none
abbrev Qdb:=FuncId->List AVal->Hp->Res (AVal×Hp)
def Qk1 (P:Program) (ng:Cx) (call:Qdb) (ops:Array Oper) (ms:List Nat) (r1:Nat) (i:Nat) (o:Oper) (d:DS):Res DS:=
  match Qbs ng ops.toList (only d.t (o.looksAt ops)) o with
  |none=>match askW ng ops.toList d.t o with
    |some x=> .ask x
    |none=> .no
  |some false=> .ok ⟨putA d.t o.dst Qb4,d.s,d.nx,d.kds++[.lite]⟩
  |some true=>match Qhp o.op with
    |some c=>match Qjy P ng (only d.t (o.looksAt ops)) c with
      |some (f,args)=>match call f args ⟨Qeg (Qcl ms i 0 d.kds) d.s.hp.heap,[]⟩ with
        |.ok (v,h')=> .ok ⟨putA d.t o.dst v,⟨⟨Qe8 d.s.hp.heap (Qcl ms i 0 d.kds) h'.heap,h'.log++d.s.hp.log⟩⟩,d.nx,d.kds++[.eff h'.log]⟩
        |.ask x=> .ask x
        |.no=> .no
      |none=> .no
    |none=>match Qvj P ng (only d.t (o.looksAt ops)) d.kds o.op with
     |some none=>match Nat.blt d.nx r1 with
        |true=> .ok ⟨putA d.t o.dst (.map d.nx),⟨⟨d.s.hp.heap.set d.nx (.map []),d.s.hp.log⟩⟩,d.nx+1,d.kds++[.mk d.nx]⟩
        |false=> .no
     |some (some (x,dd,k,v))=>match d.s.hp.heap[x]? with
        |some (.map l)=> .ok ⟨putA d.t o.dst Qb4,⟨⟨d.s.hp.heap.set x (.map (l++[(k,v)])),d.s.hp.log⟩⟩,d.nx,d.kds++[.ins x dd k v]⟩
        |_=> .no
     |none=>match Qo6 P o.op with
      |.pure=>match resO (Qe6 P ng (only d.t (o.looksAt ops)) o.op) (askA P ng d.t o.op d.s.hp.heap) with
        |.ok v=> .ok ⟨putA d.t o.dst v,d.s,d.nx,d.kds++[.lite]⟩
        |.ask x=> .ask x
        |.no=> .no
      |.load=>match resO (Qcf P ng (only d.t (o.looksAt ops)) o.op d.s.hp.heap) (askA P ng d.t o.op d.s.hp.heap) with
        |.ok (v,b)=> .ok ⟨putA d.t o.dst v,d.s,d.nx,d.kds++[.load b]⟩
        |.ask x=> .ask x
        |.no=> .no
      |.fresh=>match resO (Qfr P ng (only d.t (o.looksAt ops)) o.op) (askA P ng d.t o.op d.s.hp.heap) with
        |.ok (c,e,m)=>match Nat.blt d.nx r1 with
          |true=> .ok ⟨putA d.t o.dst (m.val d.nx),⟨⟨d.s.hp.heap.set d.nx (.cells c e),d.s.hp.log⟩⟩,d.nx+1,d.kds++[.fresh d.nx c e]⟩
          |false=> .no
        |.ask x=> .ask x
        |.no=> .no
      |.eff=>match resO (effA P ng (only d.t (o.looksAt ops)) o.op ⟨Qeg (Qcl ms i 0 d.kds) d.s.hp.heap,[]⟩) (askA P ng d.t o.op d.s.hp.heap) with
        |.ok (v,h')=> .ok ⟨putA d.t o.dst v,⟨⟨Qe8 d.s.hp.heap (Qcl ms i 0 d.kds) h'.heap,h'.log++d.s.hp.log⟩⟩,d.nx,d.kds++[.eff h'.log]⟩
        |.ask x=> .ask x
        |.no=> .no
def dops (P:Program) (ng:Cx) (call:Qdb) (ops:Array Oper) (ms:List Nat) (r1:Nat):Nat->List Oper->DS->Res DS
 |_,[],d=> .ok d
 |i,o::l,d=>match Qk1 P ng call ops ms r1 i o d with
  |.ok d'=>dops P ng call ops ms r1 (i+1) l d'
  |.ask x=> .ask x
  |.no=> .no
def Qhz (P:Program):List Oper->Nat
 |[]=>0
 |o::l=>match Qhp o.op with
  |some _=>Qhz P l
  |none=>match o.op with
   |.makeMap _ none=>Qhz P l+1
   |_=>match Qo6 P o.op with
    |.fresh=>Qhz P l+1
    |_=>Qhz P l
def Qrd (ops:Array Oper) (ms:List Nat):Bool:=Qhj 0 ops.toList&&Qiw ops.toList&&Qv8 ops ms ops.toList.zipIdx
def Qgo (P:Program) (ng:Cx) (call:Qdb) (ops:Array Oper) (t:Tm) (s:Hp):Res (Tm×Hp):=
 match Qrd ops (Qce [] ops.toList) with
 |true=>match dops P ng call ops (Qce [] ops.toList) (s.heap.length+Qhz P ops.toList) 0 ops.toList ⟨t,⟨⟨s.heap++List.replicate (Qhz P ops.toList) .gone,s.log⟩⟩,s.heap.length,[]⟩ with
  |.ok d=>match Qsw (Qce [] ops.toList) d.kds.zipIdx&&(Qmc (Qce [] ops.toList) d.kds.zipIdx&&Qtq (Qce [] ops.toList) d.kds.zipIdx) with
   |true=> .ok (d.t,d.s.hp)
   |false=> .no
  |.ask x=> .ask x
  |.no=> .no
 |false=> .no
def Q8m (m:Nat) (o:Oper):Bool:=(List.range m).all fun j=>o.after.toList.any fun e=>Region.binds .any e&&Nat.beq e.on j
def Qks:Nat->List Oper->Bool
 |_,[]=>true
 |k,o::l=>(o.after.toList.any fun e=>Region.binds .any e&&Nat.beq e.on k)&&Qks (k+1) l
def Qoq (m:Nat) (l:List Oper):Bool:=l.all fun o=>match o.guard with
 |none=>true
 |some (j,_)=>Nat.blt j m
def Qbat (o:Oper):Bool:=
 match o.op with
 |.makeMap _ none=>true
 |_=>false
def Qzv:Nat->List Oper->Bool->Option Nat
 |_,[],_=>none
 |i,o::l,seen=>match seen&&(Nat.ble i o.after.size&&Q8m i o) with
  |true=>some i
  |false=>Qzv (i+1) l (seen||Qbat o)
def Qn0 (ops:Array Oper) (m:Nat):Bool:=(List.range m).all fun j=>ancB (Qce [] ops.toList) m j
def Qm5 (ops:Array Oper) (m:Nat):Bool:=
 Qhj 0 ops.toList&&(Qoq m (ops.toList.take m)&&match ops.toList.drop m with
  |[]=>false
  |_::l=>Qn0 ops m&&Qks m l)
def seqS (P:Program) (ng:Cx) (call:Qdb) (all:List Oper):List Oper->Tm->Hp->Res (Tm×Hp)
 |[],t,hp=> .ok (t,hp)
 |o::l,t,hp=>match Qbs ng all t o with
  |none=>match askW ng all t o with
   |some x=> .ask x
   |none=> .no
  |some false=>seqS P ng call all l (putA t o.dst Qb4) hp
  |some true=>match Qhp o.op with
   |some c=>match Qjy P ng t c with
    |some (f,args)=>match call f args hp with
     |.ok (v,h')=>seqS P ng call all l (putA t o.dst v) h'
     |.ask x=> .ask x
     |.no=> .no
    |none=> .no
   |none=>match resO (opA P ng t o.op hp) (askA P ng t o.op hp.heap) with
    |.ok (v,h')=>seqS P ng call all l (putA t o.dst v) h'
    |.ask x=> .ask x
    |.no=> .no
def Qh5 (ops:List Oper) (mask:Nat):List Nat:=
 (List.range ops.length).filter fun i=> !mask.testBit i&&(match ops[i]? with
  |some o=>o.after.toList.all fun e=> !Region.binds .any e||mask.testBit e.on
  |none=>false)
def oneS (P:Program) (ng:Cx) (call:Qdb) (all:List Oper) (i:Nat) (t:Tm) (hp:Hp):Res (Tm×Hp):=
 match all[i]? with
 |some o=>seqS P ng call all [o] t hp
 |none=> .no
def Qmr (h0:Hp) (go:Nat->Res (Tm×Hp)) (x:Tm×Hp):List Nat->Res (Tm×Hp)
 |[]=> .ok x
 |j::l=>match go j with
  |.ok y=>match Qof h0 x y with
   |true=>Qmr h0 go x l
   |false=> .no
  |.ask q=> .ask q
  |.no=> .no
def allS (P:Program) (ng:Cx) (call:Qdb) (ops:List Oper):Nat->Nat->Tm->Hp->Res (Tm×Hp)
 |0,mask,t,hp=>match Qh5 ops mask with
  |[]=> .ok (t,hp)
  |_::_=> .no
 |r+1,mask,t,hp=>match Qh5 ops mask with
  |[]=> .ok (t,hp)
  |i::is=>match oneS P ng call ops i t hp with
   |.ok (t1,h1)=>match allS P ng call ops r (mask|||2^i) t1 h1 with
    |.ok x=>Qmr hp (fun j=>match oneS P ng call ops j t hp with
     |.ok (t2,h2)=>allS P ng call ops r (mask|||2^j) t2 h2
     |.ask q=> .ask q
     |.no=> .no) x is
    |.ask q=> .ask q
    |.no=> .no
   |.ask q=> .ask q
   |.no=> .no
def Qxz (m:Nat) (l:List Oper):Bool:=l.all fun o=>o.after.toList.any fun e=>Region.binds .any e&&Nat.ble m e.on
def Qsn (ops:Array Oper) (m:Nat):Bool:=
 Qhj 0 ops.toList&&(Qoq m (ops.toList.take m)&&match ops.toList.drop m with
  |[]=>false
  |_::l=>Qn0 ops m&&Qxz m l)
def Qsu (P:Program) (ng:Cx) (call:Qdb) (ops:Array Oper) (m:Nat) (t:Tm) (s:Hp):Res (Tm×Hp):=
 match Qsn ops m with
 |true=>match Qgo P ng call (ops.toList.take m).toArray t s with
  |.ok (t1,s1)=>allS P ng call ops.toList (ops.size-m) (2^m-1) t1 s1
  |.ask x=> .ask x
  |.no=> .no
 |false=> .no
def Qkz (P:Program) (ng:Cx) (call:Qdb) (ops:Array Oper) (t:Tm) (s:Hp):Nat->Res (Tm×Hp)
 |0=> .no
 |m+1=>match Qsu P ng call ops m t s with
  |.no=>Qkz P ng call ops t s m
  |r=>r
def Qn5 (P:Program) (ng:Cx) (call:Qdb) (ops:Array Oper) (m:Nat) (t:Tm) (s:Hp):Res (Tm×Hp):=
 match Qm5 ops m with
 |true=>match Qgo P ng call (ops.toList.take m).toArray t s with
  |.ok (t1,s1)=>seqS P ng call ops.toList (ops.toList.drop m) t1 s1
  |.ask x=> .ask x
  |.no=> .no
 |false=>Qgo P ng call ops t s
def Qtx (ops:Array Oper):Nat->Nat->Option Nat
 |0,_=>none
 |n+1,m=>match Qm5 ops m with
  |true=>some m
  |false=>Qtx ops n (m+1)
def Qst (P:Program) (ng:Cx) (call:Qdb) (ops:Array Oper) (t:Tm) (s:Hp):Res (Tm×Hp):=
 match Qzv 0 ops.toList false with
 |none=>match Qgo P ng call ops t s with
  |.no=>match Qtx ops ops.size 1 with
   |some m=>match Qn5 P ng call ops m t s with
    |.no=>Qkz P ng call ops t s ops.size
    |r=>r
   |none=>Qkz P ng call ops t s ops.size
  |r=>r
 |some m=>Qn5 P ng call ops m t s
theorem Qvz (t:Tm): ∀(ds:List Tmp) (d:Nat) (v:AVal),Qfi (Qjr t ds) d=some v->t.get d=some v/\d∈ds
 |[],_,_,h=>by simp [Qjr,Qfi] at h
 |x::ds,d,v,h=>by
  simp only [Qjr] at h
  split at h
  ·rename_i u hu
   simp only [Qfi] at h
   split at h
   ·rename_i hb
    cases h
    have:=Nat.eq_of_beq_eq_true hb
    subst this
    exact ⟨hu,by simp⟩
   ·obtain ⟨h1,h2⟩:=Qvz t ds d v h
    exact ⟨h1,List.mem_cons_of_mem _ h2⟩
  ·obtain ⟨h1,h2⟩:=Qvz t ds d v h
   exact ⟨h1,List.mem_cons_of_mem _ h2⟩
theorem Q4g {t:Tm} {ds:List Tmp} {d:Nat} {v:AVal} (h:(only t ds).get d=some v):t.get d=some v/\d∈ds:=Qvz t ds d v (Tm.get_tr h)
theorem Qnp: ∀(l:List Oper) (acc:List Nat),∃r,Qce acc l=acc++r/\r.length=l.length
 |[],acc=>⟨[],by simp [Qce]⟩
 |o::l,acc=>by
  obtain ⟨r,h1,h2⟩:=Qnp l (acc++[Qf3 acc o])
  exact ⟨Qf3 acc o::r,by simp [Qce,h1],by simp [h2]⟩
theorem Qr4: ∀(l:List Oper) (acc:List Nat) (i:Nat) (o:Oper),l[i]? =some o->(Qce acc l)[acc.length+i]? =some (Qf3 ((Qce acc l).take (acc.length+i)) o)
 |[],_,_,_,h=>by simp at h
 |q::l,acc,0,o,h=>by
  simp at h;subst h
  simp only [Qce]
  obtain ⟨r,h1,_⟩:=Qnp l (acc++[Qf3 acc q])
  rw [h1];simp
 |q::l,acc,i+1,o,h=>by
  have:=Qr4 l (acc++[Qf3 acc q]) i o (by simpa using h)
  simp only [Qce]
  rw [show acc.length+(i+1)=(acc++[Qf3 acc q]).length+i by simp;omega]
  exact this
theorem Q3i (acc:List Nat) (o:Oper) (j:Nat) (h:(Qf3 acc o).testBit j=true): ∃e,e∈o.after/\Region.binds .any e=true/\(e.on=j\/((acc[e.on]?).getD 0).testBit j=true):=by
 unfold Qf3 at h
 have key: ∀(l:List Edge) (s:Nat),(l.foldl (fun s e=>if Region.binds .any e then s|||2^e.on|||(acc[e.on]?).getD 0 else s) s).testBit j=true->
   s.testBit j=true\/ ∃e,e∈l/\Region.binds .any e=true/\(e.on=j\/((acc[e.on]?).getD 0).testBit j=true):=by
  intro l
  induction l with
  |nil=>intro s h;exact .inl h
  |cons e l ih=>
   intro s h
   simp only [List.foldl_cons] at h
   rcases ih _ h with h|⟨e',h1,h2,h3⟩
   ·split at h
    ·rename_i hb
     simp only [Nat.testBit_or,Bool.or_eq_true,Nat.testBit_two_pow,decide_eq_true_eq] at h
     rcases h with (h|h)|h
     ·exact .inl h
     ·exact .inr ⟨e,by simp,hb,.inl h⟩
     ·exact .inr ⟨e,by simp,hb,.inr h⟩
    ·exact .inl h
   ·exact .inr ⟨e',by simp [h1],h2,h3⟩
 rcases key _ _ h with h|⟨e,h1,h2,h3⟩
 ·simp at h
 ·exact ⟨e,by simpa using h1,h2,h3⟩
theorem Qk2: ∀(l:List Oper) (k:Nat),Qhj k l=true-> ∀(i:Nat) (o:Oper),l[i]? =some o-> ∀e,e∈o.after->Region.binds .any e=true->e.on<k+i
 |[],_,_,i,o,h=>by simp at h
 |q::l,k,hk,0,o,h=>by
  simp at h;subst h
  intro e he hb
  simp only [Qhj,Bool.and_eq_true,List.all_eq_true] at hk
  have:=hk.1 e (by simpa using he)
  simpa [hb] using this
 |q::l,k,hk,i+1,o,h=>by
  simp only [Qhj,Bool.and_eq_true] at hk
  intro e he hb
  have:=Qk2 l (k+1) hk.2 i o (by simpa using h) e he hb
  omega
theorem Qsv: ∀(l:List Oper),Qiw l=true-> ∀(i j:Nat) (x y:Oper) (d:Nat),l[i]? =some x->l[j]? =some y->x.dst=some d->y.dst=some d->i=j
 |[],_,i,_,_,_,_,h=>by simp at h
 |q::l,hk,0,0,_,_,_,_=>by intros;rfl
 |q::l,hk,0,j+1,x,y,d,hx=>by
  intro hy hxd hyd
  simp at hx;subst hx
  simp only [Qiw,hxd,Bool.and_eq_true,List.all_eq_true] at hk
  have:=hk.1 y (List.mem_of_getElem? (by simpa using hy))
  simp [hyd] at this
 |q::l,hk,i+1,0,x,y,d,hx=>by
  intro hy hxd hyd
  simp at hy;subst hy
  simp only [Qiw,hyd,Bool.and_eq_true,List.all_eq_true] at hk
  have:=hk.1 x (List.mem_of_getElem? (by simpa using hx))
  simp [hxd] at this
 |q::l,hk,i+1,j+1,x,y,d,hx=>by
  intro hy hxd hyd
  simp only [Qiw,Bool.and_eq_true] at hk
  have:=Qsv l hk.2 i j x y d (by simpa using hx) (by simpa using hy) hxd hyd
  omega
theorem Qe3 {α:Type} {l:List α} {i:Nat} {a:α} (h:l[i]? =some a):(a,i)∈l.zipIdx:=by
 rw [List.mem_zipIdx_iff_getElem?];exact h
theorem Qv9 {ops:Array Oper} {ms:List Nat} (h:Qv8 ops ms ops.toList.zipIdx=true) (i j:Nat) (x y:Oper) (d:Nat) (hx:ops[i]? =some x) (hy:ops[j]? =some y) (hd:d∈x.looksAt ops) (hyd:y.dst=some d) (hji:j≠i):
  ancB ms i j=true\/ancB ms j i=true:=by
 unfold Qv8 at h
 simp only [List.all_eq_true] at h
 have:=h (x,i) (Qe3 (by simpa using hx)) d hd (y,j) (Qe3 (by simpa using hy))
 simpa [hyd,hji] using this
theorem Q86 {ms:List Nat} {ks:List DK} (h:Qsw ms ks.zipIdx=true) (i j:Nat) (p q:List Nat) (hij:i<j) (hi:ks[i]? =some (.eff p)) (hj:ks[j]? =some (.eff q)):ancB ms j i=true:=by
 unfold Qsw at h
 simp only [List.all_eq_true] at h
 have h1:=h (.eff p,i) (Qe3 hi)
 simp only [Qoy,Bool.not_true,Bool.false_or,List.all_eq_true] at h1
 have h2:=h1 (.eff q,j) (Qe3 hj)
 simpa [Qoy,hij] using h2
theorem Qbe6 {ms:List Nat} {ks:List DK} (h:Qmc ms ks.zipIdx=true) (i j b:Nat) (pre:List Nat) (hi:ks[i]? =some (.load (some b))) (hj:ks[j]? =some (.eff pre)) (h1: ¬ancB ms i j=true) (h2: ¬ancB ms j i=true):b∉pre:=by
 unfold Qmc at h
 simp only [List.all_eq_true] at h
 have h3:=h (.load (some b),i) (Qe3 hi)
 simp only [List.all_eq_true] at h3
 have h4:=h3 (.eff pre,j) (Qe3 hj)
 simpa [h1,h2] using h4
theorem Qbe5 {ms:List Nat} {ks:List DK} (h:Qmc ms ks.zipIdx=true) (i j b:Nat) (hi:ks[i]? =some (.load (some b))) (hj:ks[j]? =some (.mk b)):False:=by
 unfold Qmc at h
 simp only [List.all_eq_true] at h
 have h3:=h (.load (some b),i) (Qe3 hi)
 simp only [List.all_eq_true] at h3
 have h4:=h3 (.mk b,j) (Qe3 hj)
 simp at h4
theorem Q0k {ms:List Nat} {ks:List DK} (h:Qtq ms ks.zipIdx=true) (i z:Nat) (d:TypeDesc) (k v:AVal) (hi:ks[i]? =some (.ins z d k v)):
  (∃j,ks[j]? =some (.mk z)/\ancB ms i j=true)/\ ∀j d' k' v',i≠j->ks[j]? =some (.ins z d' k' v')->(∃u,keyA d k'=some u)/\Qf9 k' k=false:=by
 unfold Qtq at h
 simp only [List.all_eq_true] at h
 have h1:=h (.ins z d k v,i) (Qe3 hi)
 simp only [Bool.and_eq_true,List.any_eq_true,List.all_eq_true] at h1
 obtain ⟨⟨⟨y,j⟩,hy,h2⟩,h3⟩:=h1
 constructor
 ·simp only at h2
  split at h2
  ·rename_i z'
   simp only [Bool.and_eq_true] at h2
   have:=Nat.eq_of_beq_eq_true h2.1
   subst this
   exact ⟨j,List.mem_zipIdx_iff_getElem?.1 hy,h2.2⟩
  ·cases h2
 ·intro j d' k' v' hij hj
  have h4:=h3 (.ins z d' k' v',j) (Qe3 hj)
  have e1:Nat.beq z z=true:=Nat.beq_refl z
  have e2:Nat.beq i j=false:=by
   cases hb:Nat.beq i j with
   |false=>rfl
   |true=>exact absurd (Nat.eq_of_beq_eq_true hb) hij
  simp only [e1,e2,Bool.not_true,Bool.false_or,Bool.and_eq_true,Option.isSome_iff_exists,Bool.not_eq_true'] at h4
  exact h4
theorem Q3g (ms:List Nat) (i x:Nat): ∀(l:List DK) (k:Nat),x∈Qcl ms i k l↔(∃j c e,l[j]? =some (DK.fresh x c e)/\ancB ms i (k+j)=false)\/ ∃j:Nat,l[j]? =some (DK.mk x)
 |[],k=>by simp [Qcl]
 |q::l,k=>by
  have ih:=Q3g ms i x l (k+1)
  have step:(∃j c e,l[j]? =some (DK.fresh x c e)/\ancB ms i (k+1+j)=false)↔ ∃j c e,(q::l)[j+1]? =some (DK.fresh x c e)/\ancB ms i (k+(j+1))=false:=by
   constructor
   ·rintro ⟨j,c,e,h1,h2⟩;exact ⟨j,c,e,by simpa using h1,by rw [show k+(j+1)=k+1+j by omega];exact h2⟩
   ·rintro ⟨j,c,e,h1,h2⟩;exact ⟨j,c,e,by simpa using h1,by rw [show k+1+j=k+(j+1) by omega];exact h2⟩
  have split0:(∃j c e,(q::l)[j]? =some (DK.fresh x c e)/\ancB ms i (k+j)=false)↔((∃c e,q=DK.fresh x c e/\ancB ms i k=false)\/ ∃j c e,(q::l)[j+1]? =some (DK.fresh x c e)/\ancB ms i (k+(j+1))=false):=by
   constructor
   ·rintro ⟨j,c,e,h1,h2⟩
    cases j with
    |zero=>exact .inl ⟨c,e,by simpa using h1,by simpa using h2⟩
    |succ j=>exact .inr ⟨j,c,e,h1,h2⟩
   ·rintro (⟨c,e,h1,h2⟩|⟨j,c,e,h1,h2⟩)
    ·exact ⟨0,c,e,by simp [h1],by simpa using h2⟩
    ·exact ⟨j+1,c,e,h1,h2⟩
  have splitM:(∃j:Nat,(q::l)[j]? =some (DK.mk x))↔(q=DK.mk x\/ ∃j:Nat,l[j]? =some (DK.mk x)):=by
   constructor
   ·rintro ⟨j,h1⟩
    cases j with
    |zero=>exact .inl (by simpa using h1)
    |succ j=>exact .inr ⟨j,by simpa using h1⟩
   ·rintro (h1|⟨j,h1⟩)
    ·exact ⟨0,by simp [h1]⟩
    ·exact ⟨j+1,by simpa using h1⟩
  rw [split0,<-step,splitM]
  have key:((∃c e,q=DK.fresh x c e/\ancB ms i k=false)\/q=DK.mk x\/x∈Qcl ms i (k+1) l)↔(((∃c e,q=DK.fresh x c e/\ancB ms i k=false)\/ ∃j c e,l[j]? =some (DK.fresh x c e)/\ancB ms i (k+1+j)=false)\/(q=DK.mk x\/ ∃j:Nat,l[j]? =some (DK.mk x))):=by
   rw [ih]
   constructor
   ·rintro (h|h|h|h)
    ·exact .inl (.inl h)
    ·exact .inr (.inl h)
    ·exact .inl (.inr h)
    ·exact .inr (.inr h)
   ·rintro ((h|h)|(h|h))
    ·exact .inl h
    ·exact .inr (.inr (.inl h))
    ·exact .inr (.inl h)
    ·exact .inr (.inr (.inr h))
  rw [<-key]
  simp only [Qcl]
  cases q with
  |fresh y c e=>
   simp only
   split
   ·rename_i ha
    constructor
    ·intro h;exact .inr (.inr h)
    ·rintro (⟨c',e',h1,h2⟩|h|h)
     ·rw [ha] at h2;cases h2
     ·cases h
     ·exact h
   ·rename_i ha
    simp only [List.mem_cons]
    constructor
    ·rintro (h|h)
     ·exact .inl ⟨c,e,by rw [h],by simpa using ha⟩
     ·exact .inr (.inr h)
    ·rintro (⟨c',e',h1,h2⟩|h|h)
     ·cases h1;exact .inl rfl
     ·cases h
     ·exact .inr h
  |lite=>simp
  |load b=>simp
  |eff p=>simp
  |ins z d k v=>simp
  |mk y=>
   simp only [List.mem_cons]
   constructor
   ·rintro (h|h)
    ·exact .inr (.inl (by rw [h]))
    ·exact .inr (.inr h)
   ·rintro (⟨c',e',h1,_⟩|h1|h)
    ·cases h1
    ·cases h1;exact .inl rfl
    ·exact .inr h
theorem Qhw: ∀(ids:List Nat) (H:List Blk),(Qeg ids H).length=H.length
 |[],_=>rfl
 |x::ids,H=>by simp [Qeg,Qhw ids]
theorem Qjj: ∀(ids:List Nat) (H:List Blk) (x:Nat),x∉ids->(Qeg ids H)[x]? =H[x]?
 |[],_,_,_=>rfl
 |y::ids,H,x,h=>by
  simp only [List.mem_cons,not_or] at h
  simp only [Qeg]
  rw [Qjj ids _ x h.2,List.getElem?_set_ne (fun e=>h.1 e.symm)]
theorem Q3h: ∀(ids:List Nat) (H:List Blk) (x:Nat),x∈ids->x<H.length->(Qeg ids H)[x]? =some .gone
 |y::ids,H,x,h,hl=>by
  simp only [Qeg]
  by_cases hx:x∈ids
  ·exact Q3h ids _ x hx (by simpa using hl)
  ·have:y=x:=by rcases List.mem_cons.1 h with h|h;exact h.symm;exact absurd h hx
   subst this
   rw [Qjj ids _ y hx]
   simp [hl]
theorem Qwd (old:List Blk): ∀(ids:List Nat) (H:List Blk),(Qe8 old ids H).length=H.length
 |[],_=>rfl
 |x::ids,H=>by
  simp only [Qe8]
  rw [Qwd old ids]
  split<;>simp
theorem Qjz (old:List Blk): ∀(ids:List Nat) (H:List Blk) (x:Nat),x∉ids->(Qe8 old ids H)[x]? =H[x]?
 |[],_,_,_=>rfl
 |y::ids,H,x,h=>by
  simp only [List.mem_cons,not_or] at h
  simp only [Qe8]
  rw [Qjz old ids _ x h.2]
  split
  ·rw [List.getElem?_set_ne (fun e=>h.1 e.symm)]
  ·rfl
theorem Q5e (old:List Blk): ∀(ids:List Nat) (H:List Blk) (x:Nat),x∈ids->x<old.length->old.length<=H.length->(Qe8 old ids H)[x]? =old[x]?
 |y::ids,H,x,h,hl,hH=>by
  simp only [Qe8]
  by_cases hx:x∈ids
  ·refine Q5e old ids _ x hx hl ?_
   split<;>simpa using hH
  ·have:y=x:=by rcases List.mem_cons.1 h with h|h;exact h.symm;exact absurd h hx
   subst this
   rw [Qjz old ids _ y hx]
   have hy:old[y]? =some old[y]:=by simp [hl]
   rw [hy]
   have:y<H.length:=by omega
   simp [this]
end Go.Ev
