/- The evaluator, part 1. -/
import Derived.Orders
import Derived.Eval
import Derived.Laws.CopyOwn
import Derived.Laws.Slices
import Derived.Laws.StructEq
import Derived.Laws.Build
import Derived.Laws.MakeOwn
import Derived.Laws.IdiomStrings
import Derived.Great.BuildSlice
import Derived.ChangeKeysEq
import Derived.MapKept
import Derived.OrdersIn
import Derived.TacticsIn
import Derived.LoopNIn
import Derived.RangeFuncLeaves
import Derived.Stop.Asserts
import Derived.RecoverIn
import Derived.Maps.RangeRun
set_option linter.unusedVariables false
set_option linter.unusedSimpArgs false
set_option linter.unnecessarySimpa false
namespace Go.Ev
set_option linter.unusedVariables false
set_option linter.unusedSimpArgs false
set_option linter.unnecessarySimpa false
inductive AVal where
 |bool (b:Bool)
 |int (k:IntKind) (n:Int)
 |float (k:FloatKind) (b:Nat)
 |str (s:ByteArray)
 |nilptr
 |ptr (b off:Nat)
 |nilslice
 |slice (b off len cap:Nat) (ex:Option Nat)
 |nilmap
 |map (b:Nat)
 |nilfunc
 |func (fn:Fn) (first captured:List AVal)
 |niliface
 |iface (t:TypeId) (v:AVal)
 |agg (l:List AVal)
 |tuple (l:List AVal)
 |symi (k:IntKind) (i:Nat)
 |symb (i:Nat)
 |syms (i:Nat)
 |row (i:Nat)
 |rptr (i:Nat) (ix:AVal) (j:Nat)
 |yield (b:Nat)
 |junk
 |geq (n:Nat)
 |lsl (b z:Nat) (ap:Bool) (off n:AVal)
 |lptr (b z:Nat) (ix:AVal) (j:Nat)
 |crow (i:Nat)
instance:Inhabited AVal:=⟨.nilptr⟩
structure Fz where
 blk:Nat
 off:Nat
 z:Nat
 len:Nat
 val:Nat->Nat->AVal
 obj:Option Obj:=none
structure Sig where
 i:Nat->Int
 b:Nat->Bool
 s:Nat->ByteArray
 tab:Nat->List Int->Int:=fun _ _=>0
 ext:Nat->Option Fz:=fun _=>none
def den (V:Sig):AVal->AVal
 |.symi k i=> .int k (V.i i)
 |.symb i=> .bool (V.b i)
 |.syms i=> .str (V.s i)
 |a=>a
def intA (op:BinOp) (k:IntKind) (a:Int) (k':IntKind) (b:Int):Option AVal:=
 match op with
 |.shl=>if b<0 then none else some (.int k (k.wrap (a*2^(min b.toNat k.bits))))
 |.shr=>if b<0 then none else some (.int k (a.fdiv (2^(min b.toNat k.bits))))
 |_=>if k=k' then
  match op with
  |.add=>some (.int k (k.wrap (a+b)))
  |.sub=>some (.int k (k.wrap (a-b)))
  |.mul=>some (.int k (k.wrap (a*b)))
  |.quo=>if b=0 then none else some (.int k (k.wrap (a.tdiv b)))
  |.rem=>if b=0 then none else some (.int k (a.tmod b))
  |.and=>some (.int k (k.wrap (BitVec.ofInt k.bits a&&&BitVec.ofInt k.bits b).toNat))
  |.or=>some (.int k (k.wrap (BitVec.ofInt k.bits a|||BitVec.ofInt k.bits b).toNat))
  |.xor=>some (.int k (k.wrap (BitVec.ofInt k.bits a^^^BitVec.ofInt k.bits b).toNat))
  |.andNot=>some (.int k (k.wrap (BitVec.ofInt k.bits a&&& ~~~BitVec.ofInt k.bits b).toNat))
  |.eql=>some (.bool (a==b))
  |.neq=>some (.bool (a !=b))
  |.lss=>some (.bool (decide (a<b)))
  |.leq=>some (.bool (decide (a<=b)))
  |.gtr=>some (.bool (decide (a>b)))
  |.geq=>some (.bool (decide (a>=b)))
  |_=>none
  else none
def strA (op:BinOp) (x y:ByteArray):Option AVal:=
 match op with
 |.add=>if x.size+y.size<=9223372036854775807 then some (.str (x++y)) else none
 |.eql=>some (.bool (x.toList==y.toList))
 |.neq=>some (.bool (!(x.toList==y.toList)))
 |.lss=>some (.bool (Op.bytesLess x.toList y.toList))
 |.leq=>some (.bool (Op.bytesLess x.toList y.toList||x.toList==y.toList))
 |.gtr=>some (.bool (!(Op.bytesLess x.toList y.toList||x.toList==y.toList)))
 |.geq=>some (.bool (!Op.bytesLess x.toList y.toList))
 |_=>none
def unA (op:UnOp) (x:AVal):Option AVal:=
 match op,x with
 |.not,.bool b=>some (.bool !b)
 |.neg,.int k n=>some (.int k (k.wrap (0-n)))
 |.xor,.int k n=>some (.int k (k.wrap (BitVec.ofInt k.bits (if k.signed then-1 else k.max)^^^BitVec.ofInt k.bits n).toNat))
 |_,_=>none
def minA (l:List AVal):Option AVal:=
 match l with
 |[.int k x,.int _ y]=>some (.int k (if y<x then y else x))
 |[.int k x,.int _ y,.int _ z]=>some (.int k (if z<(if y<x then y else x) then z else (if y<x then y else x)))
 |_=>none
def maxA (l:List AVal):Option AVal:=
 match l with
 |[.int k x,.int _ y]=>some (.int k (if y>x then y else x))
 |[.int k x,.int _ y,.int _ z]=>some (.int k (if z>(if y>x then y else x) then z else (if y>x then y else x)))
 |_=>none
def binS (op:BinOp) (a b:AVal):Option AVal:=
 match a,b with
 |.int k a,.int k' b=>intA op k a k' b
 |.str a,.str b=>strA op a b
 |.bool a,.bool b=>match op with
  |.eql=>some (.bool (a==b))
  |.neq=>some (.bool (!(a==b)))
  |_=>none
 |_,_=>none
def Qjc (k:IntKind):AVal->Option AVal
 |.int _ n=>some (.int k (k.wrap n))
 |_=>none
def eqS:AVal->AVal->Bool
 |.int _ a,.int _ b=>a==b
 |.bool a,.bool b=>a==b
 |.str a,.str b=>a.toList==b.toList
 |_,_=>false
def Qcr:AVal->UInt8
 |.int _ n=>UInt8.ofNat n.toNat
 |_=>0
def csz:Option IntKind->Nat
 |some .u8=>1
 |some .i8=>1
 |none=>1
 |_=>8
def rsz:List (Option IntKind)->Nat
 |[]=>0
 |c::l=>csz c+rsz l
def beB:Nat->Nat->List UInt8
 |0,_=>[]
 |m+1,n=>beB m (n/256)++[UInt8.ofNat (n%256)]
def deB (l:List UInt8):Nat:=l.foldl (fun a b=>a*256+b.toNat) 0
def encK (c:Option IntKind):AVal->List UInt8
 |.int _ n=>beB (csz c) (n%(2^(8*csz c):Nat)).toNat
 |.bool b=>[if b then 1 else 0]
 |_=>[]
def rowB:List (Option IntKind)->List AVal->List UInt8
 |c::cl,a::l=>encK c a++rowB cl l
 |_,_=>[]
def decK (c:Option IntKind) (l:List UInt8):AVal:=
 match c with
 |some k=> .int k (k.wrap (deB l))
 |none=> .bool (!(deB l==0))
def Qc1:List (Option IntKind)->Nat->List UInt8->AVal
 |[],_,_=> .bool false
 |c::_,0,l=>decK c (l.take (csz c))
 |c::cl,j+1,l=>Qc1 cl j (l.drop (csz c))
def Qm (cl:List (Option IntKind)) (S:ByteArray) (m j:Nat):AVal:=Qc1 cl j (S.data.toList.drop (m*rsz cl))
inductive SOp where
 |len|at|sub|cat|row (cl:List (Option IntKind))|cell (cl:List (Option IntKind)) (j:Nat)
 |rsub (cl:List (Option IntKind))|upd (cl:List (Option IntKind)) (j:Nat)|fs (id:Nat)
 deriving DecidableEq
def encB (s:ByteArray):Int:=s.data.toList.foldl (fun a b=>a*256+b.toNat) 1
def digB:Nat->Nat->List UInt8->List UInt8
 |0,_,l=>l
 |f+1,n,l=>match Nat.ble n 1 with
  |true=>l
  |false=>digB f (n/256) (UInt8.ofNat (n%256)::l)
def decS (n:Int):ByteArray:=⟨(digB (n.toNat.log2+1) n.toNat []).toArray⟩
def numS:AVal->Int
 |.int _ n=>n
 |.bool b=>if b then 1 else 0
 |.str s=>encB s
 |_=>0
def updR (cl:List (Option IntKind)) (s:List UInt8) (m:Nat) (as:List AVal):List UInt8:=
 s.take (m*rsz cl)++(rowB cl as++s.drop ((m+1)*rsz cl))
def sopA (tab:Nat->List Int->Int) (o:SOp) (l:List AVal):Option AVal:=
 match o with
 |.len=>match l with
  |[.str s]=>some (.int .i64 s.size)
  |_=>none
 |.at=>match l with
  |[.str s,.int _ n]=>some (.int .u8 ((s.data.toList.getD n.toNat 0).toNat:Nat))
  |_=>none
 |.sub=>match l with
  |[.str s,.int _ a,.int _ b]=>some (.str (s.extract a.toNat b.toNat))
  |_=>none
 |.cat=>match l with
  |[.str s,.str t]=>some (.str (s++t))
  |_=>none
 |.row cl=>some (.str ⟨(rowB cl l).toArray⟩)
 |.cell cl j=>match l with
  |[.str s,.int _ m]=>some (Qm cl s m.toNat j)
  |_=>none
 |.rsub cl=>match l with
  |[.str s,.int _ a,.int _ b]=>some (.str (s.extract (a.toNat*rsz cl) (b.toNat*rsz cl)))
  |_=>none
 |.upd cl j=>match l with
  |.str s::.int _ m::as=>some (.str ⟨(updR cl s.data.toList m.toNat as).toArray⟩)
  |_=>none
 |.fs id=>some (.str (decS (tab id (l.map numS))))
inductive SDef where
 |bin (op:BinOp) (a b:AVal)
 |un (op:UnOp) (a:AVal)
 |conv (k:IntKind) (a:AVal)
 |low (l:List AVal)
 |high (l:List AVal)
 |all (l:List (AVal×AVal))
 |text (l:List AVal)
 |fn (id:Nat) (k:IntKind) (l:List AVal)
 |fnb (id:Nat) (l:List AVal)
 |ite (c a b:AVal)
 |sel (l:List AVal) (ix:AVal)
 |sop (o:SOp) (l:List AVal)
def Qb (V:Sig):SDef->Option AVal
 |.bin op a b=>binS op (den V a) (den V b)
 |.un op a=>unA op (den V a)
 |.conv k a=>Qjc k (den V a)
 |.low l=>minA (l.map (den V))
 |.high l=>maxA (l.map (den V))
 |.all l=>some (.bool (l.all fun x=>eqS (den V x.1) (den V x.2)))
 |.text l=>some (.str ⟨(l.map fun a=>Qcr (den V a)).toArray⟩)
 |.fn id k l=>some (.int k (k.wrap (V.tab id (l.map fun a=>numS (den V a)))))
 |.fnb id l=>some (.bool (!(V.tab id (l.map fun a=>numS (den V a))==0)))
 |.ite c a b=>match den V c with
  |.bool x=>some (bif x then den V a else den V b)
  |_=>none
 |.sel l ix=>match den V ix with
  |.int _ n=>match l with
   |a::r=>some (den V ((a::r).getD n.toNat a))
   |[]=>none
  |_=>none
 |.sop o l=>sopA V.tab o (l.map (den V))
def Qbv (a:AVal) (i:Nat):AVal:=
 match a with
 |.int k _=> .symi k i
 |.symi k _=> .symi k i
 |.bool _=> .symb i
 |.symb _=> .symb i
 |_=> .syms i
def resS (d:SDef) (i:Nat):AVal:=
 match d with
 |.bin op a _=>match op with
  |.eql|.neq|.lss|.leq|.gtr|.geq=> .symb i
  |_=>Qbv a i
 |.un _ a=>Qbv a i
 |.conv k _=> .symi k i
 |.low l=>match l with
  |a::_=>Qbv a i
  |[]=> .symb i
 |.high l=>match l with
  |a::_=>Qbv a i
  |[]=> .symb i
 |.all _=> .symb i
 |.text _=> .syms i
 |.fn _ k _=> .symi k i
 |.fnb _ _=> .symb i
 |.ite _ a _=>Qbv a i
 |.sel l _=>match l with
  |a::_=>Qbv a i
  |[]=> .symb i
 |.sop o _=>match o with
  |.len=> .symi .i64 i
  |.at=> .symi .u8 i
  |.cell cl j=>match cl[j]? with
   |some (some k)=> .symi k i
   |_=> .symb i
  |_=> .syms i
inductive TT where
 |e
 |n (l:TT) (v:Option AVal) (r:TT)
 |al (l:List (Nat×AVal))
def Qi6:List (Nat×AVal)->Nat->Option AVal
 |[],_=>none
 |x::l,i=>match Nat.beq x.1 i with
  |true=>some x.2
  |false=>Qi6 l i
def TT.get:TT->Nat->Option AVal
 |.e,_=>none
 |.al l,i=>Qi6 l i
 |.n l v r,i=>match i with
  |0=>v
  |i+1=>match Nat.beq (i%2) 0 with
   |true=>l.get (i/2)
   |false=>r.get (i/2)
def TT.put:TT->Nat->AVal->TT
 |.e,_,_=> .e
 |.al l,i,v=> .al ((i,v)::l)
 |.n l w r,i,v=>match i with
  |0=> .n l (some v) r
  |i+1=>match Nat.beq (i%2) 0 with
   |true=> .n (l.put (i/2) v) w r
   |false=> .n l w (r.put (i/2) v)
inductive ADef where
 |mark (b:Nat)
 |fn (fv:Fn) (cap args:List AVal)
structure Tm where
 len:Nat
 tr:TT
 df:List ADef:=[]
structure LoopA where
 st:LoopState
 pend:Option Code
 t:Tm
 params:Array Tmp
 assign:Code
 body:Code
 dfr:Nat
inductive Blk where
 |cells (c:List AVal) (e:TypeId)
 |map (l:List (AVal×AVal))
 |gone
 |loop (l:LoopA)
 |dfr
 |iter (x:Nat) (l:List (AVal×AVal)) (cur:Option (AVal×AVal))
 |lst (s n:AVal) (cl:List (Option IntKind)) (e:TypeId)
instance:Inhabited Blk:=⟨.gone⟩
structure Hp where
 heap:List Blk
 log:List Nat
structure Cx where
 n:Nat
 look:SDef->Option Nat
 fact:Nat->Option Bool
 num:Nat->Option Int:=fun _=>none
 hook:FuncId->List AVal->Option AVal:=fun _ _=>none
 tab:Nat->List Int->Int:=fun _ _=>0
 rlen:Nat->Option AVal:=fun _=>none
 rat:Nat->AVal->Option (List AVal):=fun _ _=>none
 rcut:Nat->AVal->Option Nat:=fun _ _=>none
 kd:Nat->Option IntKind:=fun _=>none
 mhook:FuncId->List AVal->Hp->Option (AVal×Hp):=fun _ _ _=>none
 phook:FuncId->List AVal->Hp->Option (AVal×Hp):=fun _ _ _=>none
 sdf:Nat->Option SDef:=fun _=>none
 rstr:Nat->Option (AVal×List (Option IntKind)):=fun _=>none
 atoms:List (Nat×Bool):=[]
 lsts:List (Nat×List (Option IntKind)):=[]
 insf:Option (Nat×Nat):=none
 ok:Sig->Prop:=fun _=>True
def StrX (V:Sig) (s:AVal) (cl:List (Option IntKind)) (X:Fz):Prop:=
 cl.length=X.z/\ ∃S:ByteArray,den V s=.str S/\S.data.toList.length=X.len*rsz cl/\ ∀m j,m<X.len->j<X.z->X.val m j=Qm cl S m j
structure Cx.Good (ng:Cx) (V:Sig):Prop where
 look: ∀d i,ng.look d=some i->Qb V d=some (den V (resS d i))
 fact: ∀i b,ng.fact i=some b->V.b i=b
 num: ∀i n,ng.num i=some n->V.i i=n
 tab:V.tab=ng.tab
 rlen: ∀i a X,ng.rlen i=some a->V.ext i=some X->den V a=.int .i64 X.len
 rat: ∀i a cs X,ng.rat i a=some cs->V.ext i=some X-> ∃m:Nat,den V a=.int .i64 m/\m<X.len/\cs.length=X.z/\ ∀(j:Nat) (c:AVal),cs[j]? =some c->den V c=X.val m j
 rcut: ∀i a k X,ng.rcut i a=some k->V.ext i=some X-> ∃Y,V.ext k=some Y/\Y.blk=X.blk/\Y.off=X.off/\Y.len<=X.len/\den V a=.int .i64 Y.len
 kd: ∀i k,ng.kd i=some k->k.wrap (V.i i)=V.i i
 sdf: ∀i d,ng.sdf i=some d->Qb V d=some (den V (resS d i))
 rstr: ∀i s cl X,ng.rstr i=some (s,cl)->V.ext i=some X->StrX V s cl X
 ok:ng.ok V
def symS (ng:Cx) (d:SDef):Option AVal:=
 match ng.look d with
 |some i=>match resS d i with
  |.symb j=>match ng.fact j with
   |some b=>some (.bool b)
   |none=>some (.symb j)
  |.symi k j=>match ng.num j with
   |some n=>some (.int k n)
   |none=>some (.symi k j)
  |r=>some r
 |none=>none
def Tm.get (t:Tm) (i:Nat):Option AVal:=
 match t with
 |⟨n,tr,_⟩=>match Nat.blt i n with
  |true=>tr.get i
  |false=>none
theorem TT.get_put: ∀(t:TT) (d i:Nat) (v w:AVal),(t.put d v).get i=some w->(i=d/\w=v)\/(i≠d/\t.get i=some w)
 |.e,_,_,_,_,h=>by simp [TT.put,TT.get] at h
 |.al l,d,i,v,w,h=>by
  simp only [TT.put,TT.get,Qi6] at h;split at h;rename_i hb;cases h;exact .inl ⟨(Nat.eq_of_beq_eq_true hb).symm,rfl⟩;rename_i hb;exact .inr ⟨fun e=>Nat.ne_of_beq_eq_false hb e.symm,h⟩
 |.n l u r,d,i,v,w,h=>by
  cases d with
  |zero=>
   cases i with
   |zero=>simp only [TT.put,TT.get,Option.some.injEq] at h;exact .inl ⟨rfl,h.symm⟩
   |succ i=>simp only [TT.put,TT.get] at h⊢;exact .inr ⟨by omega,h⟩
  |succ d=>
   cases i with
   |zero=>
    right;simp only [TT.put] at h;split at h<;>exact ⟨by omega,h⟩
   |succ i=>
    simp only [TT.put] at h;cases hd:Nat.beq (d%2) 0 with
    |true=>
     have hd2:=Nat.eq_of_beq_eq_true hd;simp only [hd,TT.get] at h⊢;cases hi:Nat.beq (i%2) 0 with
     |true=>
      have hi2:=Nat.eq_of_beq_eq_true hi;simp only [hi] at h⊢;rcases TT.get_put l (d/2) (i/2) v w h with ⟨h1,h2⟩|⟨h1,h2⟩
      exact .inl ⟨by omega,h2⟩;exact .inr ⟨by omega,h2⟩
     |false=>
      have hi2:=Nat.ne_of_beq_eq_false hi;simp only [hi] at h⊢;exact .inr ⟨by omega,h⟩
    |false=>
     have hd2:=Nat.ne_of_beq_eq_false hd;simp only [hd,TT.get] at h⊢;cases hi:Nat.beq (i%2) 0 with
     |true=>
      have hi2:=Nat.eq_of_beq_eq_true hi;simp only [hi] at h⊢;exact .inr ⟨by omega,h⟩
     |false=>
      have hi2:=Nat.ne_of_beq_eq_false hi;simp only [hi] at h⊢;rcases TT.get_put r (d/2) (i/2) v w h with ⟨h1,h2⟩|⟨h1,h2⟩
      exact .inl ⟨by omega,h2⟩;exact .inr ⟨by omega,h2⟩
theorem Tm.get_lt {t:Tm} {i:Nat} {v:AVal} (h:t.get i=some v):i<t.len:=by
 obtain ⟨n,tr⟩:=t;simp only [Tm.get] at h;split at h;rename_i hb;simpa using hb;cases h
theorem Tm.get_tr {t:Tm} {i:Nat} {v:AVal} (h:t.get i=some v):t.tr.get i=some v:=by
 obtain ⟨n,tr⟩:=t;simp only [Tm.get] at h;split at h;exact h;cases h
theorem Tm.get_of {t:Tm} {i:Nat} {v:AVal} (h:t.tr.get i=some v) (hi:i<t.len):t.get i=some v:=by
 obtain ⟨n,tr⟩:=t;simp only [Tm.get];have:Nat.blt i n=true:=by simpa using hi
 rw [this];exact h
def TT.mk (args:List AVal) (n:Nat) (d:AVal):Nat->Nat->Nat->TT
 |0,_,_=> .e
 |k+1,o,s=>match Nat.blt o n with
  |true=> .n (TT.mk args n d k (o+s) (2*s)) (some (args.getD o d)) (TT.mk args n d k (o+2*s) (2*s))
  |false=> .e
theorem TT.get_mk (args:List AVal) (n:Nat) (d:AVal): ∀(k o s i:Nat) (v:AVal),(TT.mk args n d k o s).get i=some v->v=args.getD (o+s*i) d
 |0,_,_,_,_,h=>by simp [TT.mk,TT.get] at h
 |k+1,o,s,i,v,h=>by
  simp only [TT.mk] at h;split at h
  ·cases i with
   |zero=>simp only [TT.get,Option.some.injEq] at h;rw [<-h];simp
   |succ i=>
    simp only [TT.get] at h;split at h;rename_i hi;have hi2:=Nat.eq_of_beq_eq_true hi;have:=TT.get_mk args n d k _ _ _ _ h;rw [this];congr 1;have:i=2*(i/2):=by omega
    generalize i/2=q at this⊢;subst this;rw [Nat.mul_add,Nat.mul_comm 2 s,Nat.mul_assoc];omega;rename_i hi;have hi2:=Nat.ne_of_beq_eq_false hi;have:=TT.get_mk args n d k _ _ _ _ h;rw [this];congr 1;have:i=2*(i/2)+1:=by omega
    generalize i/2=q at this⊢;subst this;rw [Nat.mul_add,Nat.mul_add,Nat.mul_comm 2 s,Nat.mul_assoc];omega
  simp [TT.get] at h
def Qcm:AVal:=.tuple []
def ofV0:Value->Option AVal
 |.bool b=>some (.bool b)
 |.int k n=>some (.int k n)
 |.float k b=>some (.float k b)
 |.string s=>some (.str s)
 |.pointer none=>some .nilptr
 |.slice none 0 0=>some .nilslice
 |.map none=>some .nilmap
 |.nilFunc=>some .nilfunc
 |.nilIface=>some .niliface
 |.func fn ⟨[]⟩ ⟨[]⟩=>some (.func fn [] [])
 |_=>none
def ofVL:List Value->Option (List AVal)
 |[]=>some []
 |v::l=>match ofV0 v with
  |some a=>match ofVL l with
   |some r=>some (a::r)
   |none=>none
  |none=>none
def ofV:Value->Option AVal
 |.agg cs=>match ofVL cs.toList with
  |some l=>some (.agg l)
  |none=>none
 |.tuple cs=>match ofVL cs.toList with
  |some l=>some (.tuple l)
  |none=>none
 |.iface t v=>match ofV0 v with
  |some a=>some (.iface t a)
  |none=>none
 |v=>ofV0 v
def Qch (ng:Cx):AVal->AVal
 |.symb j=>match ng.fact j with
  |some b=> .bool b
  |none=> .symb j
 |.symi k j=>match ng.num j with
  |some n=> .int k n
  |none=> .symi k j
 |v=>v
def ev (ng:Cx) (t:Tm):Operand->Option AVal
 |.tmp i=>match t.get i with
  |some v=>some (Qch ng v)
  |none=>none
 |.const v=>ofV v
 |.global g=>if g<ng.n then some (.ptr g 0) else none
 |.func f=>some (.func (.func f) [] [])
def Q6:AVal->List AVal
 |.agg l=>l
 |v=>[v]
def scalar:AVal->Bool
 |.agg _|.tuple _=>false
 |_=>true
structure Loc where
 blk:Nat
 dl:Nat
 n:Nat
structure Fm where
 blk:Nat
 es:Array MapEntry
 cl:Nat
structure Inj where
 loc:Nat->Option Loc
 sig:Sig
 mp:Nat->Option Fm:=fun _=>none
instance:CoeFun Inj (fun _=>Nat->Option Loc):=⟨Inj.loc⟩
mutual
inductive VRel (g:Inj):AVal->Value->Prop
 |bool (b:Bool):VRel g (.bool b) (.bool b)
 |int (k:IntKind) (n:Int):VRel g (.int k n) (.int k n)
 |float (k:FloatKind) (n:Nat):VRel g (.float k n) (.float k n)
 |str (s:ByteArray):VRel g (.str s) (.string s)
 |nilptr:VRel g .nilptr (.pointer none)
 |ptr (b off:Nat) (L:Loc):g b=some L->VRel g (.ptr b off) (.pointer (some ⟨L.blk,L.dl+off,none⟩))
 |nilslice:VRel g .nilslice (.slice none 0 0)
 |slice (b off len cap:Nat) (ex:Option Nat) (o' cap':Nat) (L:Loc):g b=some L->(o'=off\/(len=0/\cap=0/\ex≠none))->(ex=none->cap'=cap)->
   (∀z,ex=some z->cap<=cap'/\o'+cap'*z<=L.n)->VRel g (.slice b off len cap ex) (.slice (some ⟨L.blk,L.dl+o',none⟩) len cap')
 |nilmap:VRel g .nilmap (.map none)
 |map (b:Nat) (L:Loc):g b=some L->VRel g (.map b) (.map (some L.blk))
 |nilfunc:VRel g .nilfunc .nilFunc
 |func (fn:Fn) (f c:List AVal) (f' c':Array Value):LRel g f f'.toList->LRel g c c'.toList->VRel g (.func fn f c) (.func fn f' c')
 |niliface:VRel g .niliface .nilIface
 |iface (t:TypeId) (v:AVal) (v':Value):VRel g v v'->VRel g (.iface t v) (.iface t v')
 |agg (l:List AVal) (l':Array Value):LRel g l l'.toList->VRel g (.agg l) (.agg l')
 |tuple (l:List AVal) (l':Array Value):LRel g l l'.toList->VRel g (.tuple l) (.tuple l')
 |symi (k:IntKind) (i:Nat):VRel g (.symi k i) (.int k (g.sig.i i))
 |symb (i:Nat):VRel g (.symb i) (.bool (g.sig.b i))
 |syms (i:Nat):VRel g (.syms i) (.string (g.sig.s i))
 |row (i:Nat) (X:Fz) (ao:Option Addr) (cap:Nat):g.sig.ext i=some X->X.len<=cap->(0<X.len->ao=some ⟨X.blk,X.off,none⟩)->VRel g (.row i) (.slice ao X.len cap)
 |rptr (i:Nat) (ix:AVal) (j m:Nat) (X:Fz):g.sig.ext i=some X->den g.sig ix=.int .i64 (m:Int)->m<X.len->VRel g (.rptr i ix j) (.pointer (some ⟨X.blk,X.off+m*X.z+j,none⟩))
 |yield (b:Nat) (L:Loc):g b=some L->VRel g (.yield b) (.func (.yield L.blk) #[] #[])
 |junk (v:Value):v.oneCell'=true->VRel g .junk v
 |geq (n m:Nat):n<=m->VRel g (.geq n) (.int .i64 (m:Int))
 |lsl (b z:Nat) (ap:Bool) (off n:AVal) (o m cap:Nat) (ao:Option Addr):den g.sig off=.int .i64 (o:Int)->den g.sig n=.int .i64 (m:Int)->m<=cap/\cap<=9223372036854775807->(ap=true->o=0/\(m=0->cap=0))->
   (0<m-> ∃L,g b=some L/\ao=some ⟨L.blk,L.dl+o*z,none⟩/\(o+cap)*z<=L.n)->VRel g (.lsl b z ap off n) (.slice ao m cap)
 |lptr (b z:Nat) (ix:AVal) (j m:Nat) (L:Loc):g b=some L->den g.sig ix=.int .i64 (m:Int)->(m+1)*z<=L.n->j<z->VRel g (.lptr b z ix j) (.pointer (some ⟨L.blk,L.dl+m*z+j,none⟩))
 |crow (i:Nat) (X:Fz) (ao:Option Addr):g.sig.ext i=some X->(0<X.len->ao=some ⟨X.blk,X.off,none⟩)->VRel g (.crow i) (.slice ao X.len X.len)
inductive LRel (g:Inj):List AVal->List Value->Prop
 |nil:LRel g [] []
 |cons (a:AVal) (v:Value) (l:List AVal) (m:List Value):VRel g a v->LRel g l m->LRel g (a::l) (v::m)
end
structure Sub (g g':Inj):Prop where
 loc: ∀i L,g i=some L->g' i=some L
 sig:g'.sig=g.sig
 mp: ∀i X,g.mp i=some X->g'.mp i=some X
instance (g g':Inj):CoeFun (Sub g g') (fun _=> ∀i L,g i=some L->g' i=some L):=⟨Sub.loc⟩
theorem Sub.refl (g:Inj):Sub g g:=⟨fun _ _ h=>h,rfl,fun _ _ h=>h⟩
theorem Sub.trans {a b c:Inj} (h:Sub a b) (h':Sub b c):Sub a c:=⟨fun i L hi=>h' i L (h i L hi),h'.sig.trans h.sig,fun i X hi=>h'.mp i X (h.mp i X hi)⟩
mutual
theorem VRel.mono {g g':Inj} (hs:Sub g g'): ∀{a:AVal} {v:Value},VRel g a v->VRel g' a v
 |_,_,.bool b=> .bool b
 |_,_,.int k n=> .int k n
 |_,_,.float k n=> .float k n
 |_,_,.str s=> .str s
 |_,_,.nilptr=> .nilptr
 |_,_,.ptr b off L h=> .ptr b off L (hs _ _ h)
 |_,_,.nilslice=> .nilslice
 |_,_,.slice b off len cap ex o' cap' L h h0 h1 h2=> .slice b off len cap ex o' cap' L (hs _ _ h) h0 h1 h2
 |_,_,.nilmap=> .nilmap
 |_,_,.map b L h=> .map b L (hs _ _ h)
 |_,_,.nilfunc=> .nilfunc
 |_,_,.func fn f c f' c' h1 h2=> .func fn f c f' c' (LRel.mono hs h1) (LRel.mono hs h2)
 |_,_,.niliface=> .niliface
 |_,_,.iface t v v' h=> .iface t v v' (VRel.mono hs h)
 |_,_,.agg l l' h=> .agg l l' (LRel.mono hs h)
 |_,_,.tuple l l' h=> .tuple l l' (LRel.mono hs h)
 |_,_,.symi k i=>by rw [<-hs.sig];exact .symi k i
 |_,_,.symb i=>by rw [<-hs.sig];exact .symb i
 |_,_,.syms i=>by rw [<-hs.sig];exact .syms i
 |_,_,.row i X ao cap h1 h2 h3=> .row i X ao cap (by rw [hs.sig];exact h1) h2 h3
 |_,_,.rptr i ix j m X h1 h2 h3=> .rptr i ix j m X (by rw [hs.sig];exact h1) (by rw [hs.sig];exact h2) h3
 |_,_,.yield b L h=> .yield b L (hs _ _ h)
 |_,_,.junk v h=> .junk v h
 |_,_,.geq n m h=> .geq n m h
 |_,_,.lsl b z ap off n o m cap ao h1 h2 h3 h4 h5=> .lsl b z ap off n o m cap ao (by rw [hs.sig];exact h1) (by rw [hs.sig];exact h2) h3 h4 (fun hp=>let ⟨L,k1,k2,k3⟩:=h5 hp;⟨L,hs _ _ k1,k2,k3⟩)
 |_,_,.lptr b z ix j m L h1 h2 h3 h4=> .lptr b z ix j m L (hs _ _ h1) (by rw [hs.sig];exact h2) h3 h4
 |_,_,.crow i X ao h1 h2=> .crow i X ao (by rw [hs.sig];exact h1) h2
theorem LRel.mono {g g':Inj} (hs:Sub g g'): ∀{a:List AVal} {v:List Value},LRel g a v->LRel g' a v
 |_,_,.nil=> .nil
 |_,_,.cons a v l m h h'=> .cons a v l m (VRel.mono hs h) (LRel.mono hs h')
end
mutual
theorem VRel.back' {g g':Inj} (hs:Sub g g'): ∀{a:AVal} {v u:Value},VRel g a v->VRel g' a u->VRel g a u
 |_,_,_,.bool b,.bool _=> .bool b
 |_,_,_,.int k n,.int _ _=> .int k n
 |_,_,_,.float k n,.float _ _=> .float k n
 |_,_,_,.str s,.str _=> .str s
 |_,_,_,.nilptr,.nilptr=> .nilptr
 |_,_,_,.ptr b off L h,.ptr _ _ M h'=>by
   have:M=L:=by have:=hs _ _ h;rw [this] at h';exact (Option.some.inj h').symm
   subst this;exact .ptr b off M h
 |_,_,_,.nilslice,.nilslice=> .nilslice
 |_,_,_,.slice b off len cap ex _ _ L h _ _ _,.slice _ _ _ _ _ o'' cap'' M h' h0' h1' h2'=>by
   have:M=L:=by have:=hs _ _ h;rw [this] at h';exact (Option.some.inj h').symm
   subst this;exact .slice b off len cap ex o'' cap'' M h h0' h1' h2'
 |_,_,_,.nilmap,.nilmap=> .nilmap
 |_,_,_,.map b L h,.map _ M h'=>by
   have:M=L:=by have:=hs _ _ h;rw [this] at h';exact (Option.some.inj h').symm
   subst this;exact .map b M h
 |_,_,_,.nilfunc,.nilfunc=> .nilfunc
 |_,_,_,.func fn f c _ _ h1 h2,.func _ _ _ f'' c'' h1' h2'=> .func fn f c f'' c'' (LRel.back hs h1 h1') (LRel.back hs h2 h2')
 |_,_,_,.niliface,.niliface=> .niliface
 |_,_,_,.iface t v _ h,.iface _ _ u h'=> .iface t v u (VRel.back' hs h h')
 |_,_,_,.agg l _ h,.agg _ l'' h'=> .agg l l'' (LRel.back hs h h')
 |_,_,_,.tuple l _ h,.tuple _ l'' h'=> .tuple l l'' (LRel.back hs h h')
 |_,_,_,.symi k i,h'=>by cases h';rw [hs.sig];exact .symi k i
 |_,_,_,.symb i,h'=>by cases h';rw [hs.sig];exact .symb i
 |_,_,_,.syms i,h'=>by cases h';rw [hs.sig];exact .syms i
 |_,_,_,.row i _ _ _ _ _ _,h'=>by cases h' with|row _ X ao cap h1 h2 h3=>exact .row i X ao cap (by rw [<-hs.sig];exact h1) h2 h3
 |_,_,_,.rptr i ix j _ _ _ _ _,h'=>by cases h' with|rptr _ _ _ m X h1 h2 h3=>exact .rptr i ix j m X (by rw [<-hs.sig];exact h1) (by rw [<-hs.sig];exact h2) h3
 |_,_,_,.yield b L h,h'=>by
   cases h' with
   |yield _ M h2=>
    have:M=L:=by have:=hs _ _ h;rw [this] at h2;cases h2;rfl
    subst this;exact .yield b M h
 |_,_,_,.junk _ _,h'=>by cases h' with|junk _ h2=>exact .junk _ h2
 |_,_,_,.geq _ _ _,h'=>by cases h' with|geq _ m h2=>exact .geq _ m h2
 |_,_,_,.lsl b z ap off n o m cap ao h1 h2 h3 h4 h5,h'=>by
   cases h' with
   |lsl _ _ _ _ _ o' m' cap' ao' k1 k2 k3 k4 k5=>
    rw [hs.sig] at k1 k2;have e2:m'=m:=by rw [h2] at k2;cases k2;rfl
    subst e2;refine .lsl b z ap off n o' _ cap' ao' k1 k2 k3 k4 fun hp=> ?_;obtain ⟨L,a1,a2,a3⟩:=h5 hp;obtain ⟨M,b1,b2,b3⟩:=k5 hp;have:=hs _ _ a1;rw [this] at b1;cases b1;exact ⟨_,a1,b2,b3⟩
 |_,_,_,.lptr b z ix j m L h1 h2 h3 h4,h'=>by
   cases h' with
   |lptr _ _ _ _ m' M k1 k2 k3 k4=>
    have:=hs _ _ h1;rw [this] at k1;cases k1;rw [hs.sig] at k2;exact .lptr b z ix j m' _ h1 k2 k3 k4
 |_,_,_,.crow i _ _ _ _,h'=>by cases h' with|crow _ X ao h1 h2=>exact .crow i X ao (by rw [<-hs.sig];exact h1) h2
theorem LRel.back {g g':Inj} (hs:Sub g g'): ∀{a:List AVal} {v u:List Value},LRel g a v->LRel g' a u->LRel g a u
 |_,_,_,.nil,.nil=> .nil
 |_,_,_,.cons a _ l _ h k,.cons _ v' _ m' h' k'=> .cons a v' l m' (VRel.back' hs h h') (LRel.back hs k k')
end
theorem Qn {g:Inj} {a:AVal} {v:Value}:VRel g (den g.sig a) v↔VRel g a v:=by
 cases a<;>first
  |exact Iff.rfl
  |(constructor<;>(intro h;cases h;constructor))
theorem LRel.dens {g:Inj}: ∀{l:List AVal} {m:List Value},LRel g l m->LRel g (l.map (den g.sig)) m
 |_,_,.nil=> .nil
 |_,_,.cons _ v _ m h h'=> .cons _ v _ m (Qn.2 h) (LRel.dens h')
theorem Qcp {ng:Cx} {g:Inj} {d:SDef} {r:AVal} (hg:ng.Good g.sig) (h:symS ng d=some r): ∃q,Qb g.sig d=some q/\ ∀v,VRel g q v->VRel g r v:=by
 unfold symS at h;split at h;rename_i i hi;refine ⟨_,hg.look d i hi,fun v hv=> ?_⟩;have hv':=Qn.1 hv;split at h;rename_i j hj;split at h;rename_i b hb;cases h;rw [hj] at hv';cases hv';rw [hg.fact j b hb];exact .bool b;cases h;rw [<-hj];exact hv';rename_i k j hj;split at h;rename_i n hn;cases h;rw [hj] at hv';cases hv';rw [hg.num j n hn];exact .int k n;cases h;rw [<-hj];exact hv';cases h;exact hv';cases h
theorem LRel.length {g:Inj}: ∀{a:List AVal} {v:List Value},LRel g a v->a.length=v.length
 |_,_,.nil=>rfl
 |_,_,.cons _ _ _ _ _ h=>by simp [LRel.length h]
theorem LRel.get {g:Inj}: ∀{l:List AVal} {m:List Value},LRel g l m-> ∀(i:Nat) (a:AVal),l[i]? =some a-> ∃v,m[i]? =some v/\VRel g a v
 |_,_,.cons a v l m h _,0,b,hb=>by simp at hb;subst hb;exact ⟨v,by simp,h⟩
 |_,_,.cons a v l m _ h,i+1,b,hb=>by
  obtain ⟨u,h1,h2⟩:=LRel.get h i b (by simpa using hb);exact ⟨u,by simpa using h1,h2⟩
theorem LRel.of_get {g:Inj}: ∀{l:List AVal} {m:List Value},l.length=m.length->(∀(i:Nat) (a:AVal),l[i]? =some a-> ∃v,m[i]? =some v/\VRel g a v)->LRel g l m
 |[],[],_,_=> .nil
 |a::l,v::m,hl,h=>by
  obtain ⟨u,h1,h2⟩:=h 0 a (by simp);simp at h1;subst h1;exact .cons a v l m h2 (LRel.of_get (by simpa using hl) fun i b hb=>by simpa using h (i+1) b (by simpa using hb))
theorem LRel.append {g:Inj}: ∀{l:List AVal} {m:List Value} {l':List AVal} {m':List Value},LRel g l m->LRel g l' m'->LRel g (l++l') (m++m')
 |_,_,_,_,.nil,h=>h
 |_,_,_,_,.cons a v l m h k,h'=> .cons a v _ _ h (LRel.append k h')
theorem LRel.drop {g:Inj}: ∀{l:List AVal} {m:List Value},LRel g l m-> ∀n,LRel g (l.drop n) (m.drop n)
 |_,_,h,0=>by simpa using h
 |_,_,.nil,n+1=>by simpa using LRel.nil
 |_,_,.cons _ _ _ _ _ h,n+1=>by simpa using LRel.drop h n
theorem LRel.take {g:Inj}: ∀{l:List AVal} {m:List Value},LRel g l m-> ∀n,LRel g (l.take n) (m.take n)
 |_,_,_,0=>by simpa using LRel.nil
 |_,_,.nil,n+1=>by simpa using LRel.nil
 |_,_,.cons a v _ _ h k,n+1=>by simpa using LRel.cons a v _ _ h (LRel.take k n)
theorem VRel.cells {g:Inj} {a:AVal} {v:Value} (h:VRel g a v):LRel g (Q6 a) v.cells.toList:=by
 cases h<;>first
  |(rename_i hj;cases v<;>first|exact .cons _ _ _ _ (.junk _ hj) .nil|(simp [Value.oneCell'] at hj))
  |(rename_i h;simpa [Q6,Value.cells] using h)
  |(simp only [Q6,Value.cells];refine .cons _ _ _ _ ?_ .nil;constructor<;>assumption)
theorem VRel.scalar {g:Inj} {a:AVal} {v:Value} (h:VRel g a v) (hs:scalar a=true):v.oneCell'=true:=by
 cases h<;>first|rfl|assumption|(simp [Ev.scalar] at hs)
theorem Qwu {v:Value} {a:AVal} (h:ofV0 v=some a) (g:Inj):VRel g a v:=by
 unfold ofV0 at h;split at h<;>first|(injection h with h;subst h;constructor)|cases h
 all_goals constructor
theorem Qwv: ∀{l:List Value} {r:List AVal},ofVL l=some r-> ∀(g:Inj),LRel g r l
 |[],r,h,g=>by simp [ofVL] at h;subst h;exact .nil
 |v::l,r,h,g=>by
  simp only [ofVL] at h;cases h0:ofV0 v with
  |none=>simp [h0] at h
  |some a=>
   cases h1:ofVL l with
   |none=>simp [h0,h1] at h
   |some s=>
    simp [h0,h1] at h;subst h;exact .cons _ _ _ _ (Qwu h0 g) (Qwv h1 g)
theorem Q62 {v:Value} {a:AVal} (h:ofV v=some a) (g:Inj):VRel g a v:=by
 unfold ofV at h;split at h;split at h;rename_i hl;cases h;exact .agg _ _ (Qwv hl g);cases h;split at h;rename_i hl;cases h;exact .tuple _ _ (Qwv hl g);cases h;split at h;rename_i hl;cases h;exact .iface _ _ _ (Qwu hl g);cases h;exact Qwu h g
def Live (H:List Blk) (i:Nat):Prop:= ∃k,H[i]? =some k/\k≠.gone
def CRel (g:Inj) (c:List AVal) (C:Array Value) (d:Nat):Prop:=
 ∀i a,c[i]? =some a-> ∃v,C[d+i]? =some v/\VRel g a v/\v.oneCell'=true
inductive MRel (g:Inj):List (AVal×AVal)->List MapEntry->Prop
 |nil:MRel g [] []
 |cons (k v:AVal) (e:MapEntry) (l:List (AVal×AVal)) (m:List MapEntry):VRel g k e.key->VRel g v e.val->MRel g l m->MRel g ((k,v)::l) (e::m)
theorem MRel.mono {g g':Inj} (hs:Sub g g'): ∀{l:List (AVal×AVal)} {m:List MapEntry},MRel g l m->MRel g' l m
 |_,_,.nil=> .nil
 |_,_,.cons k v e l m h1 h2 h=> .cons k v e l m (h1.mono hs) (h2.mono hs) (MRel.mono hs h)
theorem MRel.back {g g':Inj} (hs:Sub g g'): ∀{l:List (AVal×AVal)} {m m':List MapEntry},MRel g l m->MRel g' l m'->MRel g l m'
 |_,_,_,.nil,.nil=> .nil
 |_,_,_,.cons k v _ l _ h1 h2 h,.cons _ _ e _ m' h1' h2' h'=> .cons k v e l m' (VRel.back' hs h1 h1') (VRel.back' hs h2 h2') (MRel.back hs h h')
theorem MRel.snoc {g:Inj} {k v:AVal} {e:MapEntry} (h1:VRel g k e.key) (h2:VRel g v e.val): ∀{l:List (AVal×AVal)} {m:List MapEntry},MRel g l m->MRel g (l++[(k,v)]) (m++[e])
 |_,_,.nil=> .cons k v e [] [] h1 h2 .nil
 |_,_,.cons k' v' e' l m h1' h2' h=> .cons k' v' e' _ _ h1' h2' (MRel.snoc h1 h2 h)
def Qlb (g:Inj) (t:Tm) (tmps:Array Value):Prop:=
 t.len<=tmps.size/\ ∀(i:Nat) (v:AVal),t.get i=some v-> ∃u,tmps[i]? =some u/\VRel g v u
theorem Qlb.mono {g g':Inj} {t:Tm} {a:Array Value} (hs:Sub g g') (h:Qlb g t a):Qlb g' t a:=
 ⟨h.1,fun i v hi=>let ⟨u,h1,h2⟩:=h.2 i v hi;⟨u,h1,h2.mono hs⟩⟩
structure FrOk (fr:Nat×Nat) (C:Array Value):Prop where
 not: ∀k,k<C.size-> ¬(fr.1<=k/\k<fr.2)
 eq:fr.1=fr.2\/C.size<=fr.1
 one: ∀v,v∈C.toList->v.oneCell'=true
structure FrOkL (cl:List (Option IntKind)) (fr:Nat×Nat) (C:Array Value):Prop extends FrOk fr C where
 un:cl.length=1\/fr.1=fr.2
theorem FrOk.zero {C:Array Value} (h: ∀v,v∈C.toList->v.oneCell'=true):FrOk (0,0) C:=⟨fun k _ h=>by have:=h.2;simp at this,.inl rfl,h⟩
theorem FrOk.behind {C:Array Value} (h: ∀v,v∈C.toList->v.oneCell'=true):FrOk (C.size,C.size+1) C:=⟨fun k hk h=>by have:=h.1;simp at this;omega,.inr (Nat.le_refl _),h⟩
theorem FrOk.freeze {lo hi:Nat} {C:Array Value} (h:FrOk (lo,hi) C):FrOk (if lo==hi then (C.size,C.size+1) else (min lo C.size,max hi (C.size+1))) C:=by
 split;exact FrOk.behind h.one;rename_i hne;rcases h.eq with h2|h2
 simp only at h2;subst h2;simp at hne;simp only at h2;rw [Nat.min_eq_right h2];exact ⟨fun k hk h=>by have:=h.1;simp at this;omega,.inr (Nat.le_refl _),h.one⟩
def BRel (g:Inj) (w:World) (k:Blk) (L:Loc):Prop:=
 match k with
 |.gone=>True
 |.map l=> ∃es cl es',w.heap[L.blk]? =some (.map es cl)/\es.toList.Perm es'/\MRel g l es'/\(es.toList.map (·.born)).Nodup/\ ∀e∈es.toList,e.born<cl
 |.iter x l cur=> ∃(X:Fm) (seen:Array Nat) (es':List MapEntry),L.dl=0/\g.mp x=some X/\w.heap[L.blk]? =some (.mapIter (some X.blk) X.cl seen X.cl)/\(leftOf X.es seen).toList.Perm es'/\MRel g l es'/\
   ∀k v,cur=some (k,v)-> ∃(e:MapEntry) (s0:Array Nat),e∈X.es.toList/\seen=s0.push e.born/\VRel g k e.key/\VRel g v e.val
 |.loop l=> ∃r:Loop,w.heap[L.blk]? =some (.loop r)/\r.state=l.st/\r.pending=l.pend/\Qlb g l.t r.tmps/\r.params=l.params/\r.assign=l.assign/\r.body=l.body/\ ∃D,g l.dfr=some D/\r.defers=D.blk
 |.dfr=>w.heap[L.blk]? =some (.deferred (some []))
 |.cells c e=> ∃C fr,w.heap[L.blk]? =some (.cells C e fr)/\C.size=L.dl+L.n/\FrOk fr C/\c.length<=L.n/\CRel g c C L.dl
 |.lst s n cl e=> ∃(S:ByteArray) (N:Nat) (C:Array Value) (fr:Nat×Nat) (e':TypeId),den g.sig s=.str S/\den g.sig n=.int .i64 (N:Int)/\S.data.toList.length=N*rsz cl/\w.heap[L.blk]? =some (.cells C e' fr)/\C.size=L.dl+L.n/\((e≠0->e'=e/\FrOkL cl fr C/\ ∀i X,1000<=i->g.sig.ext i=some X->X.blk≠L.blk)/\ ∀i X,1000<=i->g.sig.ext i=some X->X.blk=L.blk->w.heap[L.blk]? =X.obj)/\N*cl.length<=L.n/\
   ∀m j,m<N->j<cl.length-> ∃v,C[L.dl+m*cl.length+j]? =some v/\VRel g (Qm cl S m j) v/\v.oneCell'=true
def Qce (g:Inj) (k:Blk):Prop:= ∃s n cl e,k=.lst s n cl e/\den g.sig s=.str .empty/\den g.sig n=.int .i64 0
theorem Qce.mono {g g':Inj} {k:Blk} (hs:g'.sig=g.sig) (h:Qce g k):Qce g' k:=by
 obtain ⟨s,n,cl,e,h1,h2,h3⟩:=h;exact ⟨s,n,cl,e,h1,by rw [hs];exact h2,by rw [hs];exact h3⟩
def Qf5:Blk->Bool
 |.lst _ _ _ _=>true
 |_=>false
theorem Qce.lst {g:Inj} {k:Blk} (h:Qce g k):Qf5 k=true:=by
 obtain ⟨s,n,cl,e,rfl,_⟩:=h;rfl
def FzOk (X:Fz) (w:World):Prop:=
 ∃C e fr,w.heap[X.blk]? =some (.cells C e fr)/\
  (∀m j,m<X.len->j<X.z-> ∃v,C[X.off+m*X.z+j]? =some v/\(∀g,VRel g (X.val m j) v)/\v.oneCell'=true)/\ ∀o,X.obj=some o->w.heap[X.blk]? =some o
theorem FzOk.of_same {X:Fz} {w w':World} (h:FzOk X w) (hb:w'.heap[X.blk]? =w.heap[X.blk]?):FzOk X w':=by
 obtain ⟨C,e,fr,h1,h2,h3⟩:=h;exact ⟨C,e,fr,by rw [hb];exact h1,h2,by rw [hb];exact h3⟩
theorem FzOk.lt {X:Fz} {w:World} (h:FzOk X w):X.blk<w.heap.size:=by
 obtain ⟨C,e,fr,h1,h2⟩:=h;exact (Array.getElem?_eq_some_iff.1 h1).1
def FmOk (X:Fm) (w:World):Prop:=
 w.heap[X.blk]? =some (.map X.es X.cl)/\(X.es.toList.map (·.born)).Nodup/\ ∀e∈X.es.toList,e.born<X.cl
theorem FmOk.of_same {X:Fm} {w w':World} (h:FmOk X w) (hb:w'.heap[X.blk]? =w.heap[X.blk]?):FmOk X w':=⟨by rw [hb];exact h.1,h.2⟩
theorem FmOk.lt {X:Fm} {w:World} (h:FmOk X w):X.blk<w.heap.size:=(Array.getElem?_eq_some_iff.1 h.1).1
structure Frz (g:Inj) (H:List Blk) (w:World):Prop where
 row: ∀i X,g.sig.ext i=some X->0<X.len->FzOk X w/\ ∀j L,g j=some L->Live H j->L.blk≠X.blk
 mp: ∀i X,g.mp i=some X->i<H.length/\FmOk X w/\ ∀j L,g j=some L->Live H j->L.blk≠X.blk
 top: ∀i X,1000<=i->g.sig.ext i=some X->X.blk<w.heap.size
theorem Frz.to {g g':Inj} {H H':List Blk} {w w':World} (h:Frz g H w) (hs:g'.sig=g.sig) (hm:g'.mp=g.mp) (hl:H.length<=H'.length) (hsz:w.heap.size<=w'.heap.size)
  (hb: ∀b,b<w.heap.size->(∀j L,g j=some L->Live H j->L.blk≠b)->w'.heap[b]? =w.heap[b]?/\ ∀j L,g' j=some L->Live H' j->L.blk≠b):Frz g' H' w':=by
 constructor;intro i X hi hX;rw [hs] at hi;obtain ⟨h1,h2⟩:=h.row i X hi hX;obtain ⟨h3,h4⟩:=hb X.blk h1.lt h2;exact ⟨h1.of_same h3,h4⟩;intro i X hi;rw [hm] at hi;obtain ⟨h0,h1,h2⟩:=h.mp i X hi;obtain ⟨h3,h4⟩:=hb X.blk h1.lt h2;exact ⟨Nat.lt_of_lt_of_le h0 hl,h1.of_same h3,h4⟩;intro i X hi hX;rw [hs] at hX;exact Nat.lt_of_lt_of_le (h.top i X hi hX) hsz
structure HRel (ng:Cx) (g:Inj) (H:List Blk) (w:World):Prop where
 dom: ∀i L,g i=some L->i<H.length/\L.blk<w.heap.size
 inj: ∀i j L M,g i=some L->g j=some M->L.blk=M.blk->Live H i->Live H j->i=j
 blk0: ∀i k,H[i]? =some k->k≠.gone->Qce g k\/ ∃L,g i=some L/\BRel g w k L
 glob: ∀i,i<ng.n-> ∃L,g i=some L/\L.blk=i/\L.dl=0
 sig:ng.Good g.sig
 frz:Frz g H w
theorem HRel.blk {ng:Cx} {g:Inj} {H:List Blk} {w:World} (h:HRel ng g H w) (i:Nat) (k:Blk) (hi:H[i]? =some k) (hk:k≠.gone) (hn:Qf5 k=false:=by rfl): ∃L,g i=some L/\BRel g w k L:=by
 rcases h.blk0 i k hi hk with h1|h1;rw [h1.lst] at hn;cases hn;exact h1
structure Ext (g:Inj) (H:List Blk) (w:World) (g':Inj) (H':List Blk) (w':World):Prop where
 sub:Sub g g'
 new: ∀i L,g' i=some L->g i=none->H.length<=i/\(w.heap.size<=L.blk\/ ∃j M,g j=some M/\M.blk=L.blk/\Live H j)
 newm: ∀i X,g'.mp i=some X->g.mp i=none->H.length<=i/\(w.heap.size<=X.blk\/ ∃j M,g j=some M/\M.blk=X.blk/\Live H j)
 len:H.length<=H'.length
 live: ∀i,i<H.length->Live H' i->Live H i
 size:w.heap.size<=w'.heap.size
 frame: ∀b,b<w.heap.size->(∀i L,g i=some L->Live H i->L.blk≠b)->w'.heap[b]? =w.heap[b]?
 os:w'.os=w.os
 tape:w'.tape=w.tape
 output:w'.output=w.output
theorem Ext.refl (g:Inj) (H:List Blk) (w:World):Ext g H w g H w where
 sub:=Sub.refl g
 new:=fun i L h h'=>by rw [h] at h';cases h'
 newm:=fun i L h h'=>by rw [h] at h';cases h'
 len:=Nat.le_refl _
 live:=fun _ _ h=>h
 size:=Nat.le_refl _
 frame:=fun _ _ _=>rfl
 os:=rfl
 tape:=rfl
 output:=rfl
theorem Ext.trans {ng:Cx} {g g' g'':Inj} {H H' H'':List Blk} {w w' w'':World} (h0:HRel ng g H w) (h:Ext g H w g' H' w') (h':Ext g' H' w' g'' H'' w''):Ext g H w g'' H'' w'' where
 sub:=h.sub.trans h'.sub
 new:=by
  intro i L hi hn;cases hg:g' i with
  |some M=>
   have:=h'.sub i M hg;rw [this] at hi;cases hi;exact h.new i _ hg hn
  |none=>
   obtain ⟨hl,hb⟩:=h'.new i L hi hg;refine ⟨Nat.le_trans h.len hl,?_⟩;rcases hb with hb|⟨j,M,hj,hM,hlive⟩;exact .inl (Nat.le_trans h.size hb);cases hgj:g j with
   |some N=>
    have:=h.sub j N hgj;rw [this] at hj;cases hj;exact .inr ⟨j,_,hgj,hM,h.live j (h0.dom j _ hgj).1 hlive⟩
   |none=>
    obtain ⟨_,hb⟩:=h.new j M hj hgj;rw [<-hM];exact hb
 newm:=by
  intro i X hi hn;cases hg:g'.mp i with
  |some Y=>
   have:=h'.sub.mp i Y hg;rw [this] at hi;cases hi;exact h.newm i _ hg hn
  |none=>
   obtain ⟨hl,hb⟩:=h'.newm i X hi hg;refine ⟨Nat.le_trans h.len hl,?_⟩;rcases hb with hb|⟨j,M,hj,hM,hlive⟩;exact .inl (Nat.le_trans h.size hb);cases hgj:g j with
   |some N=>
    have:=h.sub j N hgj;rw [this] at hj;cases hj;exact .inr ⟨j,_,hgj,hM,h.live j (h0.dom j _ hgj).1 hlive⟩
   |none=>
    obtain ⟨_,hb⟩:=h.new j M hj hgj;rw [<-hM];exact hb
 len:=Nat.le_trans h.len h'.len
 live:=fun i hi hl=>h.live i hi (h'.live i (Nat.lt_of_lt_of_le hi h.len) hl)
 size:=Nat.le_trans h.size h'.size
 frame:=by
  intro b hb hno;have h1:=h.frame b hb hno;refine (h'.frame b (Nat.lt_of_lt_of_le hb h.size) ?_).trans h1;intro i L hi hl he;cases hg:g i with
  |some M=>
   have:=h.sub i M hg;rw [this] at hi;cases hi;exact hno i _ hg (h.live i (h0.dom i _ hg).1 hl) he
  |none=>
   obtain ⟨_,hb'⟩:=h.new i L hi hg;rcases hb' with hb'|⟨j,M,hj,hM,hlive⟩;omega;exact hno j M hj hlive (hM.trans he)
 os:=h'.os.trans h.os
 tape:=h'.tape.trans h.tape
 output:=h'.output.trans h.output
theorem BRel.mono {g g':Inj} {w:World} {k:Blk} {L:Loc} (hs:Sub g g') (h:BRel g w k L):BRel g' w k L:=by
 cases k with
 |gone=>trivial
 |map l=>
  obtain ⟨es,cl,es',h1,h2,h3,h4⟩:=h;exact ⟨es,cl,es',h1,h2,h3.mono hs,h4⟩
 |iter x l cur=>
  obtain ⟨X,seen,es',hd,h0,h1,h2,h3,h4⟩:=h;refine ⟨X,seen,es',hd,hs.mp _ _ h0,h1,h2,h3.mono hs,fun k v e=> ?_⟩;obtain ⟨e,s0,k1,k2,k3,k4⟩:=h4 k v e;exact ⟨e,s0,k1,k2,k3.mono hs,k4.mono hs⟩
 |loop l=>
  obtain ⟨r,h1,h2,h3,h4,h5,h6,h7,D,h8,h9⟩:=h;exact ⟨r,h1,h2,h3,h4.mono hs,h5,h6,h7,D,hs _ _ h8,h9⟩
 |dfr=>exact h
 |cells c e=>
  obtain ⟨C,fr,h1,h2,h4,h5,h6⟩:=h;exact ⟨C,fr,h1,h2,h4,h5,fun i a hi=>let ⟨v,a1,a2,a3⟩:=h6 i a hi;⟨v,a1,a2.mono hs,a3⟩⟩
 |lst s n cl e=>
  obtain ⟨S,N,C,fr,e',h1,h2,h3,h4,h5,h6,h7,h8⟩:=h;exact ⟨S,N,C,fr,e',by rw [hs.sig];exact h1,by rw [hs.sig];exact h2,h3,h4,h5,by rw [hs.sig];exact h6,h7,fun m j hm hj=>let ⟨v,a1,a2,a3⟩:=h8 m j hm hj;⟨v,a1,a2.mono hs,a3⟩⟩
theorem BRel.of_same {g:Inj} {w w':World} {k:Blk} {L:Loc} (hb:w'.heap[L.blk]? =w.heap[L.blk]?) (h:BRel g w k L):BRel g w' k L:=by
 cases k with
 |gone=>trivial
 |map l=>simpa only [BRel,hb] using h
 |cells c e=>simpa only [BRel,hb] using h
 |loop l=>simpa only [BRel,hb] using h
 |dfr=>simpa only [BRel,hb] using h
 |iter x l cur=>simpa only [BRel,hb] using h
 |lst s n cl e=>simpa only [BRel,hb] using h
def TRel (g:Inj) (t:Tm) (a:Act):Prop:=Qlb g t a.tmps
theorem TRel.mono {g g':Inj} {t:Tm} {a:Act} (hs:Sub g g') (h:TRel g t a):TRel g' t a:=
 ⟨h.1,fun i v hi=>let ⟨u,h1,h2⟩:=h.2 i v hi;⟨u,h1,h2.mono hs⟩⟩
theorem Qjk {g:Inj} {ng:Cx} (hg:ng.Good g.sig) {a:AVal} {v:Value} (h:VRel g a v):VRel g (Qch ng a) v:=by
 unfold Qch;split;rename_i j;split;rename_i b hb;cases h;rw [hg.fact j b hb];exact .bool b;exact h;rename_i k j;split;rename_i n hn;cases h;rw [hg.num j n hn];exact .int k n;exact h;exact h
theorem TRel.eval {g:Inj} {ng:Cx} {t:Tm} {a:Act} (h:TRel g t a) (hs:ng.Good g.sig) (hG: ∀i,i<ng.n-> ∃L,g i=some L/\L.blk=i/\L.dl=0) {x:Operand} {v:AVal} (hv:ev ng t x=some v):
  VRel g v (a.eval x):=by
 cases x with
 |tmp i=>
  simp only [ev] at hv;split at hv;rename_i b hb;cases hv;obtain ⟨u,h1,h2⟩:=h.2 i b hb;have:=Qjk hs h2;simpa [Act.eval,h1] using this;cases hv
 |const c=>exact Q62 hv g
 |global j=>
  simp only [ev] at hv;split at hv;rename_i hj;cases hv;obtain ⟨L,h1,h2,h3⟩:=hG j hj;have:=VRel.ptr j 0 L h1;simpa [Act.eval,h2,h3] using this;cases hv
 |func f=>
  simp only [ev] at hv;cases hv;exact .func _ _ _ _ _ .nil .nil
end Go.Ev
namespace Go.Ev
def aggT (P:Program) (t:TypeId):Bool:=
 match P.underlying t with
 |some (.struct _)=>true
 |some (.array _ _)=>true
 |_=>false
def seg (l:List AVal) (off n:Nat):Option (List AVal):=
 if off+n<=l.length then some ((l.drop off).take n) else none
def Qbt (P:Program) (t:TypeId) (cs:List AVal) (off:Nat):Option AVal:=
 match aggT P t with
 |true=>match seg cs off (P.cellsOf t) with
  |some l=>some (.agg l)
  |none=>none
 |false=>cs[off]?
def eqFs (part:TypeId->List AVal->Nat->Option AVal) (eq:TypeId->AVal->AVal->Option Bool) (xs ys:List AVal):List Field->Option Bool
 |[]=>some true
 |f::fs=>
  if f.name≠ "_" then
   match part f.type xs f.offset,part f.type ys f.offset with
   |some a,some b=>match eq f.type a b,eqFs part eq xs ys fs with
    |some r,some s=>some (r&&s)
    |_,_=>none
   |_,_=>none
  else eqFs part eq xs ys fs
def eqIs (part:TypeId->List AVal->Nat->Option AVal) (eq:TypeId->AVal->AVal->Option Bool) (e:TypeId) (c:Nat) (xs ys:List AVal):List Nat->Option Bool
 |[]=>some true
 |i::is=>match part e xs (i*c),part e ys (i*c) with
   |some a,some b=>match eq e a b,eqIs part eq e c xs ys is with
    |some r,some s=>some (r&&s)
    |_,_=>none
   |_,_=>none
def eqA (P:Program):Nat->TypeId->AVal->AVal->Option Bool
 |0,_,_,_=>none
 |d+1,t,x,y=>
  match P.underlying t,x,y with
  |some .bool,.bool a,.bool b=>some (a==b)
  |some (.int _),.int k a,.int k' b=>if k=k' then some (a==b) else none
  |some .string,.str a,.str b=>some (a.toList==b.toList)
  |some (.struct fs),.agg xs,.agg ys=>if P.stoodInHeld t=false then eqFs (Qbt P) (eqA P d) xs ys fs.toList else none
  |some (.array n e),.agg xs,.agg ys=>match P.info? e with
   |some _=>eqIs (Qbt P) (eqA P d) e (P.cellsOf e) xs ys (List.range n)
   |none=>none
  |some (.pointer _),.nilptr,.nilptr=>some true
  |some (.pointer _),.nilptr,.ptr _ _=>some false
  |some (.pointer _),.ptr _ _,.nilptr=>some false
  |some (.pointer e),.ptr a i,.ptr b j=>match P.info? e with
   |some inf=>if inf.size≠0/\a=b then some (i==j) else none
   |none=>none
  |some (.slice _),.nilslice,.nilslice=>some true
  |some (.slice _),.nilslice,.slice _ _ _ _ _=>some false
  |some (.slice _),.slice _ _ _ _ _,.nilslice=>some false
  |some (.map _ _),.nilmap,.nilmap=>some true
  |some (.map _ _),.nilmap,.map _=>some false
  |some (.map _ _),.map _,.nilmap=>some false
  |some (.func _ _ _),.nilfunc,.nilfunc=>some true
  |some (.func _ _ _),.nilfunc,.func _ _ _=>some false
  |some (.func _ _ _),.func _ _ _,.nilfunc=>some false
  |some (.interface _),.niliface,.niliface=>some true
  |some (.interface _),.niliface,.iface _ _=>some false
  |some (.interface _),.iface _ _,.niliface=>some false
  |some (.interface _),.iface t v,.iface u x=>if t≠u then some false else match P.info? t with
   |some inf=>if inf.comparable=true then eqA P d t v x else none
   |none=>none
  |_,_,_=>none
theorem Qbaa (b d i j:Nat):(({block:=b,off:=d+i}:Addr)=={block:=b,off:=d+j})=(i==j):=by
 rw [Bool.eq_iff_iff];simp
theorem Qbg {P:Program} (w:World) {e:TypeId} {i:TypeInfo} (h:P.info? e=some i):(sizeOf e).run P w=.ok i.size w:=by
 simp [sizeOf,typeInfo,h]
theorem Qeb {P:Program} {e:TypeId} {i:TypeInfo} (h:P.info? e=some i):P.cellsOf e=i.size:=by simp [Program.cellsOf,h]
theorem Qme {P:Program} {t:TypeId} {d:TypeDesc} (h:P.underlying t=some d): ∃i,P.info? t=some i:=by
 unfold Program.underlying at h;cases hi:P.info? t with
 |none=>simp [hi] at h
 |some i=>exact ⟨i,rfl⟩
theorem Qir {P:Program} (w:World) {t:TypeId} {d:TypeDesc} (h:P.underlying t=some d):(isAgg t).run P w=.ok (aggT P t) w:=by
 simp only [isAgg,Sem.run_bind,run_underlying h,Result.andThen_ok,aggT,h];cases d<;>simp
theorem Qbnd {g:Inj} {l:List AVal} {m:List Value} {off n:Nat} {r:List AVal} (h:seg l off n=some r) (hr:LRel g l m):off+n<=m.length/\LRel g r ((m.drop off).take n)/\r.length=n:=by
 unfold seg at h;split at h;rename_i hle;cases h;exact ⟨by rw [<-hr.length];exact hle,(hr.drop off).take n,by simp;omega⟩;cases h
theorem Qis {P:Program} {g:Inj} (w:World) {t:TypeId} {cs:List AVal} {C:Array Value} {off:Nat} {a:AVal} (ht: ∃d,P.underlying t=some d)
  (h:Qbt P t cs off=some a) (hr:LRel g cs C.toList): ∃v,(part t C off).run P w=.ok v w/\VRel g a v:=by
 obtain ⟨d,hd⟩:=ht;obtain ⟨i,hi⟩:=Qme hd;unfold Qbt at h;unfold part;simp only [Sem.run_bind,Qir w hd,Result.andThen_ok];split at h;rename_i hagg;split at h;rename_i l hl;cases h;obtain ⟨h1,h2,h3⟩:=Qbnd hl hr;rw [Qeb hi] at h1 h2;refine ⟨.agg (C.extract off (off+i.size)),?_,.agg _ _ ?_⟩;simp [hagg,Qbg w hi];have:(C.extract off (off+i.size)).toList=(C.toList.drop off).take i.size:=by
  simp
 rw [this];exact h2;cases h;rename_i hagg;obtain ⟨v,hv,hrel⟩:=hr.get off a h;refine ⟨v,?_,hrel⟩;simp [hagg,show C[off]? =some v from by simpa using hv]
theorem Qxn {P:Program} {g:Inj} (w:World) (d:Nat) (eq:TypeId->AVal->AVal->Option Bool) (hu: ∀t a b r,eq t a b=some r-> ∃de,P.underlying t=some de)
  (he: ∀t a b r u v,eq t a b=some r->VRel g a u->VRel g b v->(Op.equalIn d t u v).run P w=.ok r w)
  (xs ys:List AVal) (X Y:Array Value) (hx:LRel g xs X.toList) (hy:LRel g ys Y.toList): ∀(fs:List Field) (r:Bool),eqFs (Qbt P) eq xs ys fs=some r->(Op.eqFields d X Y fs).run P w=.ok r w
 |[],r,h=>by simp [eqFs] at h;subst h;simp [Op.eqFields]
 |f::fs,r,h=>by
  simp only [eqFs] at h;simp only [Op.eqFields];by_cases hf:f.name≠ "_";simp only [hf,ne_eq,not_false_eq_true,if_true] at h⊢;split at h;rename_i a b ha hb;split at h;rename_i r1 s1 h1 h2;cases h;obtain ⟨de,hde⟩:=hu _ _ _ _ h1;obtain ⟨u,hu1,hu2⟩:=Qis w ⟨de,hde⟩ ha hx;obtain ⟨v,hv1,hv2⟩:=Qis w ⟨de,hde⟩ hb hy;have h3:=he _ _ _ _ _ _ h1 hu2 hv2;have h4:=Qxn w d eq hu he xs ys X Y hx hy fs s1 h2;simp only [Sem.run_bind,hu1,hv1,h3,Result.andThen_ok,Sem.run_ite,h4];cases r1<;>simp;cases h;cases h;simp only [hf,if_false] at h⊢;exact Qxn w d eq hu he xs ys X Y hx hy fs r h
theorem Q8j {P:Program} {g:Inj} (w:World) (d:Nat) (eq:TypeId->AVal->AVal->Option Bool) (hu: ∀t a b r,eq t a b=some r-> ∃de,P.underlying t=some de)
  (he: ∀t a b r u v,eq t a b=some r->VRel g a u->VRel g b v->(Op.equalIn d t u v).run P w=.ok r w) (e:TypeId) (c:Nat)
  (xs ys:List AVal) (X Y:Array Value) (hx:LRel g xs X.toList) (hy:LRel g ys Y.toList): ∀(is:List Nat) (r:Bool),eqIs (Qbt P) eq e c xs ys is=some r->(Op.eqItems d e c X Y is).run P w=.ok r w
 |[],r,h=>by simp [eqIs] at h;subst h;simp [Op.eqItems]
 |i::is,r,h=>by
  simp only [eqIs] at h;simp only [Op.eqItems];split at h;rename_i a b ha hb;split at h;rename_i r1 s1 h1 h2;cases h;obtain ⟨de,hde⟩:=hu _ _ _ _ h1;obtain ⟨u,hu1,hu2⟩:=Qis w ⟨de,hde⟩ ha hx;obtain ⟨v,hv1,hv2⟩:=Qis w ⟨de,hde⟩ hb hy;have h3:=he _ _ _ _ _ _ h1 hu2 hv2;have h4:=Q8j w d eq hu he e c xs ys X Y hx hy is s1 h2;simp only [Sem.run_bind,hu1,hv1,h3,Result.andThen_ok,Sem.run_ite,h4];cases r1<;>simp;cases h;cases h
theorem Qt9 {P:Program} {d:Nat} {t:TypeId} {a b:AVal} {r:Bool} (h:eqA P d t a b=some r): ∃de,P.underlying t=some de:=by
 cases d with
 |zero=>simp [eqA] at h
 |succ d=>
  unfold eqA at h;cases hu:P.underlying t with
  |none=>simp [hu] at h
  |some de=>exact ⟨de,rfl⟩
theorem Qho {P:Program} {g:Inj} (w:World): ∀(d:Nat) (t:TypeId) (a b:AVal) (r:Bool) (u v:Value),eqA P d t a b=some r->VRel g a u->VRel g b v->(Op.equalIn d t u v).run P w=.ok r w
 |0,_,_,_,_,_,_,h,_,_=>by simp [eqA] at h
 |d+1,t,a,b,r,u,v,h,ha,hb=>by
  obtain ⟨de,hde⟩:=Qt9 h;unfold eqA at h;rw [hde] at h;split at h;rename_i h0;cases h0;cases ha;cases hb;cases h;exact run_equalIn_bool w d t _ _ hde;rename_i h0;cases h0;cases ha;cases hb;split at h;rename_i hk;subst hk;cases h;exact run_equalIn_int w d t _ _ _ _ hde;cases h;rename_i h0;cases h0;cases ha;cases hb;cases h;exact run_equalIn_string w d t _ _ hde;rename_i fs xs ys h0;cases h0;split at h
  ·rename_i hst
   cases ha with
   |agg _ X hX=>
    cases hb with
    |agg _ Y hY=>
     have hf:P.underlying t=some (.struct (P.fieldsOf t)):=by simp [Program.fieldsOf,hde]
     rw [run_equalIn_struct w d t X Y hf hst];have:P.fieldsOf t=fs:=by simp [Program.fieldsOf,hde]
     rw [this];exact Qxn w d (eqA P d) (fun _ _ _ _ h=>Qt9 h) (fun t a b r u v h1 h2 h3=>Qho w d t a b r u v h1 h2 h3) xs ys X Y hX hY fs.toList r h
  cases h;rename_i n e xs ys h0;cases h0;split at h
  ·rename_i inf hinf
   cases ha with
   |agg _ X hX=>
    cases hb with
    |agg _ Y hY=>
     rw [run_equalIn_array w d X Y hde hinf];exact Q8j w d (eqA P d) (fun _ _ _ _ h=>Qt9 h) (fun t a b r u v h1 h2 h3=>Qho w d t a b r u v h1 h2 h3) e _ xs ys X Y hX hY _ r h
  cases h;rename_i h0;cases h0;cases ha;cases hb;cases h;simp [Op.equalIn,run_underlying hde];rename_i h0;cases h0;cases ha;cases hb;cases h;simp [Op.equalIn,run_underlying hde];rename_i h0;cases h0;cases ha;cases hb;cases h;simp [Op.equalIn,run_underlying hde];rename_i e a i b j h0;cases h0;split at h;rename_i inf hinf;split at h
  ·rename_i hc
   obtain ⟨hz,rfl⟩:=hc;cases h;cases ha with
   |ptr _ _ L hL=>
    cases hb with
    |ptr _ _ M hM=>
     rw [hL] at hM;cases hM;simp [Op.equalIn,run_underlying hde,Qbg w hinf,hz,sameAddr];exact Qbaa _ _ i j
  cases h;cases h;rename_i h0;cases h0;cases ha;cases hb;cases h;simp [Op.equalIn,run_underlying hde];rename_i h0;cases h0;cases ha;cases hb;cases h;simp [Op.equalIn,run_underlying hde];rename_i h0;cases h0;cases ha;cases hb;cases h;simp [Op.equalIn,run_underlying hde];rename_i h0;cases h0;cases ha;cases hb;cases h;simp [Op.equalIn,run_underlying hde];rename_i h0;cases h0;cases ha;cases hb;cases h;simp [Op.equalIn,run_underlying hde];rename_i h0;cases h0;cases ha;cases hb;cases h;simp [Op.equalIn,run_underlying hde];rename_i h0;cases h0;cases ha;cases hb;cases h;simp [Op.equalIn,run_underlying hde];rename_i h0;cases h0;cases ha;cases hb;cases h;simp [Op.equalIn,run_underlying hde];rename_i h0;cases h0;cases ha;cases hb;cases h;simp [Op.equalIn,run_underlying hde];rename_i h0;cases h0;cases ha;cases hb;cases h;simp [Op.equalIn,run_underlying hde];rename_i h0;cases h0;cases ha;cases hb;cases h;simp [Op.equalIn,run_underlying hde];rename_i h0;cases h0;cases ha;cases hb;cases h;simp [Op.equalIn,run_underlying hde]
  ·rename_i t1 v1 u1 x1 h0;cases h0
   cases ha with
   |iface _ _ v1' hv1=>
    cases hb with
    |iface _ _ x1' hx1=>
     split at h;rename_i hne;cases h;simp [Op.equalIn,run_underlying hde,hne];rename_i hne;have hne:t1=u1:=Classical.not_not.1 hne;subst hne;split at h;rename_i inf hinf;split at h;rename_i hcmp;have:=Qho w d t1 v1 x1 r v1' x1' h hv1 hx1;simp [Op.equalIn,run_underlying hde,typeInfo,hinf,hcmp,this];cases h;cases h
  cases h
end Go.Ev
namespace Go.Ev
def isC:Operand->Bool
 |.const _=>true
 |_=>false
def Quk (P:Program) (t:TypeId) (x y:Operand) (a b:AVal):Bool:=
 match a,b with
 |.junk,_=>false
 |_,.junk=>false
 |.niliface,.niliface=>isC x||isC y
 |.agg _,.agg _=> !P.eqGuardType P.depth t
 |_,_=>true
def Quj (P:Program) (op:BinOp) (t:TypeId) (x y:Operand) (a b:AVal):Bool:=
 match op with
 |.eql|.neq=>Quk P t x y a b
 |_=>true
def binA (P:Program) (op:BinOp) (t:TypeId) (a b:AVal):Option AVal:=
 match a,b with
 |.int k a,.int k' b=>intA op k a k' b
 |.str a,.str b=>strA op a b
 |.float _ _,_=>none
 |a,b=>match op with
  |.eql=>match eqA P 10000 t a b with
   |some r=>some (.bool r)
   |none=>none
  |.neq=>match eqA P 10000 t a b with
   |some r=>some (.bool (!r))
   |none=>none
  |_=>none
theorem Qxo {P:Program} {g:Inj} (w:World) {op:BinOp} {t:TypeId} {k k':IntKind} {a b:Int} {r:AVal} (h:intA op k a k' b=some r):
  ∃v,(binOp op t (.int k a) (.int k' b)).run P w=.ok v w/\VRel g r v:=by
 unfold intA at h;split at h;split at h;cases h;cases h;exact ⟨_,by simp [binOp,Op.shift, *],.int _ _⟩;split at h;cases h;cases h;exact ⟨_,by simp [binOp,Op.shift, *],.int _ _⟩;rename_i hn1 hn2;split at h;rename_i hk;subst hk;have e1: ∀x y,Op.intArith op x y=Op.intArith op x y:=fun _ _=>rfl;split at h;cases h;exact ⟨_,by simp [binOp,Op.intArith],.int _ _⟩;cases h;exact ⟨_,by simp [binOp,Op.intArith],.int _ _⟩;cases h;exact ⟨_,by simp [binOp,Op.intArith],.int _ _⟩;split at h;cases h;cases h;exact ⟨_,by simp [binOp,Op.intDiv, *],.int _ _⟩;split at h;cases h;cases h;exact ⟨_,by simp [binOp,Op.intDiv, *],.int _ _⟩;cases h;exact ⟨_,by simp [binOp,Op.intBits],.int _ _⟩;cases h;exact ⟨_,by simp [binOp,Op.intBits],.int _ _⟩;cases h;exact ⟨_,by simp [binOp,Op.intBits],.int _ _⟩;cases h;exact ⟨_,by simp [binOp,Op.intBits],.int _ _⟩;cases h;exact ⟨_,by simp [binOp,Op.intCmp],.bool _⟩;cases h;exact ⟨_,by simp [binOp,Op.intCmp],.bool _⟩;cases h;exact ⟨_,by simp [binOp,Op.intCmp],.bool _⟩;cases h;exact ⟨_,by simp [binOp,Op.intCmp],.bool _⟩;cases h;exact ⟨_,by simp [binOp,Op.intCmp],.bool _⟩;cases h;exact ⟨_,by simp [binOp,Op.intCmp],.bool _⟩;cases h;cases h
theorem Qxp {P:Program} {g:Inj} (w:World) {op:BinOp} {t:TypeId} {a b:ByteArray} {r:AVal} (h:strA op a b=some r):
  ∃v,(binOp op t (.string a) (.string b)).run P w=.ok v w/\VRel g r v:=by
 unfold strA at h;split at h;split at h;rename_i hle;cases h;have: ¬(9223372036854775807<((a.size:Int)+(b.size:Int))):=by omega
 exact ⟨_,by simp [binOp,Op.stringOp,this],.str _⟩;cases h;cases h;exact ⟨_,by simp [binOp,Op.stringOp],.bool _⟩;cases h;exact ⟨_,by simp [binOp,Op.stringOp],.bool _⟩;cases h;exact ⟨_,by simp [binOp,Op.stringOp],.bool _⟩;cases h;exact ⟨_,by simp [binOp,Op.stringOp],.bool _⟩;cases h;exact ⟨_,by simp [binOp,Op.stringOp],.bool _⟩;cases h;exact ⟨_,by simp [binOp,Op.stringOp],.bool _⟩;cases h
def unk:AVal->Bool
 |.symi _ _|.symb _|.syms _|.junk|.geq _=>true
 |_=>false
theorem Qy4 {t:TypeId} {a b:AVal} {u v:Value} {g:Inj} (ha:VRel g a u) (hb:VRel g b v) (h0:(unk a||unk b)=false)
  (h1: ∀k x k' y,¬(a=.int k x/\b=.int k' y)) (h2: ∀x y,¬(a=.str x/\b=.str y)) (h3: ∀k x,a≠.float k x):
  binOp .eql t u v=(do pure (.bool (<-Op.equal t u v)))/\binOp .neq t u v=(do pure (.bool (!(<-Op.equal t u v)))):=by
 cases ha<;>cases hb<;>first|exact ⟨rfl,rfl⟩|(exfalso;first|exact h1 _ _ _ _ ⟨rfl,rfl⟩|exact h2 _ _ ⟨rfl,rfl⟩|exact h3 _ _ rfl|(simp [unk] at h0;done))
theorem Qblz {P:Program} {g:Inj} (w:World) {op:BinOp} {t:TypeId} {a b r:AVal} {u v:Value} (h:binA P op t a b=some r) (ha:VRel g a u) (hb:VRel g b v) (h0:(unk a||unk b)=false):
  ∃x,(binOp op t u v).run P w=.ok x w/\VRel g r x:=by
 unfold binA at h;split at h;cases ha;cases hb;exact Qxo w h;cases ha;cases hb;exact Qxp w h;cases h;rename_i n3 n1 n2;have hh:=Qy4 (t:=t) ha hb h0 (fun k x k' y e=>n1 k x k' y e.1 e.2) (fun x y e=>n2 x y e.1 e.2) (fun k x e=>n3 k x e);split at h;split at h;rename_i r' hr;cases h;have:=Qho w _ _ _ _ _ _ _ hr ha hb;exact ⟨.bool r',by rw [hh.1];simp [Op.equal,Op.maxDepth,this],.bool _⟩;cases h;split at h;rename_i r' hr;cases h;have:=Qho w _ _ _ _ _ _ _ hr ha hb;exact ⟨.bool (!r'),by rw [hh.2];simp [Op.equal,Op.maxDepth,this],.bool _⟩;cases h;cases h
def Qsh:AVal->AVal->Bool
 |.symi k i,.symi k' j=>decide (k=k')&&i==j
 |.syms i,.syms j=>i==j
 |.symb i,.symb j=>i==j
 |_,_=>false
def isI:AVal->Bool
 |.int _ _|.symi _ _=>true
 |_=>false
def isB:AVal->Bool
 |.bool _|.symb _=>true
 |_=>false
def Qsg (int:Bool):BinOp->Option Bool
 |.eql=>some true
 |.neq=>some false
 |.leq=>if int then some true else none
 |.geq=>if int then some true else none
 |.lss=>if int then some false else none
 |.gtr=>if int then some false else none
 |_=>none
def Qol (ng:Cx) (op:BinOp) (a b:AVal):Option AVal:=
 match Qsh a b with
 |true=>match Qsg (isI a) op with
  |some r=>some (.bool r)
  |none=>symS ng (.bin op a b)
 |false=>symS ng (.bin op a b)
def Qx7 (P:Program) (ng:Cx) (op:BinOp) (t:TypeId) (a b:AVal):Option AVal:=
 match isB a with
 |true=>match P.underlying t with
  |some .bool=>Qol ng op a b
  |_=>none
 |false=>Qol ng op a b
theorem Qbl0 {P:Program} {g:Inj} (w:World) {op:BinOp} {t:TypeId} {a b q:AVal} {u v:Value} (h:binS op a b=some q) (ha:VRel g a u) (hb:VRel g b v) (ht:isB a=true->P.underlying t=some .bool):
  ∃r,(binOp op t u v).run P w=.ok r w/\VRel g q r:=by
 unfold binS at h;split at h;cases ha;cases hb;exact Qxo w h;cases ha;cases hb;exact Qxp w h;have hu:=ht rfl;have key: ∀x y:Bool,(Op.equalIn 10000 t (.bool x) (.bool y)).run P w=.ok (x==y) w:=fun x y=>
  Qho w _ _ _ _ _ _ _ (show eqA P (9999+1) t (.bool x) (.bool y)=some (x==y) by simp [eqA,hu]) (.bool (g:=g) x) (.bool y)
 cases ha;cases hb;split at h;cases h;exact ⟨_,by simp [binOp,Op.equal,Op.maxDepth,key],.bool _⟩;cases h;exact ⟨_,by simp [binOp,Op.equal,Op.maxDepth,key],.bool _⟩;cases h;cases h
theorem Qbny {ng:Cx} {g:Inj} (hg:ng.Good g.sig) {op:BinOp} {a b r:AVal} (h:Qol ng op a b=some r): ∃q,binS op (den g.sig a) (den g.sig b)=some q/\ ∀v,VRel g q v->VRel g r v:=by
 unfold Qol at h;split at h;rename_i hs;split at h;rename_i r' hr;cases h;refine ⟨.bool r',?_,fun v hv=>hv⟩;unfold Qsh at hs;split at hs;simp only [Bool.and_eq_true,decide_eq_true_eq,beq_iff_eq] at hs;obtain ⟨rfl,rfl⟩:=hs;cases op<;>simp [Qsg,isI] at hr<;>subst hr<;>simp [binS,den,intA];simp only [beq_iff_eq] at hs;subst hs;cases op<;>simp [Qsg,isI] at hr<;>subst hr<;>simp [binS,den,strA];simp only [beq_iff_eq] at hs;subst hs;cases op<;>simp [Qsg,isI] at hr<;>subst hr<;>simp [binS,den];cases hs;exact Qcp hg h;exact Qcp hg h
theorem Qbdq {V:Sig} {a:AVal} (h:isB (den V a)=true):isB a=true:=by
 cases a<;>simp [den,isB] at h⊢
theorem Qbm1 {P:Program} {ng:Cx} {g:Inj} (w:World) (hg:ng.Good g.sig) {op:BinOp} {t:TypeId} {a b r:AVal} {u v:Value} (h:Qx7 P ng op t a b=some r) (ha:VRel g a u) (hb:VRel g b v):
  ∃x,(binOp op t u v).run P w=.ok x w/\VRel g r x:=by
 have key:Qol ng op a b=some r/\(isB a=true->P.underlying t=some .bool):=by
  unfold Qx7 at h;split at h;split at h;rename_i hu;exact ⟨h,fun _=>hu⟩;cases h;rename_i hn;exact ⟨h,fun hh=>by rw [hn] at hh;cases hh⟩
 obtain ⟨q,h1,h2⟩:=Qbny hg key.1;obtain ⟨x,k1,k2⟩:=Qbl0 (P:=P) (t:=t) w h1 (Qn.2 ha) (Qn.2 hb) (fun hh=>key.2 (Qbdq hh));exact ⟨x,k1,h2 x k2⟩
mutual
def denD (V:Sig):AVal->AVal
 |.agg l=> .agg (denL V l)
 |.symi k i=> .int k (V.i i)
 |.symb i=> .bool (V.b i)
 |.syms i=> .str (V.s i)
 |a=>a
def denL (V:Sig):List AVal->List AVal
 |[]=>[]
 |a::l=>denD V a::denL V l
end
theorem Qph (V:Sig): ∀l:List AVal,denL V l=l.map (denD V)
 |[]=>rfl
 |a::l=>by simp [denL,Qph V l]
mutual
theorem VRel.denD {g:Inj}: ∀{a:AVal} {v:Value},VRel g a v->VRel g (Ev.denD g.sig a) v
 |_,_,.bool b=> .bool b
 |_,_,.int k n=> .int k n
 |_,_,.float k n=> .float k n
 |_,_,.str s=> .str s
 |_,_,.nilptr=> .nilptr
 |_,_,.ptr b off L h=> .ptr b off L h
 |_,_,.nilslice=> .nilslice
 |_,_,.slice b off len cap ex o' cap' L h h0 h1 h2=> .slice b off len cap ex o' cap' L h h0 h1 h2
 |_,_,.nilmap=> .nilmap
 |_,_,.map b L h=> .map b L h
 |_,_,.nilfunc=> .nilfunc
 |_,_,.func fn f c f' c' h1 h2=> .func fn f c f' c' h1 h2
 |_,_,.niliface=> .niliface
 |_,_,.iface t v v' h=> .iface t v v' h
 |_,_,.agg l l' h=> .agg _ l' (LRel.denL h)
 |_,_,.tuple l l' h=> .tuple l l' h
 |_,_,.symi k i=> .int k _
 |_,_,.symb i=> .bool _
 |_,_,.syms i=> .str _
 |_,_,.row i X ao cap h1 h2 h3=> .row i X ao cap h1 h2 h3
 |_,_,.rptr i ix j m X h1 h2 h3=> .rptr i ix j m X h1 h2 h3
 |_,_,.yield b L h=> .yield b L h
 |_,_,.junk v h=> .junk v h
 |_,_,.geq n m h=> .geq n m h
 |_,_,.lsl b z ap off n o m cap ao h1 h2 h3 h4 h5=> .lsl b z ap off n o m cap ao h1 h2 h3 h4 h5
 |_,_,.lptr b z ix j m L h1 h2 h3 h4=> .lptr b z ix j m L h1 h2 h3 h4
 |_,_,.crow i X ao h1 h2=> .crow i X ao h1 h2
theorem LRel.denL {g:Inj}: ∀{a:List AVal} {v:List Value},LRel g a v->LRel g (Ev.denL g.sig a) v
 |_,_,.nil=> .nil
 |_,_,.cons a v l m h h'=> .cons _ v _ m (VRel.denD h) (LRel.denL h')
end
def isT:AVal->Bool
 |.str _|.syms _=>true
 |_=>false
def Qqq:AVal->Option IntKind
 |.int k _=>some k
 |.symi k _=>some k
 |_=>none
def prFs (part:TypeId->List AVal->Nat->Option AVal) (pr:TypeId->AVal->AVal->Option (List (AVal×AVal))) (xs ys:List AVal):List Field->Option (List (AVal×AVal))
 |[]=>some []
 |f::fs=>
  if f.name≠ "_" then
   match part f.type xs f.offset,part f.type ys f.offset with
   |some a,some b=>match pr f.type a b,prFs part pr xs ys fs with
    |some r,some s=>some (r++s)
    |_,_=>none
   |_,_=>none
  else prFs part pr xs ys fs
def prIs (part:TypeId->List AVal->Nat->Option AVal) (pr:TypeId->AVal->AVal->Option (List (AVal×AVal))) (e:TypeId) (c:Nat) (xs ys:List AVal):List Nat->Option (List (AVal×AVal))
 |[]=>some []
 |i::is=>match part e xs (i*c),part e ys (i*c) with
   |some a,some b=>match pr e a b,prIs part pr e c xs ys is with
    |some r,some s=>some (r++s)
    |_,_=>none
   |_,_=>none
def Qfl (P:Program):Nat->TypeId->AVal->AVal->Option (List (AVal×AVal))
 |0,_,_,_=>none
 |d+1,t,x,y=>
  match P.underlying t with
  |some .bool=>if (isB x&&isB y)=true then some [(x,y)] else none
  |some (.int _)=>match Qqq x,Qqq y with
   |some k,some k'=>if k=k' then some [(x,y)] else none
   |_,_=>none
  |some .string=>if (isT x&&isT y)=true then some [(x,y)] else none
  |some (.struct fs)=>match x,y with
   |.agg xs,.agg ys=>if P.stoodInHeld t=false then prFs (Qbt P) (Qfl P d) xs ys fs.toList else none
   |_,_=>none
  |some (.array n e)=>match x,y with
   |.agg xs,.agg ys=>match P.info? e with
    |some _=>prIs (Qbt P) (Qfl P d) e (P.cellsOf e) xs ys (List.range n)
    |none=>none
   |_,_=>none
  |_=>none
def Qc0 (V:Sig) (l:List (AVal×AVal)):Bool:=l.all fun x=>eqS (den V x.1) (den V x.2)
theorem Qbnc (V:Sig) {l r:List AVal} {off n:Nat} (h:seg l off n=some r):seg (denL V l) off n=some (denL V r):=by
 unfold seg at h⊢;split at h;rename_i hle;cases h;rw [Qph,Qph,if_pos (by simpa using hle)];simp [List.map_take,List.map_drop];cases h
theorem Qr4 (P:Program) (V:Sig) {t:TypeId} {cs:List AVal} {off:Nat} {a:AVal} (h:Qbt P t cs off=some a):Qbt P t (denL V cs) off=some (denD V a):=by
 unfold Qbt at h⊢;split at h;split at h;rename_i l hl;cases h;rw [Qbnc V hl];simp [denD];cases h;rw [Qph];simp [h]
theorem Qw3 {P:Program} {V:Sig} {d:Nat} (ih: ∀t x y l,Qfl P d t x y=some l->eqA P d t (denD V x) (denD V y)=some (Qc0 V l)) (xs ys:List AVal):
  ∀(fs:List Field) (l:List (AVal×AVal)),prFs (Qbt P) (Qfl P d) xs ys fs=some l->eqFs (Qbt P) (eqA P d) (denL V xs) (denL V ys) fs=some (Qc0 V l)
 |[],l,h=>by simp only [prFs] at h;cases h;rfl
 |f::fs,l,h=>by
  simp only [prFs] at h;simp only [eqFs];split at h;rename_i hf;rw [if_pos hf];split at h;rename_i a b ha hb;rw [Qr4 P V ha,Qr4 P V hb];split at h;rename_i r s hr hs;cases h;simp only [ih _ _ _ _ hr,Qw3 ih xs ys fs s hs];simp [Qc0,List.all_append];cases h;cases h;rename_i hf;rw [if_neg hf];exact Qw3 ih xs ys fs l h
theorem Q7v {P:Program} {V:Sig} {d:Nat} (ih: ∀t x y l,Qfl P d t x y=some l->eqA P d t (denD V x) (denD V y)=some (Qc0 V l)) (e:TypeId) (c:Nat) (xs ys:List AVal):
  ∀(is:List Nat) (l:List (AVal×AVal)),prIs (Qbt P) (Qfl P d) e c xs ys is=some l->eqIs (Qbt P) (eqA P d) e c (denL V xs) (denL V ys) is=some (Qc0 V l)
 |[],l,h=>by simp only [prIs] at h;cases h;rfl
 |i::is,l,h=>by
  simp only [prIs] at h;simp only [eqIs];split at h;rename_i a b ha hb;rw [Qr4 P V ha,Qr4 P V hb];split at h;rename_i r s hr hs;cases h;simp only [ih _ _ _ _ hr,Q7v ih e c xs ys is s hs];simp [Qc0,List.all_append];cases h;cases h
theorem Qw0 {P:Program} {V:Sig}: ∀(d:Nat) (t:TypeId) (x y:AVal) (l:List (AVal×AVal)),Qfl P d t x y=some l->eqA P d t (denD V x) (denD V y)=some (Qc0 V l)
 |0,_,_,_,_,h=>by simp [Qfl] at h
 |d+1,t,x,y,l,h=>by
  simp only [Qfl] at h;split at h;rename_i hu;split at h;rename_i hb;cases h;cases x<;>simp only [isB,Bool.false_and,Bool.true_and,Bool.false_eq_true] at hb<;>cases y<;>simp only [Bool.false_eq_true] at hb<;>simp [eqA,hu,denD,Qc0,eqS,den];cases h;rename_i k hu;split at h;rename_i k1 k2 h1 h2;split at h
  ·rename_i hk
   subst hk;cases h;cases x<;>simp only [Qqq] at h1<;>first|(cases h1;done)|skip
   all_goals (cases y<;>simp only [Qqq] at h2<;>first|(cases h2;done)|skip)
   all_goals (simp only [Option.some.injEq] at h1 h2;subst h1;subst h2;simp [eqA,hu,denD,Qc0,eqS,den])
  cases h;cases h;rename_i hu;split at h;rename_i hb;cases h;cases x<;>simp only [isT,Bool.false_and,Bool.true_and,Bool.false_eq_true] at hb<;>cases y<;>simp only [Bool.false_eq_true] at hb<;>simp [eqA,hu,denD,Qc0,eqS,den];cases h;rename_i fs hu;split at h;rename_i xs ys;split at h;rename_i hs;simp only [denD,eqA,hu,if_pos hs];exact Qw3 (Qw0 d) xs ys _ l h;cases h;cases h;rename_i n e hu;split at h;rename_i xs ys;split at h;rename_i inf hi;simp only [denD,eqA,hu,hi];exact Q7v (Qw0 d) e _ xs ys _ l h;cases h;cases h;cases h
def Qr1 (a b:AVal):Option Bool:=
 match a,b with
 |.int _ a,.int _ b=>some (a==b)
 |.bool a,.bool b=>some (a==b)
 |.str a,.str b=>some (a.toList==b.toList)
 |a,b=>match Qsh a b with
  |true=>some true
  |false=>none
def Qk0:List (AVal×AVal)->Option (List (AVal×AVal))
 |[]=>some []
 |p::l=>match Qr1 p.1 p.2 with
  |some true=>Qk0 l
  |some false=>none
  |none=>match Qk0 l with
   |some r=>some (p::r)
   |none=>none
theorem Qbkv {V:Sig} {a b:AVal} {r:Bool} (h:Qr1 a b=some r):eqS (den V a) (den V b)=r:=by
 unfold Qr1 at h;split at h;cases h;rfl;cases h;rfl;cases h;rfl;split at h;rename_i hs;cases h;unfold Qsh at hs;split at hs;simp only [Bool.and_eq_true,decide_eq_true_eq,beq_iff_eq] at hs;obtain ⟨rfl,rfl⟩:=hs;simp [den,eqS];simp only [beq_iff_eq] at hs;subst hs;simp [den,eqS];simp only [beq_iff_eq] at hs;subst hs;simp [den,eqS];cases hs;cases h
theorem Q83 (V:Sig): ∀(l:List (AVal×AVal)),Qc0 V l=match Qk0 l with
  |some r=>Qc0 V r
  |none=>false
 |[]=>rfl
 |p::l=>by
  have ih:=Q83 V l;have e:Qc0 V (p::l)=(eqS (den V p.1) (den V p.2)&&Qc0 V l):=by simp [Qc0]
  rw [e];simp only [Qk0];cases h:Qr1 p.1 p.2 with
  |some r=>
   rw [Qbkv h];cases r with
   |true=>simpa using ih
   |false=>rfl
  |none=>
   simp only;cases hs:Qk0 l with
   |some r=>
    rw [hs] at ih;simp only at ih⊢;rw [ih];simp [Qc0]
   |none=>
    rw [hs] at ih;simp only at ih⊢;rw [ih];simp
def Qss (P:Program) (ng:Cx) (t:TypeId) (a b:AVal):Option AVal:=
 match Qfl P 10000 t a b with
 |some l=>match Qk0 l with
  |some r=>match r with
   |[]=>some (.bool true)
   |p::q=>symS ng (.all (p::q))
  |none=>some (.bool false)
 |none=>none
def notU (ng:Cx):Option AVal->Option AVal
 |some (.bool b)=>some (.bool !b)
 |some (.symb i)=>symS ng (.un .not (.symb i))
 |_=>none
theorem Q9e {P:Program} {ng:Cx} {g:Inj} (hg:ng.Good g.sig) {t:TypeId} {a b r:AVal} (h:Qss P ng t a b=some r):
  ∃q,eqA P 10000 t (denD g.sig a) (denD g.sig b)=some q/\ ∀v,VRel g (.bool q) v->VRel g r v:=by
 unfold Qss at h;split at h;rename_i l hl;refine ⟨_,Qw0 (V:=g.sig) _ _ _ _ _ hl,?_⟩;rw [Q83];split at h;rename_i r' hr;split at h;cases h;intro v hv;exact hv;rename_i p q;obtain ⟨q',h1,h2⟩:=Qcp hg h;simp only [Qb,Option.some.injEq] at h1;subst h1;intro v hv;exact h2 v hv;rename_i hr;cases h;intro v hv;exact hv;cases h
theorem Qbkc {ng:Cx} {g:Inj} (hg:ng.Good g.sig) {o:Option AVal} {r:AVal} (h:notU ng o=some r): ∃a,o=some a/\ ∀(q:Bool),(∀v,VRel g (.bool q) v->VRel g a v)-> ∀v,VRel g (.bool !q) v->VRel g r v:=by
 unfold notU at h;split at h;rename_i b;cases h;refine ⟨_,rfl,fun q hq v hv=> ?_⟩;have:=hq _ (.bool q);cases this;exact hv;rename_i i;refine ⟨_,rfl,fun q hq v hv=> ?_⟩;obtain ⟨q',h1,h2⟩:=Qcp hg h;simp only [Qb,den,unA,Option.some.injEq] at h1;subst h1;apply h2;generalize hw:Value.bool q=w;have:=hq _ (.bool q);rw [hw] at this;cases this;cases hw;exact hv;cases h
def aggU (P:Program) (ng:Cx) (op:BinOp) (t:TypeId) (a b:AVal):Option AVal:=
 match a,b with
 |.agg _,.agg _=>match op with
  |.eql=>Qss P ng t a b
  |.neq=>notU ng (Qss P ng t a b)
  |_=>none
 |_,_=>none
theorem Qblx {P:Program} {ng:Cx} {g:Inj} (w:World) (hg:ng.Good g.sig) {op:BinOp} {t:TypeId} {a b r:AVal} {u v:Value} (h:aggU P ng op t a b=some r) (ha:VRel g a u) (hb:VRel g b v):
  ∃x,(binOp op t u v).run P w=.ok x w/\VRel g r x:=by
 unfold aggU at h;split at h;rename_i l l';have hh:=Qy4 (t:=t) ha hb rfl (by simp) (by simp) (by simp);split at h;obtain ⟨q,h1,h2⟩:=Q9e hg h;have:=Qho w _ _ _ _ _ _ _ h1 ha.denD hb.denD;exact ⟨.bool q,by rw [hh.1];simp [Op.equal,Op.maxDepth,this],h2 _ (.bool q)⟩;obtain ⟨a',h0,h3⟩:=Qbkc hg h;obtain ⟨q,h1,h2⟩:=Q9e hg h0;have:=Qho w _ _ _ _ _ _ _ h1 ha.denD hb.denD;exact ⟨.bool (!q),by rw [hh.2];simp [Op.equal,Op.maxDepth,this],h3 q h2 _ (.bool _)⟩;cases h;cases h
theorem Qbme {P:Program} {g:Inj} (w:World) {op:BinOp} {t:TypeId} {x y:Operand} {a b:AVal} {u v:Value} (h:Quj P op t x y a b=true) (ha:VRel g a u) (hb:VRel g b v):
    (eqGuard op t x y u v).run P w=.ok () w:=by
  by_cases hop:op=.eql\/op=.neq
  . unfold Quj at h
    have h':Quk P t x y a b=true:=by rcases hop with rfl|rfl<;>exact h
    clear h;unfold Quk at h';cases ha<;>cases hb<;>first
      | (exact absurd h' Bool.false_ne_true)
      | (rcases hop with rfl|rfl<;>rfl)
      | (simp only [Bool.or_eq_true] at h'
         rcases h' with h'|h'
         . cases x<;>first|(simp [isC] at h';done)|(rcases hop with rfl|rfl<;>rfl)
         . cases y<;>first|(simp [isC] at h';done)|(cases x<;>(rcases hop with rfl|rfl<;>rfl)))
      | (simp only [Bool.not_eq_true'] at h';exact run_eqGuard_agg w op t x y _ _ h')
  . have:eqGuard op t x y u v=pure ():=by
      cases op<;>first|rfl|(exfalso;exact hop (.inl rfl))|(exfalso;exact hop (.inr rfl))
    rw [this];rfl
end Go.Ev
namespace Go.Ev
set_option linter.unusedVariables false
set_option linter.unusedSimpArgs false
set_option linter.unnecessarySimpa false
def evO (ng:Cx) (t:Tm):Option Operand->Option (Option AVal)
 |none=>some none
 |some x=>match ev ng t x with
  |some v=>some (some v)
  |none=>none
def evL (ng:Cx) (t:Tm):List Operand->Option (List AVal)
 |[]=>some []
 |x::l=>match ev ng t x,evL ng t l with
  |some v,some r=>some (v::r)
  |_,_=>none
def evP (ng:Cx) (t:Tm):List (Nat×Operand)->Option (List (Nat×AVal))
 |[]=>some []
 |x::l=>match ev ng t x.2,evP ng t l with
  |some v,some r=>some ((x.1,v)::r)
  |_,_=>none
def bndA (d top:Nat):Option AVal->Option Nat
 |none=>some d
 |some (.int _ n)=>if 0<=n/\n<=(top:Int) then some n.toNat else none
 |_=>none
def Qb4 (len cap:Nat) (lo hi mx:Option AVal):Option (Nat×Nat×Nat):=
 match bndA cap cap mx with
 |some m=>match (match hi,mx with
   |none,some _=>none
   |_,_=>bndA len m hi:Option Nat) with
  |some h=>match bndA 0 h lo with
   |some l=>some (l,h,m)
   |none=>none
  |none=>none
 |none=>none
def Qxy (P:Program) (t:TypeId) (x:AVal) (lo hi mx:Option AVal):Option AVal:=
 match P.underlying t,x with
 |some (.array n e),.ptr b off=>match P.info? e,Qb4 n n lo hi mx with
  |some _,some (l,h,m)=>some (.slice b (if m=l then off else off+l*P.cellsOf e) (h-l) (m-l) none)
  |_,_=>none
 |some (.slice e),.slice b off len cap none=>match P.info? e,Qb4 len cap lo hi mx with
  |some _,some (l,h,m)=>some (.slice b (if m=l then off else off+l*P.cellsOf e) (h-l) (m-l) none)
  |_,_=>none
 |some (.slice e),.slice b off len cap (some z)=>match P.info? e,Qb4 len cap lo hi mx with
  |some _,some (l,h,m)=>if z=P.cellsOf e/\(0<len\/0<cap)/\h<=m then
    match mx with
    |some _=>some (.slice b (if m=l then off else off+l*P.cellsOf e) (h-l) (m-l) none)
    |none=>some (.slice b (off+l*P.cellsOf e) (h-l) (m-l) (some z))
   else (if l=0/\h=0/\mx.isNone then some (.slice b off 0 0 (some z)) else none)
  |_,_=>none
 |some (.slice e),.nilslice=>match P.info? e,Qb4 0 0 lo hi mx with
  |some _,some _=>some .nilslice
  |_,_=>none
 |some .string,.str s=>match mx,Qb4 s.size s.size lo hi none with
  |none,some (l,h,_)=>some (.str (s.extract l h))
  |_,_=>none
 |_,_=>none
def Qd4 (l:List AVal) (off:Nat):List AVal->List AVal
 |[]=>l
 |v::vs=>Qd4 (l.set off v) (off+1) vs
def Qh3 (place:Nat->Option (Nat×Nat)):List AVal->List (Nat×AVal)->Option (List AVal)
 |cells,[]=>some cells
 |cells,(i,v)::rest=>
  match place i with
  |none=>none
  |some (off,size)=>
   if (Q6 v).length=size/\off+(Q6 v).length<=cells.length then Qh3 place (Qd4 cells off (Q6 v)) rest else none
def Qfq (P:Program) (t:TypeId):Option AVal:=
 match P.info? t with
 |some i=>match i.zero with
  |some z=>ofV z
  |none=>none
 |none=>none
def Qoa (P:Program):List Field->Option (List (Nat×Nat))
 |[]=>some []
 |f::fs=>match P.info? f.type,Qoa P fs with
  |some i,some r=>some ((f.offset,i.size)::r)
  |_,_=>none
def Qth (P:Program) (t:TypeId) (parts:List (Nat×AVal)):Option AVal:=
 match Qfq P t,P.underlying t with
 |some z,some (.struct fs)=>match Qoa P fs.toList with
  |some pl=>match Qh3 (pl[·]?) (Q6 z) parts with
   |some c=>some (.agg c)
   |none=>none
  |none=>none
 |some z,some (.array _ e)=>match P.info? e with
  |some ie=>match Qh3 (fun i=>some (i*ie.size,ie.size)) (Q6 z) parts with
   |some c=>some (.agg c)
   |none=>none
  |none=>none
 |_,_=>none
def Qbbd (P:Program) (t:TypeId):Bool:=P.concrete t
def Qe9 (P:Program) (t:TypeId) (f:Nat):Option Field:=
 match P.underlying t with
 |some (.struct fs)=>fs.toList[f]?
 |_=>none
def Qw2 (c:Bool) (a b:Option AVal):Option AVal:=
 match a,b with
 |some (.bool x),some (.bool y)=>some (.bool (bif c then x else y))
 |a,b=>match c with
  |true=>a
  |false=>b
def Qhz (P:Program) (src dst:TypeId) (x:AVal):Option AVal:=
 match P.underlying src,P.underlying dst,x with
 |some _,some (.int k),.int _ n=>some (.int k (k.wrap n))
 |some _,some .string,.str s=>some (.str s)
 |_,_,_=>none
def Qup (P:Program) (t:TypeId) (x ix:AVal):Option AVal:=
 match P.underlying t,x,ix with
 |some (.array n e),.ptr b off,.int _ i=>match P.info? e with
  |some _=>if 0<=i/\i<(n:Int) then some (.ptr b (off+i.toNat*P.cellsOf e)) else none
  |none=>none
 |some (.slice e),.slice b off n _ _,.int _ i=>match P.info? e with
  |some _=>if 0<=i/\i<(n:Int) then some (.ptr b (off+i.toNat*P.cellsOf e)) else none
  |none=>none
 |_,_,_=>none
def Qxc (P:Program) (ng:Cx) (t:TypeId) (i:Nat) (ix:AVal):Option AVal:=
 match P.underlying t with
 |some (.slice e)=>match P.info? e,ng.rat i ix with
  |some _,some cs=>if cs.length=P.cellsOf e then some (.rptr i ix 0) else none
  |_,_=>none
 |_=>none
def Qxg (P:Program) (ng:Cx) (t:TypeId) (i:Nat) (h:AVal):Option AVal:=none
def Qxh (P:Program) (ng:Cx) (ts:List TypeId) (i:Nat):Option AVal:=
 match ts with
 |[t]=>match P.underlying t with
  |some (.slice _)=>match ng.rlen i with
   |some a=>some (Qch ng a)
   |none=>none
  |_=>none
 |_=>none
def Qqo (ng:Cx) (d:SDef):Bool:=
 match symS ng d with
 |some (.bool b)=>b
 |_=>false
def Qci:AVal->Option Int
 |.int .i64 n=>some n
 |_=>none
def leqT (ng:Cx) (a b:AVal):Bool:=
 match Qci a,Qci b with
 |some x,some y=>decide (x<=y)
 |_,_=>Qqo ng (.bin .leq a b)
def lssT (ng:Cx) (a b:AVal):Bool:=
 match Qci a,Qci b with
 |some x,some y=>decide (x<y)
 |_,_=>Qqo ng (.bin .lss a b)
def Qgn (a b:AVal):Bool:=
 match a,b with
 |.int k x,.int k' y=>decide (k=k')&&decide (x=y)
 |.symi k i,.symi k' j=>decide (k=k')&&Nat.beq i j
 |_,_=>false
theorem Qoe {a b:AVal} (h:Qgn a b=true):a=b:=by
 unfold Qgn at h;split at h;simp only [Bool.and_eq_true,decide_eq_true_eq] at h;rw [h.1,h.2];simp only [Bool.and_eq_true,decide_eq_true_eq] at h;rw [h.1,Nat.eq_of_beq_eq_true h.2];cases h
def Qtq (ng:Cx) (lo hi:AVal):Option Nat:=
 match Qci lo,Qci hi with
 |some x,some y=>some (y-x).toNat
 |_,_=>match hi with
  |.symi .i64 j=>match ng.sdf j with
   |some (.bin .add a (.int .i64 c))=>match Qgn a lo&&(decide (0<=c)&&decide (c<9223372036854775808)) with
    |true=>some c.toNat
    |false=>none
   |_=>none
  |_=>none
def lenB (ng:Cx) (i:Nat):Option AVal:=
 match ng.sdf i with
 |some (.text l)=>some (.int .i64 l.length)
 |_=>symS ng (.sop .len [.syms i])
def lenS (ng:Cx) (i:Nat):Option AVal:=
 match ng.sdf i with
 |some (.sop .sub [.syms b,lo,hi])=>match lenB ng b with
  |some n=>match leqT ng (.int .i64 0) lo&&(leqT ng lo hi&&leqT ng hi n) with
   |true=>match Qtq ng lo hi with
    |some k=>some (.int .i64 k)
    |none=>symS ng (.sop .len [.syms i])
   |false=>symS ng (.sop .len [.syms i])
  |none=>symS ng (.sop .len [.syms i])
 |_=>lenB ng i
def okB (ng:Cx):AVal->Bool
 |.int .u8 n=>decide (0<=n)&&decide (n<256)
 |.symi .u8 i=>match ng.kd i with
  |some .u8=>true
  |_=>false
 |_=>false
def Qx2 (ng:Cx) (i:Nat) (ix:AVal):Option AVal:=
 match ng.sdf i,Qci ix with
 |some (.text l),some n=>match decide (0<=n) with
  |true=>match l[n.toNat]? with
   |some a=>match okB ng a with
    |true=>some a
    |false=>none
   |none=>none
  |false=>none
 |_,_=>match lenS ng i with
  |some n=>match leqT ng (.int .i64 0) ix&&lssT ng ix n with
   |true=>symS ng (.sop .at [.syms i,ix])
   |false=>none
  |none=>none
def Qx5 (ng:Cx) (i:Nat) (lo hi:Option AVal):Option AVal:=
 match lenS ng i with
 |some n=>match leqT ng (.int .i64 0) (lo.getD (.int .i64 0))&&(leqT ng (lo.getD (.int .i64 0)) (hi.getD n)&&leqT ng (hi.getD n) n) with
  |true=>match ng.sdf i,Qci (lo.getD (.int .i64 0)),Qci (hi.getD n) with
   |some (.text l),some x,some y=>symS ng (.text ((l.take y.toNat).drop x.toNat))
   |_,_,_=>symS ng (.sop .sub [.syms i,lo.getD (.int .i64 0),hi.getD n])
  |false=>none
 |none=>none
def Qpb (ng:Cx):AVal->Option (List AVal)
 |.str s=>some (s.data.toList.map fun b=>AVal.int .u8 b.toNat)
 |.syms i=>match ng.sdf i with
  |some (.text l)=>some l
  |_=>none
 |_=>none
def Qh6:AVal->Bool
 |.str _=>true
 |.syms _=>true
 |_=>false
def Qus (op:BinOp) (a:AVal):Bool:=
 match op with
 |.add=>Qh6 a
 |_=>false
def catS (ng:Cx) (a b:AVal):Option AVal:=
 match Qh6 b with
 |true=>match Qpb ng a,Qpb ng b with
  |some l,some m=>match decide (l.length+m.length<=9223372036854775807) with
   |true=>symS ng (.text (l++m))
   |false=>none
  |_,_=>match symS ng (.sop .cat [a,b]) with
   |some (.syms c)=>match symS ng (.sop .len [.syms c]) with
    |some n=>match leqT ng n (.int .i64 9223372036854775807) with
     |true=>some (.syms c)
     |false=>none
    |none=>none
   |_=>none
 |false=>none
def atsN (ng:Cx) (i:Nat):Nat->Nat->Option (List AVal)
 |0,_=>some []
 |n+1,j=>match symS ng (.sop .at [.syms i,.int .i64 j]),atsN ng i n (j+1) with
  |some a,some l=>some (a::l)
  |_,_=>none
def allB (ng:Cx):List AVal->Bool
 |[]=>true
 |a::l=>okB ng a&&allB ng l
def Qx1 (ng:Cx) (i:Nat):Option (List AVal):=
 match ng.sdf i with
 |some (.text l)=>match allB ng l with
  |true=>some l
  |false=>none
 |_=>match lenS ng i with
  |some n=>match Qch ng n with
   |.int .i64 m=>match decide (0<=m) with
    |true=>atsN ng i m.toNat 0
    |false=>none
   |_=>none
  |none=>none
def Qx3 (P:Program) (ng:Cx) (ts:List TypeId) (i:Nat):Option AVal:=
 match ts with
 |[t]=>match P.underlying t with
  |some .string=>lenS ng i
  |_=>none
 |_=>none
def isZ:AVal->Bool
 |.int .i64 n=>decide (n=0)
 |_=>false
def kdI (ng:Cx):AVal->Bool
 |.int .i64 n=>decide (-9223372036854775808<=n/\n<9223372036854775808)
 |.symi .i64 j=>match ng.kd j with
  |some .i64=>true
  |_=>false
 |_=>false
def subI (ng:Cx) (hi lo:AVal):Option AVal:=
 match isZ lo with
 |true=>some hi
 |false=>match kdI ng hi with
  |true=>match Qci hi,Qci lo with
   |some y,some x=>some (.int .i64 (y-x))
   |_,_=>symS ng (.bin .sub hi lo)
  |false=>none
def Qv9 (P:Program) (ng:Cx) (ts:List TypeId) (n:AVal):Option AVal:=
 match ts with
 |[t]=>match P.underlying t with
  |some (.slice _)=>some (Qch ng n)
  |_=>none
 |_=>none
def Qv6 (P:Program) (ng:Cx) (t:TypeId) (b z:Nat) (off n ix:AVal):Option AVal:=
 match P.underlying t with
 |some (.slice e)=>match P.info? e with
  |some ie=>match Nat.beq ie.size z&&(Nat.blt 0 z&&(isZ off&&(leqT ng (.int .i64 0) ix&&lssT ng ix n))) with
   |true=>some (.lptr b z ix 0)
   |false=>none
  |none=>none
 |_=>none
def Qv7 (P:Program) (ng:Cx) (t:TypeId) (b z:Nat) (ap:Bool) (off n:AVal) (lo hi mx:Option AVal):Option AVal:=
 match P.underlying t with
 |some (.slice e)=>match P.info? e with
  |some ie=>match Nat.beq ie.size z&&(isZ off&&(leqT ng (.int .i64 0) (lo.getD (.int .i64 0))&&(leqT ng (lo.getD (.int .i64 0)) (hi.getD n)&&leqT ng (hi.getD n) n))) with
   |true=>match mx with
    |none=>match isZ (lo.getD (.int .i64 0))&&Qgn (hi.getD n) n with
     |true=>some (.lsl b z ap off n)
     |false=>match subI ng (hi.getD n) (lo.getD (.int .i64 0)) with
      |some c=>some (.lsl b z false (lo.getD (.int .i64 0)) c)
      |none=>none
    |some m=>match hi with
     |some h=>match Qgn m h&&isZ (lo.getD (.int .i64 0)) with
      |true=>some (.lsl b z true off h)
      |false=>none
     |none=>none
   |false=>none
  |none=>none
 |_=>none
def Qxf (P:Program) (ng:Cx) (t:TypeId) (i:Nat) (lo:Option AVal) (h m:AVal):Option AVal:=none
def Qrl (P:Program) (t:TypeId) (lo hi mx:Option AVal):Option AVal:=none
def Quo (P:Program) (t:TypeId) (x ix:AVal):Option AVal:=
 match P.underlying t,x,ix with
 |some (.array n e),.agg cs,.int _ i=>match P.underlying e with
  |some _=>if 0<=i/\i<(n:Int) then Qbt P e cs (i.toNat*P.cellsOf e) else none
  |none=>none
 |some .string,.str s,.int _ i=>if 0<=i then match s[i.toNat]? with
  |some b=>some (.int .u8 b.toNat)
  |none=>none
  else none
 |_,_,_=>none
def Qwp (P:Program) (t:TypeId) (v:AVal) (name:String):Bool:=
 match P.info? t with
 |some info=>match info.methods.find? (·.name==name) with
  |some m=>match m.path.toList with
   |[]=>match m.func with
    |some (_,pr)=>match pr with
     |true=>true
     |false=>match P.underlying t with
      |some (.pointer _)=>match v with
       |.ptr _ _=>true
       |_=>false
      |some _=>true
      |none=>false
    |none=>false
   |_=>false
  |none=>false
 |none=>false
def Q6v (P:Program) (x:AVal):Option AVal:=
 match x with
 |.func (.method name) (.iface t v::_) _=>match Qwp P t v name with
  |true=>some x
  |false=>none
 |.ptr _ _|.slice _ _ _ _ _|.iface _ _|.map _=>some x
 |.func (.func _) _ _=>some x
 |.func (.via _ _ _ _) _ _=>some x
 |.func (.methodOf _ _) _ _=>some x
 |.func (.yield _) _ _=>some x
 |_=>none
def capA (P:Program) (ts:List TypeId) (l:List AVal):Option AVal:=
 match ts,l with
 |[t],[x]=>match P.underlying t,x with
  |some (.slice _),.slice _ _ _ cap none=>some (.int .i64 cap)
  |some (.slice _),.slice _ _ _ cap (some _)=>some (.geq cap)
  |some (.slice _),.nilslice=>some (.int .i64 0)
  |_,_=>none
 |_,_=>none
def geqA (op:BinOp) (a b:AVal):Option AVal:=
 match b with
 |.geq n=>match op,a with
  |.gtr,.int .i64 x=>match decide (x<=(n:Int)) with
   |true=>some (.bool false)
   |false=>none
  |_,_=>none
 |_=>none
def lenA (P:Program) (ts:List TypeId) (l:List AVal):Option AVal:=
 match ts,l with
 |[t],[x]=>match P.underlying t,x with
  |some .string,.str s=>some (.int .i64 s.size)
  |some (.array n _),_=>some (.int .i64 n)
  |some (.slice _),.slice _ _ n _ _=>some (.int .i64 n)
  |some (.slice _),.nilslice=>some (.int .i64 0)
  |some (.map _ _),.nilmap=>some (.int .i64 0)
  |_,_=>none
 |_,_=>none
def binU (P:Program) (ng:Cx) (op:BinOp) (t:TypeId) (a b:AVal):Option AVal:=
 match unk a||unk b with
 |true=>match geqA op a b with
  |some v=>some v
  |none=>match Qus op a with
   |true=>catS ng a b
   |false=>Qx7 P ng op t a b
 |false=>match binA P op t a b with
  |some v=>some v
  |none=>aggU P ng op t a b
def unU (ng:Cx) (op:UnOp) (a:AVal):Option AVal:=
 match unk a with
 |true=>symS ng (.un op a)
 |false=>unA op a
def Qtn (P:Program) (ng:Cx) (src dst:TypeId) (a:AVal):Option AVal:=
 match unk a with
 |true=>match P.underlying src,P.underlying dst with
  |some _,some (.int k)=>symS ng (.conv k a)
  |some _,some .string=>match a with
   |.syms i=>some (.syms i)
   |_=>none
  |_,_=>none
 |false=>Qhz P src dst a
def Qta:List AVal->Bool
 |[]=>false
 |a::l=>unk a||Qta l
def lowU (ng:Cx) (l:List AVal):Option AVal:=
 match Qta l with
 |true=>symS ng (.low l)
 |false=>minA l
def Qul (ng:Cx) (l:List AVal):Option AVal:=
 match Qta l with
 |true=>symS ng (.high l)
 |false=>maxA l
def Q16 (want:Array (String×TypeId)) (got:Array Method):Bool:=(lacking want got).isEmpty
def Qjl (P:Program) (asserted:TypeId) (ok:Bool):Option AVal:=
 match ok with
 |true=>match Qfq P asserted with
  |some z=>some (.tuple [z,.bool false])
  |none=>none
 |false=>none
def Qum (x:AVal) (ok:Bool):AVal:=
 match ok with
 |true=> .tuple [x,.bool true]
 |false=>x
def Qtc (P:Program) (x:AVal) (asserted:TypeId) (ok:Bool):Option AVal:=
 match P.underlying asserted with
 |some (.interface want)=>match x with
  |.niliface=>Qjl P asserted ok
  |.iface t v=>match P.info? t with
   |some i=>match Q16 want i.methods with
    |true=>some (Qum (.iface t v) ok)
    |false=>Qjl P asserted ok
   |none=>none
  |_=>none
 |some _=>match x with
  |.niliface=>Qjl P asserted ok
  |.iface t v=>match Nat.beq t asserted with
   |true=>some (Qum v ok)
   |false=>Qjl P asserted ok
  |_=>none
 |none=>none
def Qv8 (P:Program) (ng:Cx) (t:TypeId) (b z:Nat) (off n:AVal) (lo hi mx:Option AVal):Option AVal:=none
def Qwa (P:Program) (ng:Cx) (op:BinOp) (t:TypeId) (a b:AVal):Option AVal:=
 match P.underlying t,a,b with
 |some (.slice _),.lsl _ _ _ _ n,.nilslice=>match lssT ng (.int .i64 0) n with
  |true=>match op with
   |.eql=>some (.bool false)
   |.neq=>some (.bool true)
   |_=>none
  |false=>none
 |_,_,_=>none
def Qgl (P:Program) (ng:Cx) (t:Tm):Op->Option AVal
 |.move x=>ev ng t x
 |.assign x=>ev ng t x
 |.pick c a b=>match ev ng t c with
  |some (.bool c)=>Qw2 c (ev ng t a) (ev ng t b)
  |_=>none
 |.binOp op xt x y _=>match ev ng t x,ev ng t y with
  |some a,some b=>match Quj P op xt x y a b with
   |true=>match Qwa P ng op xt a b with
    |some v=>some v
    |none=>binU P ng op xt a b
   |false=>none
  |_,_=>none
 |.unOp op _ x=>match ev ng t x with
  |some a=>unU ng op a
  |none=>none
 |.convert src dst x=>match ev ng t x with
  |some a=>Qtn P ng src dst a
  |none=>none
 |.makeInterface xt x=>match ev ng t x with
  |some a=>match Qbbd P xt with
   |true=>some (.iface xt a)
   |false=>none
  |none=>none
 |.makeFunc fn fs cs=>match evL ng t fs.toList,evL ng t cs.toList with
  |some a,some b=>some (.func fn a b)
  |_,_=>none
 |.slice ty x lo hi mx=>match ev ng t x,evO ng t lo,evO ng t hi,evO ng t mx with
  |some (.row r),some none,some (some h),some none=>Qxg P ng ty r h
  |some (.row r),some l,some h,some m=>match Qrl P ty l h m with
   |some v=>some v
   |none=>match h,m with
    |some h,some m=>Qxf P ng ty r l h m
    |_,_=>none
  |some (.lsl b z ap off n),some l,some h,some m=>match Qrl P ty l h m with
   |some v=>some v
   |none=>match Qv7 P ng ty b z ap off n l h m with
    |some v=>some v
    |none=>Qv8 P ng ty b z off n l h m
  |some (.syms i),some l,some h,some none=>match P.underlying ty with
   |some .string=>Qx5 ng i l h
   |_=>none
  |some a,some l,some h,some m=>Qxy P ty a l h m
  |_,_,_,_=>none
 |.fieldAddr ty x f=>match Qe9 P ty f,ev ng t x with
  |some fd,some (.ptr b off)=>match P.info? fd.type with
   |some i=>if i.size=0 then none else some (.ptr b (off+fd.offset))
   |none=>none
  |some fd,some (.rptr r ix j)=>match P.info? fd.type with
   |some i=>if i.size=0 then none else some (.rptr r ix (j+fd.offset))
   |none=>none
  |some fd,some (.lptr b z ix j)=>match P.info? fd.type with
   |some i=>if i.size=0\/z<=j+fd.offset then none else some (.lptr b z ix (j+fd.offset))
   |none=>none
  |_,_=>none
 |.field ty x f=>match Qe9 P ty f,ev ng t x with
  |some fd,some (.agg cs)=>match P.underlying fd.type with
   |some _=>Qbt P fd.type cs fd.offset
   |none=>none
  |_,_=>none
 |.indexAddr ty x ix=>match ev ng t x,ev ng t ix with
  |some (.row r),some i=>Qxc P ng ty r i
  |some (.lsl b z _ off n),some i=>Qv6 P ng ty b z off n i
  |some a,some i=>Qup P ty a i
  |_,_=>none
 |.index ty x ix=>match ev ng t x,ev ng t ix with
  |some (.syms i),some j=>match P.underlying ty with
   |some .string=>Qx2 ng i j
   |_=>none
  |some a,some i=>Quo P ty a (Qch ng i)
  |_,_=>none
 |.extract x i=>match ev ng t x with
  |some (.tuple l)=>l[i]?
  |_=>none
 |.build ty parts=>match evP ng t parts.toList with
  |some l=>Qth P ty l
  |none=>none
 |.nilCheck x=>match ev ng t x with
  |some a=>Q6v P a
  |none=>none
 |.call c=>match c.callee with
  |.builtin .len=>match evL ng t c.args.toList with
   |some [.row r]=>Qxh P ng c.argTypes.toList r
   |some [.lsl _ _ _ _ n]=>Qv9 P ng c.argTypes.toList n
   |some [.syms i]=>Qx3 P ng c.argTypes.toList i
   |some l=>lenA P c.argTypes.toList l
   |none=>none
  |.builtin .cap=>match evL ng t c.args.toList with
   |some l=>capA P c.argTypes.toList l
   |none=>none
  |.builtin .min=>match evL ng t c.args.toList with
   |some l=>lowU ng l
   |none=>none
  |.builtin .max=>match evL ng t c.args.toList with
   |some l=>Qul ng l
   |none=>none
  |_=>none
 |.typeAssert x _ asserted ok=>match ev ng t x with
  |some a=>Qtc P a asserted ok
  |none=>none
 |_=>none
section
variable {P : Program} {g : Inj} {ng : Cx} {t : Tm} {ρ : Operand -> Value}
structure ERel (g:Inj) (ng:Cx) (t:Tm) (ρ:Operand->Value):Prop where
 get: ∀x v,ev ng t x=some v->VRel g v (ρ x)
 sig:ng.Good g.sig
instance:CoeFun (ERel g ng t ρ) (fun _=> ∀x v,ev ng t x=some v->VRel g v (ρ x)):=⟨ERel.get⟩
theorem Qb9 (hρ:ERel g ng t ρ): ∀(l:List Operand) (r:List AVal),evL ng t l=some r->LRel g r (l.map ρ)
 |[],r,h=>by simp [evL] at h;subst h;exact .nil
 |x::l,r,h=>by
  simp only [evL] at h;split at h;rename_i v s h1 h2;cases h;exact .cons _ _ _ _ (hρ x v h1) (Qb9 hρ l s h2);cases h
def ORel (g:Inj) (a:Option AVal) (v:Option Value):Prop:=
 match a,v with
 |none,none=>True
 |some a,some v=>VRel g a v
 |_,_=>False
theorem Qby (hρ:ERel g ng t ρ) {x:Option Operand} {r:Option AVal} (h:evO ng t x=some r):ORel g r (x.map ρ):=by
 cases x with
 |none=>simp [evO] at h;subst h;trivial
 |some x=>
  simp only [evO] at h;split at h;rename_i v hv;cases h;exact hρ x v hv;cases h
theorem Qku (w:World) {d top:Nat} {a:Option AVal} {v:Option Value} {n:Nat} (h:bndA d top a=some n) (hr:ORel g a v) (code:BoundsCode):
  (match v with
   |some v=>Instr.sliceBound v top code
   |none=>pure d:Sem Nat).run P w=.ok n w:=by
 unfold bndA at h;split at h
 ·cases v with
  |none=>cases h;simp
  |some v=>exact hr.elim
 split at h
 ·rename_i hc
  cases h;cases v with
  |none=>exact hr.elim
  |some v=>cases hr;exact run_sliceBound w _ _ _ code hc.1 hc.2
 cases h;cases h
theorem Qtg {d top top' n:Nat} {v:AVal} (h:bndA d top (some v)=some n) (hc:top<=top'):bndA d top' (some v)=some n:=by
 cases v<;>simp only [bndA] at h⊢
 all_goals first|(cases h;done)|skip
 split at h;rename_i hc2;rw [if_pos ⟨hc2.1,by omega⟩];exact h;cases h
theorem Qtf {top n:Nat} {a:Option AVal} {d:Nat} (h:bndA d top a=some n) (hd:d<=top):n<=top:=by
 unfold bndA at h;split at h;cases h;exact hd;split at h;cases h;omega;cases h;cases h
theorem Qbay {len cap l h m:Nat} {lo hi mx:Option AVal} (he:Qb4 len cap lo hi mx=some (l,h,m)) (hlc:hi=none->len<=m):l<=m/\h<=m/\l<=h:=by
 unfold Qb4 at he;split at he;split at he;rename_i m' hm' h' hh';split at he;rename_i l' hl';cases he;have h1:l<=h:=Qtf hl' (Nat.zero_le _);have h2:h<=m:=by
  split at hh';cases hh';cases hi with
  |none=>simp only [bndA] at hh';cases hh';exact hlc rfl
  |some v=>
   have:=Qtg hh' (Nat.le_refl _);unfold bndA at this;split at this;rename_i e;cases e;split at this;cases this;omega;cases this;cases this
 exact ⟨by omega,h2,h1⟩;cases he;cases he;cases he
theorem Qbaz {len cap l h m:Nat} {lo hi mx:Option AVal} (he:Qb4 len cap lo hi mx=some (l,h,m)):l<=h:=by
 unfold Qb4 at he;split at he;split at he;split at he;rename_i l' hl';cases he;exact Qtf hl' (Nat.zero_le _);cases he;cases he;cases he
theorem Qbax {len cap l h m:Nat} {lo hi mx:Option AVal} (he:Qb4 len cap lo hi mx=some (l,h,m)):m<=cap:=by
 unfold Qb4 at he;split at he;rename_i m' hm';have:=Qtf hm' (Nat.le_refl _);split at he;split at he;cases he;exact this;cases he;cases he;cases he
theorem Qiq (w:World) {len cap cap':Nat} {lo hi mx:Option AVal} {lo' hi' mx':Option Value} {l h m:Nat} (he:Qb4 len cap lo hi mx=some (l,h,m)) (isS:Bool)
  (hl:ORel g lo lo') (hh:ORel g hi hi') (hm:ORel g mx mx') (hc:cap<=cap'):
  (Instr.sliceBounds isS len cap' lo' hi' mx').run P w=.ok (l,h,if mx.isSome then m else cap') w/\(mx.isSome=false->m=cap):=by
 unfold Qb4 at he;cases mx with
 |none=>
  cases mx' with
  |some v=>exact hm.elim
  |none=>
   simp only [show bndA cap cap none=some cap from rfl] at he;cases hi with
   |none=>
    cases hi' with
    |some v=>exact hh.elim
    |none=>
     simp only [show bndA len cap none=some len from rfl] at he;split at he
     ·rename_i l' hl'
      cases he;have h1:=Qku (P:=P) w hl' hl (.sliceB);simp only [Instr.sliceBounds];cases lo' with
      |none=>simp at h1;simp [h1]
      |some v=>simp at h1;simp [h1]
     cases he
   |some hv=>
    cases hi' with
    |none=>exact hh.elim
    |some v=>
     split at he;rename_i h' hh';split at he
     ·rename_i l' hl'
      cases he;have hh2:=Qtg hh' hc;have h2:=Qku (P:=P) w hh2 (v:=some v) hh (if isS then .sliceAcap else .sliceAlen);have h1:=Qku (P:=P) w hl' hl (.sliceB);simp only [Instr.sliceBounds];simp only at h2;cases lo' with
      |none=>simp at h1;simp [h1,h2]
      |some v=>simp at h1;simp [h1,h2]
     cases he;cases he
 |some mv=>
  cases mx' with
  |none=>exact hm.elim
  |some mv'=>
   split at he
   ·rename_i m' hm'
    have hm2:bndA cap' cap' (some mv)=some m':=by
     have:=Qtg hm' hc;cases mv<;>simpa only [bndA] using this
    have h3:=Qku (P:=P) w hm2 (v:=some mv') hm (if isS then .slice3Acap else .slice3Alen);cases hi with
    |none=>simp at he
    |some hv=>
     cases hi' with
     |none=>exact hh.elim
     |some v=>
      simp only at he;split at he;rename_i h' hh';split at he
      ·rename_i l' hl'
       cases he;have h2:=Qku (P:=P) w hh' (v:=some v) hh .slice3B;have h1:=Qku (P:=P) w hl' hl (.slice3C);simp only [Instr.sliceBounds];simp only at h2 h3;cases lo' with
       |none=>simp at h1;simp [h1,h2,h3]
       |some v=>simp at h1;simp [h1,h2,h3]
      cases he;cases he
   cases he
theorem Qbs (b o n:Nat):Addr.add ⟨b,o,none⟩ n=⟨b,o+n,none⟩:=Addr.add_lit b o n
theorem Qbmx (w:World) {ty:TypeId} {x r:AVal} {u:Value} {lo hi mx:Option AVal} {lo' hi' mx':Option Value} (h:Qxy P ty x lo hi mx=some r) (hx:VRel g x u)
  (hl:ORel g lo lo') (hh:ORel g hi hi') (hm:ORel g mx mx'): ∃v,(Instr.sliceAt ty u lo' hi' mx').run P w=.ok v w/\VRel g r v:=by
 unfold Qxy at h;split at h;rename_i n e b off hu;split at h
 ·rename_i inf l hh0 m hi0 hb
  cases h;cases hx with
  |ptr _ _ L hL=>
   have hr:=(Qiq (P:=P) w hb false hl hh hm (Nat.le_refl n));have hm':(if mx.isSome then m else n)=m:=by
    cases hmx:mx.isSome with
    |true=>simp
    |false=>simpa using (hr.2 hmx).symm
   rw [hm'] at hr;refine ⟨.slice (some (if m=l then ⟨L.blk,L.dl+off,none⟩ else (⟨L.blk,L.dl+off,none⟩:Addr).add (l*P.cellsOf e))) (hh0-l) (m-l),?_,?_⟩;simp [Instr.sliceAt,run_underlying hu,Instr.sureAddr,hr.1,Qbg w hi0,Qeb hi0];have:=VRel.slice (g:=g) b (if m=l then off else off+l*P.cellsOf e) (hh0-l) (m-l) none (if m=l then off else off+l*P.cellsOf e) (m-l) L hL (.inl rfl) (fun _=>rfl) (by simp);have e1:(if m=l then (⟨L.blk,L.dl+off,none⟩:Addr) else (⟨L.blk,L.dl+off,none⟩:Addr).add (l*P.cellsOf e))=⟨L.blk,L.dl+(if m=l then off else off+l*P.cellsOf e),none⟩:=by
    split;rfl;rw [Qbs,Nat.add_assoc]
   rw [e1];exact this
 cases h;rename_i e b off len cap hu;split at h
 ·rename_i inf l hh0 m hi0 hb
  cases h;cases hx with
  |slice _ _ _ _ _ o' cap' L hL h0 h1 h2=>
   have hc:=h1 rfl;subst hc;have ho:o'=off:=by rcases h0 with h0|h0;exact h0;exact absurd rfl h0.2.2
   subst ho;have hr:=(Qiq (P:=P) w hb true hl hh hm (Nat.le_refl cap'));have hm':(if mx.isSome then m else cap')=m:=by
    cases hmx:mx.isSome with
    |true=>simp
    |false=>simpa using (hr.2 hmx).symm
   rw [hm'] at hr;refine ⟨.slice (some (if m=l then ⟨L.blk,L.dl+o',none⟩ else (⟨L.blk,L.dl+o',none⟩:Addr).add (l*P.cellsOf e))) (hh0-l) (m-l),?_,?_⟩;simp [Instr.sliceAt,Instr.slice,run_underlying hu,hr.1,Qbg w hi0,Qeb hi0];split<;>simp;have:=VRel.slice (g:=g) b (if m=l then o' else o'+l*P.cellsOf e) (hh0-l) (m-l) none (if m=l then o' else o'+l*P.cellsOf e) (m-l) L hL (.inl rfl) (fun _=>rfl) (by simp);have e1:(if m=l then (⟨L.blk,L.dl+o',none⟩:Addr) else (⟨L.blk,L.dl+o',none⟩:Addr).add (l*P.cellsOf e))=⟨L.blk,L.dl+(if m=l then o' else o'+l*P.cellsOf e),none⟩:=by
    split;rfl;rw [Qbs,Nat.add_assoc]
   rw [e1];exact this
 cases h;rename_i e b off len cap z hu;split at h
 ·rename_i inf l hh0 m hi0 hb
  cases hx with
  |slice _ _ _ _ _ o' cap' L hL h0 h1 h2=>
   obtain ⟨hcc,hfit⟩:=h2 z rfl;have hr:=(Qiq (P:=P) w hb true hl hh hm hcc);split at h;rename_i hz;obtain ⟨rfl,hpos,hhm⟩:=hz;have ho:o'=off:=by rcases h0 with h0|h0;exact h0;omega
   subst ho;split at h;cases h;rename_i mv;simp only [Option.isSome_some,if_true] at hr;refine ⟨.slice (some (if m=l then ⟨L.blk,L.dl+o',none⟩ else (⟨L.blk,L.dl+o',none⟩:Addr).add (l*P.cellsOf e))) (hh0-l) (m-l),?_,?_⟩;simp [Instr.sliceAt,Instr.slice,run_underlying hu,hr.1,Qbg w hi0,Qeb hi0];split<;>simp;have:=VRel.slice (g:=g) b (if m=l then o' else o'+l*P.cellsOf e) (hh0-l) (m-l) none (if m=l then o' else o'+l*P.cellsOf e) (m-l) L hL (.inl rfl) (fun _=>rfl) (by simp);have e1:(if m=l then (⟨L.blk,L.dl+o',none⟩:Addr) else (⟨L.blk,L.dl+o',none⟩:Addr).add (l*P.cellsOf e))=⟨L.blk,L.dl+(if m=l then o' else o'+l*P.cellsOf e),none⟩:=by
    split;rfl;rw [Qbs,Nat.add_assoc]
   rw [e1];exact this;cases h;simp only [Option.isSome_none,Bool.false_eq_true,if_false] at hr;have hmc:m=cap:=hr.2 trivial;have hlh:l<=hh0:=Qbaz hb;refine ⟨.slice (some (if cap'=l then ⟨L.blk,L.dl+o',none⟩ else (⟨L.blk,L.dl+o',none⟩:Addr).add (l*P.cellsOf e))) (hh0-l) (cap'-l),?_,?_⟩;simp [Instr.sliceAt,Instr.slice,run_underlying hu,hr.1,Qbg w hi0,Qeb hi0];split<;>simp;by_cases hcl:cap'=l;rw [if_pos hcl];refine VRel.slice (g:=g) b _ (hh0-l) (m-l) _ o' (cap'-l) L hL (.inr ⟨by omega,by omega,by simp⟩) (by simp) ?_;intro z hz;cases hz;have:(cap'-l)*P.cellsOf e<=cap'*P.cellsOf e:=Nat.mul_le_mul_right _ (by omega);exact ⟨by omega,by omega⟩;rw [if_neg hcl,Qbs,Nat.add_assoc];refine VRel.slice (g:=g) b _ (hh0-l) (m-l) _ (o'+l*P.cellsOf e) (cap'-l) L hL (.inl rfl) (by simp) ?_;intro z hz;cases hz;have:l*P.cellsOf e+(cap'-l)*P.cellsOf e=cap'*P.cellsOf e:=by rw [<-Nat.add_mul];congr 1;omega
   exact ⟨by omega,by omega⟩;split at h
   ·rename_i hz
    obtain ⟨rfl,rfl,hmx⟩:=hz;cases h;cases mx with
    |some _=>simp at hmx
    |none=>
     simp only [Option.isSome_none,Bool.false_eq_true,if_false] at hr;refine ⟨.slice (some ⟨L.blk,L.dl+o',none⟩) 0 cap',?_,?_⟩;simp [Instr.sliceAt,Instr.slice,run_underlying hu,hr.1,Qbg w hi0,Addr.add];exact VRel.slice (g:=g) b _ 0 0 _ o' cap' L hL (.inr ⟨rfl,rfl,by simp⟩) (by simp) (fun z hz=>by cases hz;exact ⟨Nat.zero_le _,hfit⟩)
   cases h
 cases h;rename_i e hu;split at h;rename_i inf lhm hi0 hb;obtain ⟨l,hh0,m⟩:=lhm;cases h;cases hx;have hr:=(Qiq (P:=P) w hb true hl hh hm (Nat.le_refl 0));have hle:=Qbay hb (fun _=>Nat.zero_le _);have hle2:=Qbax hb;have hl0:l=0:=by omega
 have hh00:hh0=0:=by omega
 have hm0:m=0:=by omega
 subst hl0;subst hh00;subst hm0;refine ⟨.slice none 0 0,?_,.nilslice⟩;simp at hr;simp [Instr.sliceAt,Instr.slice,run_underlying hu,hr,Qbg w hi0];cases h;rename_i s hu;split at h
 ·rename_i l hh0 m hb
  cases h;cases hx;cases mx' with
  |some v=>exact hm.elim
  |none=>
   have hr:=(Qiq (P:=P) w hb false hl hh (mx':=none) trivial (Nat.le_refl _));refine ⟨.string (s.extract l hh0),?_,.str _⟩;simp at hr;simp [Instr.sliceAt,Instr.slice,run_underlying hu,hr]
 cases h;cases h
end
end Go.Ev
