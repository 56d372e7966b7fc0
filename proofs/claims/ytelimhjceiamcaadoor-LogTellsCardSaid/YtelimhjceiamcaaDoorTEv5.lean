/- The evaluator, part 5. -/
import Derived.Test.YtelimhjceiamcaaDoorTEv4
set_option linter.unusedVariables false
set_option linter.unusedSimpArgs false
set_option linter.unnecessarySimpa false
namespace Go.Ev
mutual
def eqV:AVal->AVal->Bool
 |.bool a,.bool b=>a==b
 |.int k a,.int k' b=>decide (k=k')&&a==b
 |.float k a,.float k' b=>decide (k=k')&&Nat.beq a b
 |.str a,.str b=>a.toList==b.toList
 |.nilptr,.nilptr=>true
 |.ptr b o,.ptr b' o'=>Nat.beq b b'&&Nat.beq o o'
 |.nilslice,.nilslice=>true
 |.slice b o l c e,.slice b' o' l' c' e'=>Nat.beq b b'&&(Nat.beq o o'&&(Nat.beq l l'&&(Nat.beq c c'&&decide (e=e'))))
 |.nilmap,.nilmap=>true
 |.map b,.map b'=>Nat.beq b b'
 |.nilfunc,.nilfunc=>true
 |.func f x y,.func f' x' y'=>decide (f=f')&&(eqVs x x'&&eqVs y y')
 |.niliface,.niliface=>true
 |.iface t v,.iface t' v'=>Nat.beq t t'&&eqV v v'
 |.agg l,.agg m=>eqVs l m
 |.tuple l,.tuple m=>eqVs l m
 |.symi k i,.symi k' j=>decide (k=k')&&Nat.beq i j
 |.symb i,.symb j=>Nat.beq i j
 |.syms i,.syms j=>Nat.beq i j
 |.row i,.row j=>Nat.beq i j
 |.crow i,.crow j=>Nat.beq i j
 |.rptr i x j,.rptr i' x' j'=>Nat.beq i i'&&(Nat.beq j j'&&eqV x x')
 |.yield b,.yield b'=>Nat.beq b b'
 |.lsl b z ap o n,.lsl b' z' ap' o' n'=>Nat.beq b b'&&(Nat.beq z z'&&(ap==ap'&&(eqV o o'&&eqV n n')))
 |.lptr b z x j,.lptr b' z' x' j'=>Nat.beq b b'&&(Nat.beq z z'&&(Nat.beq j j'&&eqV x x'))
 |_,_=>false
def eqVs:List AVal->List AVal->Bool
 |[],[]=>true
 |a::l,b::m=>eqV a b&&eqVs l m
 |_,_=>false
end
mutual
theorem Qbi: ∀(a b:AVal),eqV a b=true->a=b
 |a,b,h=>by
  unfold eqV at h;split at h<;>first
   |rfl
   |(cases h;done)
   |(rename_i x y;have:=eq_of_beq h;subst this;rfl)
   |(simp only [Bool.and_eq_true,decide_eq_true_eq,Nat.beq_eq,beq_iff_eq] at h;obtain ⟨h1,h2⟩:=h;subst h1;subst h2;rfl)
   |(rename_i x y;rw [toList_inj (eq_of_beq h)])
   |(rename_i x y;rw [Nat.eq_of_beq_eq_true h])
   |(rename_i x y;rw [Qdk _ _ h])
   |(simp only [Bool.and_eq_true,decide_eq_true_eq,Nat.beq_eq] at h;obtain ⟨h1,h2,h3,h4,h5⟩:=h;subst h1;subst h2;subst h3;subst h4;subst h5;rfl)
   |(simp only [Bool.and_eq_true,decide_eq_true_eq] at h;obtain ⟨h1,h2,h3⟩:=h;rw [h1,Qdk _ _ h2,Qdk _ _ h3])
   |(simp only [Bool.and_eq_true] at h;obtain ⟨h1,h2⟩:=h;rw [Nat.eq_of_beq_eq_true h1,Qbi _ _ h2])
   |(simp only [Bool.and_eq_true] at h;obtain ⟨h1,h2,h3⟩:=h;rw [Nat.eq_of_beq_eq_true h1,Nat.eq_of_beq_eq_true h2,Qbi _ _ h3])
   |(simp only [Bool.and_eq_true] at h;obtain ⟨h1,h2,h3,h4,h5⟩:=h;rw [Nat.eq_of_beq_eq_true h1,Nat.eq_of_beq_eq_true h2,eq_of_beq h3,Qbi _ _ h4,Qbi _ _ h5])
   |(simp only [Bool.and_eq_true] at h;obtain ⟨h1,h2,h3,h4⟩:=h;rw [Nat.eq_of_beq_eq_true h1,Nat.eq_of_beq_eq_true h2,Nat.eq_of_beq_eq_true h3,Qbi _ _ h4])
theorem Qdk: ∀(l m:List AVal),eqVs l m=true->l=m
 |[],[],_=>rfl
 |a::l,b::m,h=>by
  simp only [eqVs,Bool.and_eq_true] at h;rw [Qbi a b h.1,Qdk l m h.2]
 |[],_::_,h=>by simp [eqVs] at h
 |_::_,[],h=>by simp [eqVs] at h
end
def eqDf:List ADef->List ADef->Bool
 |[],[]=>true
 |.mark b::l,.mark b'::m=>Nat.beq b b'&&eqDf l m
 |.fn f x y::l,.fn f' x' y'::m=>decide (f=f')&&(eqVs x x'&&(eqVs y y'&&eqDf l m))
 |_,_=>false
theorem Qpt: ∀{l m:List ADef},eqDf l m=true->l=m
 |[],[],_=>rfl
 |.mark b::l,.mark b'::m,h=>by
  simp only [eqDf,Bool.and_eq_true] at h;rw [Nat.eq_of_beq_eq_true h.1,Qpt h.2]
 |.fn f x y::l,.fn f' x' y'::m,h=>by
  simp only [eqDf,Bool.and_eq_true,decide_eq_true_eq] at h;rw [h.1,Qdk _ _ h.2.1,Qdk _ _ h.2.2.1,Qpt h.2.2.2]
 |[],_::_,h=>by simp [eqDf] at h
 |.mark _::_,[],h=>by simp [eqDf] at h
 |.fn _ _ _::_,[],h=>by simp [eqDf] at h
 |.mark _::_,.fn _ _ _::_,h=>by simp [eqDf] at h
 |.fn _ _ _::_,.mark _::_,h=>by simp [eqDf] at h
def eqM:List (AVal×AVal)->List (AVal×AVal)->Bool
 |[],[]=>true
 |a::l,b::m=>eqV a.1 b.1&&(eqV a.2 b.2&&eqM l m)
 |_,_=>false
theorem Qjh: ∀{l m:List (AVal×AVal)},eqM l m=true->l=m
 |[],[],_=>rfl
 |(a,a')::l,(b,b')::m,h=>by
  simp only [eqM,Bool.and_eq_true] at h;rw [Qbi _ _ h.1,Qbi _ _ h.2.1,Qjh h.2.2]
 |[],_::_,h=>by simp [eqM] at h
 |_::_,[],h=>by simp [eqM] at h
theorem Q0q {c c':Option (AVal×AVal)} (h:eqM c.toList c'.toList=true):c=c':=by
 have:=Qjh h;cases c<;>cases c'<;>simp at this<;>first|rfl|rw [this]
theorem Qoo {p l:List Nat}:(p++l).take ((p++l).length-l.length)=p:=by
 rw [List.length_append,Nat.add_sub_cancel];simp
def Qps:Blk->Blk->Bool
 |.cells c e,.cells c' e'=>Nat.beq e e'&&eqVs c c'
 |.map l,.map m=>eqM l m
 |.gone,.gone=>true
 |.dfr,.dfr=>true
 |.iter x l c,.iter x' l' c'=>Nat.beq x x'&&(eqM l l'&&eqM c.toList c'.toList)
 |.lst s n cl e,.lst s' n' cl' e'=>Nat.beq e e'&&(decide (cl=cl')&&(eqV s s'&&eqV n n'))
 |_,_=>false
theorem Q0o {a b:Blk} (h:Qps a b=true):a=b:=by
 unfold Qps at h;split at h;simp only [Bool.and_eq_true] at h;rw [Nat.eq_of_beq_eq_true h.1,Qdk _ _ h.2];rw [Qjh h];rfl;rfl;simp only [Bool.and_eq_true] at h;rw [Nat.eq_of_beq_eq_true h.1,Qjh h.2.1,Q0q h.2.2];simp only [Bool.and_eq_true,decide_eq_true_eq] at h;rw [Nat.eq_of_beq_eq_true h.1,h.2.1,Qbi _ _ h.2.2.1,Qbi _ _ h.2.2.2];cases h
def eqAl:List (Nat×AVal)->List (Nat×AVal)->Bool
 |[],[]=>true
 |x::l,y::m=>Nat.beq x.1 y.1&&(eqV x.2 y.2&&eqAl l m)
 |_,_=>false
theorem Q0n: ∀{l m:List (Nat×AVal)},eqAl l m=true->l=m
 |[],[],_=>rfl
 |(a,x)::l,(b,y)::m,h=>by
  simp only [eqAl,Bool.and_eq_true] at h;rw [Nat.eq_of_beq_eq_true h.1,Qbi _ _ h.2.1,Q0n h.2.2]
 |[],_::_,h=>by simp [eqAl] at h
 |_::_,[],h=>by simp [eqAl] at h
def eqOV:Option AVal->Option AVal->Bool
 |none,none=>true
 |some a,some b=>eqV a b
 |_,_=>false
theorem Qbcj {a b:Option AVal} (h:eqOV a b=true):a=b:=by
 unfold eqOV at h;split at h;rfl;rw [Qbi _ _ h];cases h
def eqTT:TT->TT->Bool
 |.e,.e=>true
 |.n l v r,.n l' v' r'=>eqOV v v'&&(eqTT l l'&&eqTT r r')
 |.al l,.al m=>eqAl l m
 |_,_=>false
theorem Qua: ∀{a b:TT},eqTT a b=true->a=b
 |.e,.e,_=>rfl
 |.n l v r,.n l' v' r',h=>by
  simp only [eqTT,Bool.and_eq_true] at h;rw [Qbcj h.1,Qua h.2.1,Qua h.2.2]
 |.al l,.al m,h=>by simp only [eqTT] at h;rw [Q0n h]
 |.e,.n _ _ _,h=>by simp [eqTT] at h
 |.e,.al _,h=>by simp [eqTT] at h
 |.n _ _ _,.e,h=>by simp [eqTT] at h
 |.n _ _ _,.al _,h=>by simp [eqTT] at h
 |.al _,.e,h=>by simp [eqTT] at h
 |.al _,.n _ _ _,h=>by simp [eqTT] at h
def eqTm (a b:Tm):Bool:=Nat.beq a.len b.len&&(eqDf a.df b.df&&eqTT a.tr b.tr)
theorem Qbck {a b:Tm} (h:eqTm a b=true):a=b:=by
 simp only [eqTm,Bool.and_eq_true] at h;have h1:=Nat.eq_of_beq_eq_true h.1;have h2:=Qpt h.2.1;have h3:=Qua h.2.2;cases a;cases b;simp only at h1 h2 h3;rw [h1,h2,h3]
def eqOB:Option Blk->Option Blk->Bool
 |none,none=>true
 |some a,some b=>Qps a b
 |_,_=>false
theorem Qbci {a b:Option Blk} (h:eqOB a b=true):a=b:=by
 unfold eqOB at h;split at h;rfl;rw [Q0o h];cases h
def Qn1 (h0 h:Hp):List Nat:=h.log.take (h.log.length-h0.log.length)
def eqBs:List Blk->List Blk->Bool
 |[],[]=>true
 |a::l,b::m=>Qps a b&&eqBs l m
 |_,_=>false
theorem Q0p: ∀{l m:List Blk},eqBs l m=true->l=m
 |[],[],_=>rfl
 |a::l,b::m,h=>by
  simp only [eqBs,Bool.and_eq_true] at h;rw [Q0o h.1,Q0p h.2]
 |[],_::_,h=>by simp [eqBs] at h
 |_::_,[],h=>by simp [eqBs] at h
def Qpu (h0:Hp) (x y:Tm×Hp):Bool:=
 eqTm x.1 y.1&&(eqBs (x.2.heap.drop h0.heap.length) (y.2.heap.drop h0.heap.length)&&((Qn1 h0 x.2++Qn1 h0 y.2).all fun i=>eqOB x.2.heap[i]? y.2.heap[i]?))
theorem Qbcf {h0:Hp} {x y:Tm×Hp} (h:Qpu h0 x y=true) (tx:Touch h0 x.2) (ty:Touch h0 y.2):x.1=y.1/\x.2.heap=y.2.heap:=by
 simp only [Qpu,Bool.and_eq_true,List.all_eq_true] at h;refine ⟨Qbck h.1,List.ext_getElem? fun i=> ?_⟩;obtain ⟨px,ex,fx⟩:=tx.log;obtain ⟨py,ey,fy⟩:=ty.log;rcases Nat.lt_or_ge i h0.heap.length with hi|hi
 by_cases hm:i∈Qn1 h0 x.2++Qn1 h0 y.2;exact Qbci (h.2.2 i hm);unfold Qn1 at hm;rw [ex,ey,Qoo,Qoo] at hm;simp only [List.mem_append,not_or] at hm;rw [fx i hi hm.1,fy i hi hm.2];have:=congrArg (fun l=>l[i-h0.heap.length]?) (Q0p h.2.1);simp only [List.getElem?_drop] at this;rwa [show h0.heap.length+(i-h0.heap.length)=i by omega] at this
def Qkk (t:Tm):List Tmp->List (Nat×AVal)
 |[]=>[]
 |d::ds=>match t.get d with
  |some v=>(d,v)::Qkk t ds
  |none=>Qkk t ds
def only (t:Tm) (ds:List Tmp):Tm:=⟨t.len,.al (Qkk t ds),[]⟩
def Qge (acc:List Nat) (o:Oper):Nat:=
 o.after.toList.foldl (fun s e=>if Region.binds .any e then s|||2^e.on|||(acc[e.on]?).getD 0 else s) 0
def Qcq (acc:List Nat):List Oper->List Nat
 |[]=>acc
 |o::l=>Qcq (acc++[Qge acc o]) l
def ancB (ms:List Nat) (i j:Nat):Bool:=((ms[i]?).getD 0).testBit j
def Qh1:Nat->List Oper->Bool
 |_,[]=>true
 |i,o::l=>(o.after.toList.all fun e=> !Region.binds .any e||decide (e.on<i))&&Qh1 (i+1) l
def Qjd:List Oper->Bool
 |[]=>true
 |o::l=>(match o.dst with
  |none=>true
  |some d=>l.all fun q=>q.dst !=some d)&&Qjd l
def Qw5 (ops:Array Oper) (ms:List Nat) (all:List (Oper×Nat)):Bool:=
 all.all fun x=>(x.1.looksAt ops).all fun d=>all.all fun y=>(y.1.dst !=some d)||(y.2==x.2)||ancB ms x.2 y.2||ancB ms y.2 x.2
def Qqk:DK->Bool
 |.eff _=>true
 |_=>false
def Qtx (ms:List Nat) (ks:List (DK×Nat)):Bool:=
 ks.all fun x=> !Qqk x.1||ks.all fun y=> !Qqk y.1|| !decide (x.2<y.2)||ancB ms y.2 x.2
def Qnt (ms:List Nat) (ks:List (DK×Nat)):Bool:=
 ks.all fun x=>match x.1 with
  |.load (some b)=>ks.all fun y=>match y.1 with
   |.eff pre=>ancB ms x.2 y.2||ancB ms y.2 x.2|| !pre.contains b
   |.mk z=> !Nat.beq z b
   |_=>true
  |_=>true
def Quq (ms:List Nat) (ks:List (DK×Nat)):Bool:=
 ks.all fun x=>match x.1 with
  |.ins z d k _=>(ks.any fun y=>match y.1 with
    |.mk z'=>Nat.beq z' z&&ancB ms x.2 y.2
    |_=>false)&&ks.all fun y=>match y.1 with
    |.ins z' _ k' _=> !Nat.beq z' z||Nat.beq x.2 y.2||((keyA d k').isSome&& !Qgm k' k)
    |_=>true
  |_=>true
def Qcw (ms:List Nat) (i:Nat):Nat->List DK->List Nat
 |_,[]=>[]
 |j,k::l=>match k with
  |.fresh x _ _=>if ancB ms i j then Qcw ms i (j+1) l else x::Qcw ms i (j+1) l
  |.mk x=>x::Qcw ms i (j+1) l
  |_=>Qcw ms i (j+1) l
def Qew:List Nat->List Blk->List Blk
 |[],H=>H
 |x::ids,H=>Qew ids (H.set x .gone)
def Qfm (old:List Blk):List Nat->List Blk->List Blk
 |[],H=>H
 |x::ids,H=>Qfm old ids (match old[x]? with
  |some k=>H.set x k
  |none=>H)
inductive Res (α:Type) where
 |ok (a:α)
 |ask (x:Ask)
 |no
def resO {α:Type} (o:Option α) (x:Option Ask):Res α:=
 match o with
 |some a=> .ok a
 |none=>match x with
  |some x=> .ask x
  |none=> .no
theorem Qoc {α:Type} {o:Option α} {x:Option Ask} {a:α} (h:resO o x=.ok a):o=some a:=by
 unfold resO at h;split at h;cases h;rfl;split at h<;>cases h
structure Hq where
 hp:Hp
structure DS where
 t:Tm
 s:Hq
 nx:Nat
 kds:List DK
def isMk (x:Nat):List DK->Bool
 |[]=>false
 |.mk y::l=>Nat.beq y x||isMk x l
 |_::l=>isMk x l
def Qwf (P:Program) (ng:Cx) (t:Tm) (kds:List DK):Op->Option (Option (Nat×TypeDesc×AVal×AVal))
 |.makeMap _ none=>some none
 |.insert ty m k v=>match ev ng t m with
  |some (.map x)=>match isMk x kds with
   |true=>match P.underlying ty with
    |some (.map kt _)=>match P.underlying kt with
     |some d=>match ev ng t k,ev ng t v with
      |some kv,some vv=>match keyA d kv with
       |some _=>some (some (x,d,kv,vv))
       |none=>none
      |_,_=>none
     |none=>none
    |_=>none
   |false=>none
  |_=>none
 |_=>none
abbrev Qcz:=FuncId->List AVal->Hp->Res (AVal×Hp)
def Qlx (P:Program) (ng:Cx) (call:Qcz) (ops:Array Oper) (ms:List Nat) (r1:Nat) (i:Nat) (o:Oper) (d:DS):Res DS:=
  match Qb2 ng ops.toList (only d.t (o.looksAt ops)) o with
  |none=>match askW ng ops.toList d.t o with
    |some x=> .ask x
    |none=> .no
  |some false=> .ok ⟨putA d.t o.dst Qcm,d.s,d.nx,d.kds++[.lite]⟩
  |some true=>match Qjr o.op with
    |some c=>match Qkr P ng (only d.t (o.looksAt ops)) c with
      |some (f,args)=>match call f args ⟨Qew (Qcw ms i 0 d.kds) d.s.hp.heap,[]⟩ with
        |.ok (v,h')=> .ok ⟨putA d.t o.dst v,⟨⟨Qfm d.s.hp.heap (Qcw ms i 0 d.kds) h'.heap,h'.log++d.s.hp.log⟩⟩,d.nx,d.kds++[.eff h'.log]⟩
        |.ask x=> .ask x
        |.no=> .no
      |none=> .no
    |none=>match Qwf P ng (only d.t (o.looksAt ops)) d.kds o.op with
     |some none=>match Nat.blt d.nx r1 with
        |true=> .ok ⟨putA d.t o.dst (.map d.nx),⟨⟨d.s.hp.heap.set d.nx (.map []),d.s.hp.log⟩⟩,d.nx+1,d.kds++[.mk d.nx]⟩
        |false=> .no
     |some (some (x,dd,k,v))=>match d.s.hp.heap[x]? with
        |some (.map l)=> .ok ⟨putA d.t o.dst Qcm,⟨⟨d.s.hp.heap.set x (.map (l++[(k,v)])),d.s.hp.log⟩⟩,d.nx,d.kds++[.ins x dd k v]⟩
        |_=> .no
     |none=>match Qux P o.op with
      |.pure=>match resO (Qgl P ng (only d.t (o.looksAt ops)) o.op) (askA P ng d.t o.op d.s.hp.heap) with
        |.ok v=> .ok ⟨putA d.t o.dst v,d.s,d.nx,d.kds++[.lite]⟩
        |.ask x=> .ask x
        |.no=> .no
      |.load=>match resO (Qcv P ng (only d.t (o.looksAt ops)) o.op d.s.hp.heap) (askA P ng d.t o.op d.s.hp.heap) with
        |.ok (v,b)=> .ok ⟨putA d.t o.dst v,d.s,d.nx,d.kds++[.load b]⟩
        |.ask x=> .ask x
        |.no=> .no
      |.fresh=>match resO (Qf3 P ng (only d.t (o.looksAt ops)) o.op) (askA P ng d.t o.op d.s.hp.heap) with
        |.ok (c,e,m)=>match Nat.blt d.nx r1 with
          |true=> .ok ⟨putA d.t o.dst (m.val d.nx),⟨⟨d.s.hp.heap.set d.nx (.cells c e),d.s.hp.log⟩⟩,d.nx+1,d.kds++[.fresh d.nx c e]⟩
          |false=> .no
        |.ask x=> .ask x
        |.no=> .no
      |.eff=>match resO (effA P ng (only d.t (o.looksAt ops)) o.op ⟨Qew (Qcw ms i 0 d.kds) d.s.hp.heap,[]⟩) (askA P ng d.t o.op d.s.hp.heap) with
        |.ok (v,h')=> .ok ⟨putA d.t o.dst v,⟨⟨Qfm d.s.hp.heap (Qcw ms i 0 d.kds) h'.heap,h'.log++d.s.hp.log⟩⟩,d.nx,d.kds++[.eff h'.log]⟩
        |.ask x=> .ask x
        |.no=> .no
def dops (P:Program) (ng:Cx) (call:Qcz) (ops:Array Oper) (ms:List Nat) (r1:Nat):Nat->List Oper->DS->Res DS
 |_,[],d=> .ok d
 |i,o::l,d=>match Qlx P ng call ops ms r1 i o d with
  |.ok d'=>dops P ng call ops ms r1 (i+1) l d'
  |.ask x=> .ask x
  |.no=> .no
def Qii (P:Program):List Oper->Nat
 |[]=>0
 |o::l=>match Qjr o.op with
  |some _=>Qii P l
  |none=>match o.op with
   |.makeMap _ none=>Qii P l+1
   |_=>match Qux P o.op with
    |.fresh=>Qii P l+1
    |_=>Qii P l
def Q88 (ops:Array Oper) (ms:List Nat):Bool:=Qh1 0 ops.toList&&Qjd ops.toList&&Qw5 ops ms ops.toList.zipIdx
def Qg3 (P:Program) (ng:Cx) (call:Qcz) (ops:Array Oper) (t:Tm) (s:Hp):Res (Tm×Hp):=
 match Q88 ops (Qcq [] ops.toList) with
 |true=>match dops P ng call ops (Qcq [] ops.toList) (s.heap.length+Qii P ops.toList) 0 ops.toList ⟨t,⟨⟨s.heap++List.replicate (Qii P ops.toList) .gone,s.log⟩⟩,s.heap.length,[]⟩ with
  |.ok d=>match Qtx (Qcq [] ops.toList) d.kds.zipIdx&&(Qnt (Qcq [] ops.toList) d.kds.zipIdx&&Quq (Qcq [] ops.toList) d.kds.zipIdx) with
   |true=> .ok (d.t,d.s.hp)
   |false=> .no
  |.ask x=> .ask x
  |.no=> .no
 |false=> .no
def Qbbj (m:Nat) (o:Oper):Bool:=(List.range m).all fun j=>o.after.toList.any fun e=>Region.binds .any e&&Nat.beq e.on j
def Qlo:Nat->List Oper->Bool
 |_,[]=>true
 |k,o::l=>(o.after.toList.any fun e=>Region.binds .any e&&Nat.beq e.on k)&&Qlo (k+1) l
def Qp9 (m:Nat) (l:List Oper):Bool:=l.all fun o=>match o.guard with
 |none=>true
 |some (j,_)=>Nat.blt j m
def Qbdr (o:Oper):Bool:=
 match o.op with
 |.makeMap _ none=>true
 |_=>false
def Q02:Nat->List Oper->Bool->Option Nat
 |_,[],_=>none
 |i,o::l,seen=>match seen&&(Nat.ble i o.after.size&&Qbbj i o) with
  |true=>some i
  |false=>Q02 (i+1) l (seen||Qbdr o)
def Qpf (ops:Array Oper) (m:Nat):Bool:=(List.range m).all fun j=>ancB (Qcq [] ops.toList) m j
def Qoi (ops:Array Oper) (m:Nat):Bool:=
 Qh1 0 ops.toList&&(Qp9 m (ops.toList.take m)&&match ops.toList.drop m with
  |[]=>false
  |_::l=>Qpf ops m&&Qlo m l)
def seqS (P:Program) (ng:Cx) (call:Qcz) (all:List Oper):List Oper->Tm->Hp->Res (Tm×Hp)
 |[],t,hp=> .ok (t,hp)
 |o::l,t,hp=>match Qb2 ng all t o with
  |none=>match askW ng all t o with
   |some x=> .ask x
   |none=> .no
  |some false=>seqS P ng call all l (putA t o.dst Qcm) hp
  |some true=>match Qjr o.op with
   |some c=>match Qkr P ng t c with
    |some (f,args)=>match call f args hp with
     |.ok (v,h')=>seqS P ng call all l (putA t o.dst v) h'
     |.ask x=> .ask x
     |.no=> .no
    |none=> .no
   |none=>match resO (opA P ng t o.op hp) (askA P ng t o.op hp.heap) with
    |.ok (v,h')=>seqS P ng call all l (putA t o.dst v) h'
    |.ask x=> .ask x
    |.no=> .no
def Qip (ops:List Oper) (mask:Nat):List Nat:=
 (List.range ops.length).filter fun i=> !mask.testBit i&&(match ops[i]? with
  |some o=>o.after.toList.all fun e=> !Region.binds .any e||mask.testBit e.on
  |none=>false)
def oneS (P:Program) (ng:Cx) (call:Qcz) (all:List Oper) (i:Nat) (t:Tm) (hp:Hp):Res (Tm×Hp):=
 match all[i]? with
 |some o=>seqS P ng call all [o] t hp
 |none=> .no
def Qn8 (h0:Hp) (go:Nat->Res (Tm×Hp)) (x:Tm×Hp):List Nat->Res (Tm×Hp)
 |[]=> .ok x
 |j::l=>match go j with
  |.ok y=>match Qpu h0 x y with
   |true=>Qn8 h0 go x l
   |false=> .no
  |.ask q=> .ask q
  |.no=> .no
def allS (P:Program) (ng:Cx) (call:Qcz) (ops:List Oper):Nat->Nat->Tm->Hp->Res (Tm×Hp)
 |0,mask,t,hp=>match Qip ops mask with
  |[]=> .ok (t,hp)
  |_::_=> .no
 |r+1,mask,t,hp=>match Qip ops mask with
  |[]=> .ok (t,hp)
  |i::is=>match oneS P ng call ops i t hp with
   |.ok (t1,h1)=>match allS P ng call ops r (mask|||2^i) t1 h1 with
    |.ok x=>Qn8 hp (fun j=>match oneS P ng call ops j t hp with
     |.ok (t2,h2)=>allS P ng call ops r (mask|||2^j) t2 h2
     |.ask q=> .ask q
     |.no=> .no) x is
    |.ask q=> .ask q
    |.no=> .no
   |.ask q=> .ask q
   |.no=> .no
def Qy3 (m:Nat) (l:List Oper):Bool:=l.all fun o=>o.after.toList.any fun e=>Region.binds .any e&&Nat.ble m e.on
def Qto (ops:Array Oper) (m:Nat):Bool:=
 Qh1 0 ops.toList&&(Qp9 m (ops.toList.take m)&&match ops.toList.drop m with
  |[]=>false
  |_::l=>Qpf ops m&&Qy3 m l)
def Qtv (P:Program) (ng:Cx) (call:Qcz) (ops:Array Oper) (m:Nat) (t:Tm) (s:Hp):Res (Tm×Hp):=
 match Qto ops m with
 |true=>match Qg3 P ng call (ops.toList.take m).toArray t s with
  |.ok (t1,s1)=>allS P ng call ops.toList (ops.size-m) (2^m-1) t1 s1
  |.ask x=> .ask x
  |.no=> .no
 |false=> .no
def Qlv (P:Program) (ng:Cx) (call:Qcz) (ops:Array Oper) (t:Tm) (s:Hp):Nat->Res (Tm×Hp)
 |0=> .no
 |m+1=>match Qtv P ng call ops m t s with
  |.no=>Qlv P ng call ops t s m
  |r=>r
def Qpj (P:Program) (ng:Cx) (call:Qcz) (ops:Array Oper) (m:Nat) (t:Tm) (s:Hp):Res (Tm×Hp):=
 match Qoi ops m with
 |true=>match Qg3 P ng call (ops.toList.take m).toArray t s with
  |.ok (t1,s1)=>seqS P ng call ops.toList (ops.toList.drop m) t1 s1
  |.ask x=> .ask x
  |.no=> .no
 |false=>Qg3 P ng call ops t s
def Quy (ops:Array Oper):Nat->Nat->Option Nat
 |0,_=>none
 |n+1,m=>match Qoi ops m with
  |true=>some m
  |false=>Quy ops n (m+1)
def Qtu (P:Program) (ng:Cx) (call:Qcz) (ops:Array Oper) (t:Tm) (s:Hp):Res (Tm×Hp):=
 match Q02 0 ops.toList false with
 |none=>match Qg3 P ng call ops t s with
  |.no=>match Quy ops ops.size 1 with
   |some m=>match Qpj P ng call ops m t s with
    |.no=>Qlv P ng call ops t s ops.size
    |r=>r
   |none=>Qlv P ng call ops t s ops.size
  |r=>r
 |some m=>Qpj P ng call ops m t s
theorem Qww (t:Tm): ∀(ds:List Tmp) (d:Nat) (v:AVal),Qi6 (Qkk t ds) d=some v->t.get d=some v/\d∈ds
 |[],_,_,h=>by simp [Qkk,Qi6] at h
 |x::ds,d,v,h=>by
  simp only [Qkk] at h;split at h;rename_i u hu;simp only [Qi6] at h;split at h;rename_i hb;cases h;have:=Nat.eq_of_beq_eq_true hb;subst this;exact ⟨hu,by simp⟩;obtain ⟨h1,h2⟩:=Qww t ds d v h;exact ⟨h1,List.mem_cons_of_mem _ h2⟩;obtain ⟨h1,h2⟩:=Qww t ds d v h;exact ⟨h1,List.mem_cons_of_mem _ h2⟩
theorem Qbkp {t:Tm} {ds:List Tmp} {d:Nat} {v:AVal} (h:(only t ds).get d=some v):t.get d=some v/\d∈ds:=Qww t ds d v (Tm.get_tr h)
theorem Qo1: ∀(l:List Oper) (acc:List Nat),∃r,Qcq acc l=acc++r/\r.length=l.length
 |[],acc=>⟨[],by simp [Qcq]⟩
 |o::l,acc=>by
  obtain ⟨r,h1,h2⟩:=Qo1 l (acc++[Qge acc o]);exact ⟨Qge acc o::r,by simp [Qcq,h1],by simp [h2]⟩
theorem Qs9: ∀(l:List Oper) (acc:List Nat) (i:Nat) (o:Oper),l[i]? =some o->(Qcq acc l)[acc.length+i]? =some (Qge ((Qcq acc l).take (acc.length+i)) o)
 |[],_,_,_,h=>by simp at h
 |q::l,acc,0,o,h=>by
  simp at h;subst h;simp only [Qcq];obtain ⟨r,h1,_⟩:=Qo1 l (acc++[Qge acc q]);rw [h1];simp
 |q::l,acc,i+1,o,h=>by
  have:=Qs9 l (acc++[Qge acc q]) i o (by simpa using h);simp only [Qcq];rw [show acc.length+(i+1)=(acc++[Qge acc q]).length+i by simp;omega];exact this
theorem Q6f (acc:List Nat) (o:Oper) (j:Nat) (h:(Qge acc o).testBit j=true): ∃e,e∈o.after/\Region.binds .any e=true/\(e.on=j\/((acc[e.on]?).getD 0).testBit j=true):=by
 unfold Qge at h;have key: ∀(l:List Edge) (s:Nat),(l.foldl (fun s e=>if Region.binds .any e then s|||2^e.on|||(acc[e.on]?).getD 0 else s) s).testBit j=true->
   s.testBit j=true\/ ∃e,e∈l/\Region.binds .any e=true/\(e.on=j\/((acc[e.on]?).getD 0).testBit j=true):=by
  intro l;induction l with
  |nil=>intro s h;exact .inl h
  |cons e l ih=>
   intro s h;simp only [List.foldl_cons] at h;rcases ih _ h with h|⟨e',h1,h2,h3⟩
   split at h;rename_i hb;simp only [Nat.testBit_or,Bool.or_eq_true,Nat.testBit_two_pow,decide_eq_true_eq] at h;rcases h with (h|h)|h
   exact .inl h;exact .inr ⟨e,by simp,hb,.inl h⟩;exact .inr ⟨e,by simp,hb,.inr h⟩;exact .inl h;exact .inr ⟨e',by simp [h1],h2,h3⟩
 rcases key _ _ h with h|⟨e,h1,h2,h3⟩;simp at h;exact ⟨e,by simpa using h1,h2,h3⟩
theorem Qpk: ∀(l:List Oper) (k:Nat),Qh1 k l=true-> ∀(i:Nat) (o:Oper),l[i]? =some o-> ∀e,e∈o.after->Region.binds .any e=true->e.on<k+i
 |[],_,_,i,o,h=>by simp at h
 |q::l,k,hk,0,o,h=>by
  simp at h;subst h;intro e he hb;simp only [Qh1,Bool.and_eq_true,List.all_eq_true] at hk;have:=hk.1 e (by simpa using he);simpa [hb] using this
 |q::l,k,hk,i+1,o,h=>by
  simp only [Qh1,Bool.and_eq_true] at hk;intro e he hb;have:=Qpk l (k+1) hk.2 i o (by simpa using h) e he hb;omega
theorem Qz4: ∀(l:List Oper),Qjd l=true-> ∀(i j:Nat) (x y:Oper) (d:Nat),l[i]? =some x->l[j]? =some y->x.dst=some d->y.dst=some d->i=j
 |[],_,i,_,_,_,_,h=>by simp at h
 |q::l,hk,0,0,_,_,_,_=>by intros;rfl
 |q::l,hk,0,j+1,x,y,d,hx=>by
  intro hy hxd hyd;simp at hx;subst hx;simp only [Qjd,hxd,Bool.and_eq_true,List.all_eq_true] at hk;have:=hk.1 y (List.mem_of_getElem? (by simpa using hy));simp [hyd] at this
 |q::l,hk,i+1,0,x,y,d,hx=>by
  intro hy hxd hyd;simp at hy;subst hy;simp only [Qjd,hyd,Bool.and_eq_true,List.all_eq_true] at hk;have:=hk.1 x (List.mem_of_getElem? (by simpa using hx));simp [hxd] at this
 |q::l,hk,i+1,j+1,x,y,d,hx=>by
  intro hy hxd hyd;simp only [Qjd,Bool.and_eq_true] at hk;have:=Qz4 l hk.2 i j x y d (by simpa using hx) (by simpa using hy) hxd hyd;omega
theorem Qfh {α:Type} {l:List α} {i:Nat} {a:α} (h:l[i]? =some a):(a,i)∈l.zipIdx:=by
 rw [List.mem_zipIdx_iff_getElem?];exact h
theorem Qblb {ops:Array Oper} {ms:List Nat} (h:Qw5 ops ms ops.toList.zipIdx=true) (i j:Nat) (x y:Oper) (d:Nat) (hx:ops[i]? =some x) (hy:ops[j]? =some y) (hd:d∈x.looksAt ops) (hyd:y.dst=some d) (hji:j≠i):
  ancB ms i j=true\/ancB ms j i=true:=by
 unfold Qw5 at h;simp only [List.all_eq_true] at h;have:=h (x,i) (Qfh (by simpa using hx)) d hd (y,j) (Qfh (by simpa using hy));simpa [hyd,hji] using this
theorem Qbb2 {ms:List Nat} {ks:List DK} (h:Qtx ms ks.zipIdx=true) (i j:Nat) (p q:List Nat) (hij:i<j) (hi:ks[i]? =some (.eff p)) (hj:ks[j]? =some (.eff q)):ancB ms j i=true:=by
 unfold Qtx at h;simp only [List.all_eq_true] at h;have h1:=h (.eff p,i) (Qfh hi);simp only [Qqk,Bool.not_true,Bool.false_or,List.all_eq_true] at h1;have h2:=h1 (.eff q,j) (Qfh hj);simpa [Qqk,hij] using h2
theorem Qbjf {ms:List Nat} {ks:List DK} (h:Qnt ms ks.zipIdx=true) (i j b:Nat) (pre:List Nat) (hi:ks[i]? =some (.load (some b))) (hj:ks[j]? =some (.eff pre)) (h1: ¬ancB ms i j=true) (h2: ¬ancB ms j i=true):b∉pre:=by
 unfold Qnt at h;simp only [List.all_eq_true] at h;have h3:=h (.load (some b),i) (Qfh hi);simp only [List.all_eq_true] at h3;have h4:=h3 (.eff pre,j) (Qfh hj);simpa [h1,h2] using h4
theorem Qbje {ms:List Nat} {ks:List DK} (h:Qnt ms ks.zipIdx=true) (i j b:Nat) (hi:ks[i]? =some (.load (some b))) (hj:ks[j]? =some (.mk b)):False:=by
 unfold Qnt at h;simp only [List.all_eq_true] at h;have h3:=h (.load (some b),i) (Qfh hi);simp only [List.all_eq_true] at h3;have h4:=h3 (.mk b,j) (Qfh hj);simp at h4
theorem Q1s {ms:List Nat} {ks:List DK} (h:Quq ms ks.zipIdx=true) (i z:Nat) (d:TypeDesc) (k v:AVal) (hi:ks[i]? =some (.ins z d k v)):
  (∃j,ks[j]? =some (.mk z)/\ancB ms i j=true)/\ ∀j d' k' v',i≠j->ks[j]? =some (.ins z d' k' v')->(∃u,keyA d k'=some u)/\Qgm k' k=false:=by
 unfold Quq at h;simp only [List.all_eq_true] at h;have h1:=h (.ins z d k v,i) (Qfh hi);simp only [Bool.and_eq_true,List.any_eq_true,List.all_eq_true] at h1;obtain ⟨⟨⟨y,j⟩,hy,h2⟩,h3⟩:=h1;constructor;simp only at h2;split at h2;rename_i z';simp only [Bool.and_eq_true] at h2;have:=Nat.eq_of_beq_eq_true h2.1;subst this;exact ⟨j,List.mem_zipIdx_iff_getElem?.1 hy,h2.2⟩;cases h2;intro j d' k' v' hij hj;have h4:=h3 (.ins z d' k' v',j) (Qfh hj);have e1:Nat.beq z z=true:=Nat.beq_refl z;have e2:Nat.beq i j=false:=by
  cases hb:Nat.beq i j with
  |false=>rfl
  |true=>exact absurd (Nat.eq_of_beq_eq_true hb) hij
 simp only [e1,e2,Bool.not_true,Bool.false_or,Bool.and_eq_true,Option.isSome_iff_exists,Bool.not_eq_true'] at h4;exact h4
theorem Q6d (ms:List Nat) (i x:Nat): ∀(l:List DK) (k:Nat),x∈Qcw ms i k l↔(∃j c e,l[j]? =some (DK.fresh x c e)/\ancB ms i (k+j)=false)\/ ∃j:Nat,l[j]? =some (DK.mk x)
 |[],k=>by simp [Qcw]
 |q::l,k=>by
  have ih:=Q6d ms i x l (k+1);have step:(∃j c e,l[j]? =some (DK.fresh x c e)/\ancB ms i (k+1+j)=false)↔ ∃j c e,(q::l)[j+1]? =some (DK.fresh x c e)/\ancB ms i (k+(j+1))=false:=by
   constructor;rintro ⟨j,c,e,h1,h2⟩;exact ⟨j,c,e,by simpa using h1,by rw [show k+(j+1)=k+1+j by omega];exact h2⟩;rintro ⟨j,c,e,h1,h2⟩;exact ⟨j,c,e,by simpa using h1,by rw [show k+1+j=k+(j+1) by omega];exact h2⟩
  have split0:(∃j c e,(q::l)[j]? =some (DK.fresh x c e)/\ancB ms i (k+j)=false)↔((∃c e,q=DK.fresh x c e/\ancB ms i k=false)\/ ∃j c e,(q::l)[j+1]? =some (DK.fresh x c e)/\ancB ms i (k+(j+1))=false):=by
   constructor
   ·rintro ⟨j,c,e,h1,h2⟩
    cases j with
    |zero=>exact .inl ⟨c,e,by simpa using h1,by simpa using h2⟩
    |succ j=>exact .inr ⟨j,c,e,h1,h2⟩
   rintro (⟨c,e,h1,h2⟩|⟨j,c,e,h1,h2⟩);exact ⟨0,c,e,by simp [h1],by simpa using h2⟩;exact ⟨j+1,c,e,h1,h2⟩
  have splitM:(∃j:Nat,(q::l)[j]? =some (DK.mk x))↔(q=DK.mk x\/ ∃j:Nat,l[j]? =some (DK.mk x)):=by
   constructor
   ·rintro ⟨j,h1⟩
    cases j with
    |zero=>exact .inl (by simpa using h1)
    |succ j=>exact .inr ⟨j,by simpa using h1⟩
   rintro (h1|⟨j,h1⟩);exact ⟨0,by simp [h1]⟩;exact ⟨j+1,by simpa using h1⟩
  rw [split0,<-step,splitM];have key:((∃c e,q=DK.fresh x c e/\ancB ms i k=false)\/q=DK.mk x\/x∈Qcw ms i (k+1) l)↔(((∃c e,q=DK.fresh x c e/\ancB ms i k=false)\/ ∃j c e,l[j]? =some (DK.fresh x c e)/\ancB ms i (k+1+j)=false)\/(q=DK.mk x\/ ∃j:Nat,l[j]? =some (DK.mk x))):=by
   rw [ih];constructor;rintro (h|h|h|h);exact .inl (.inl h);exact .inr (.inl h);exact .inl (.inr h);exact .inr (.inr h);rintro ((h|h)|(h|h));exact .inl h;exact .inr (.inr (.inl h));exact .inr (.inl h);exact .inr (.inr (.inr h))
  rw [<-key];simp only [Qcw];cases q with
  |fresh y c e=>
   simp only;split;rename_i ha;constructor;intro h;exact .inr (.inr h);rintro (⟨c',e',h1,h2⟩|h|h);rw [ha] at h2;cases h2;cases h;exact h;rename_i ha;simp only [List.mem_cons];constructor;rintro (h|h);exact .inl ⟨c,e,by rw [h],by simpa using ha⟩;exact .inr (.inr h);rintro (⟨c',e',h1,h2⟩|h|h);cases h1;exact .inl rfl;cases h;exact .inr h
  |lite=>simp
  |load b=>simp
  |eff p=>simp
  |ins z d k v=>simp
  |mk y=>
   simp only [List.mem_cons];constructor;rintro (h|h);exact .inr (.inl (by rw [h]));exact .inr (.inr h);rintro (⟨c',e',h1,_⟩|h1|h);cases h1;cases h1;exact .inl rfl;exact .inr h
theorem Qie: ∀(ids:List Nat) (H:List Blk),(Qew ids H).length=H.length
 |[],_=>rfl
 |x::ids,H=>by simp [Qew,Qie ids]
theorem Qj9: ∀(ids:List Nat) (H:List Blk) (x:Nat),x∉ids->(Qew ids H)[x]? =H[x]?
 |[],_,_,_=>rfl
 |y::ids,H,x,h=>by
  simp only [List.mem_cons,not_or] at h;simp only [Qew];rw [Qj9 ids _ x h.2,List.getElem?_set_ne (fun e=>h.1 e.symm)]
theorem Q6e: ∀(ids:List Nat) (H:List Blk) (x:Nat),x∈ids->x<H.length->(Qew ids H)[x]? =some .gone
 |y::ids,H,x,h,hl=>by
  simp only [Qew];by_cases hx:x∈ids;exact Q6e ids _ x hx (by simpa using hl);have:y=x:=by rcases List.mem_cons.1 h with h|h;exact h.symm;exact absurd h hx
  subst this;rw [Qj9 ids _ y hx];simp [hl]
theorem Qw9 (old:List Blk): ∀(ids:List Nat) (H:List Blk),(Qfm old ids H).length=H.length
 |[],_=>rfl
 |x::ids,H=>by
  simp only [Qfm];rw [Qw9 old ids];split<;>simp
theorem Qks (old:List Blk): ∀(ids:List Nat) (H:List Blk) (x:Nat),x∉ids->(Qfm old ids H)[x]? =H[x]?
 |[],_,_,_=>rfl
 |y::ids,H,x,h=>by
  simp only [List.mem_cons,not_or] at h;simp only [Qfm];rw [Qks old ids _ x h.2];split;rw [List.getElem?_set_ne (fun e=>h.1 e.symm)];rfl
theorem Q79 (old:List Blk): ∀(ids:List Nat) (H:List Blk) (x:Nat),x∈ids->x<old.length->old.length<=H.length->(Qfm old ids H)[x]? =old[x]?
 |y::ids,H,x,h,hl,hH=>by
  simp only [Qfm];by_cases hx:x∈ids;refine Q79 old ids _ x hx hl ?_;split<;>simpa using hH;have:y=x:=by rcases List.mem_cons.1 h with h|h;exact h.symm;exact absurd h hx
  subst this;rw [Qks old ids _ y hx];have hy:old[y]? =some old[y]:=by simp [hl]
  rw [hy];have:y<H.length:=by omega
  simp [this]
end Go.Ev
namespace Go.Ev
section
variable {P : Program} {ng : Cx} {call : Qcz} {ops : Array Oper} {ms : List Nat} {r1 : Nat}
theorem Qzy: ∀(l:List Oper) (k:Nat) (d d':DS),dops P ng call ops ms r1 k l d=.ok d'->
  ∃st:Nat->DS,st k=d/\(∀(i:Nat) (o:Oper),l[i]? =some o->Qlx P ng call ops ms r1 (k+i) o (st (k+i))=.ok (st (k+i+1)))/\st (k+l.length)=d'
 |[],k,d,d',h=>by
  simp only [dops] at h;cases h;exact ⟨fun _=>d,rfl,fun i o h=>by simp at h,rfl⟩
 |o::l,k,d,d',h=>by
  simp only [dops] at h;split at h;rename_i d1 h1;obtain ⟨st,s1,s2,s3⟩:=Qzy l (k+1) d1 d' h;refine ⟨fun i=>if i=k then d else st i,by simp,?_,?_⟩
  ·intro i q hq
   cases i with
   |zero=>
    simp at hq;subst hq;simp only [Nat.add_zero,if_true];rw [if_neg (by omega),s1];exact h1
   |succ i=>
    have:=s2 i q (by simpa using hq);simp only;rw [if_neg (by omega),if_neg (by omega)];rw [show k+(i+1)=k+1+i by omega];exact this
  simp only [List.length_cons];rw [if_neg (by omega),show k+(l.length+1)=k+1+l.length by omega];exact s3;cases h;cases h
def Qeo (P:Program) (ng:Cx) (ops:Array Oper) (ms:List Nat) (r1:Nat) (i:Nat) (o:Oper) (d d':DS) (v:AVal) (k:DK):Prop:=
 match k with
 |.lite=>d'.s.hp=d.s.hp/\d'.nx=d.nx/\Lite P ng ops.toList o (only d.t (o.looksAt ops)) v
 |.load b=>d'.s.hp=d.s.hp/\d'.nx=d.nx/\Qb2 ng ops.toList (only d.t (o.looksAt ops)) o=some true/\Qcv P ng (only d.t (o.looksAt ops)) o.op d.s.hp.heap=some (v,b)
 |.fresh x c e=>x=d.nx/\d'.nx=d.nx+1/\d.nx<r1/\Qb2 ng ops.toList (only d.t (o.looksAt ops)) o=some true/\(∃m,Qf3 P ng (only d.t (o.looksAt ops)) o.op=some (c,e,m)/\v=m.val x)/\
   d'.s.hp=⟨d.s.hp.heap.set x (.cells c e),d.s.hp.log⟩
 |.mk x=>x=d.nx/\d'.nx=d.nx+1/\d.nx<r1/\Qb2 ng ops.toList (only d.t (o.looksAt ops)) o=some true/\(∃ty,o.op=.makeMap ty none)/\v=.map x/\d'.s.hp=⟨d.s.hp.heap.set x (.map []),d.s.hp.log⟩
 |.ins x dd kk vv=>d'.nx=d.nx/\Qb2 ng ops.toList (only d.t (o.looksAt ops)) o=some true/\InsA P ng (only d.t (o.looksAt ops)) o.op x dd kk vv/\v=Qcm/\ ∃l,d.s.hp.heap[x]? =some (.map l)/\
   d'.s.hp=⟨d.s.hp.heap.set x (.map (l++[(kk,vv)])),d.s.hp.log⟩
 |.eff pre=>d'.nx=d.nx/\ ∃hm',Step P ng ops.toList o (only d.t (o.looksAt ops)) ⟨Qew (Qcw ms i 0 d.kds) d.s.hp.heap,[]⟩ v hm'/\
   d'.s.hp=⟨Qfm d.s.hp.heap (Qcw ms i 0 d.kds) hm'.heap,hm'.log++d.s.hp.log⟩/\pre=hm'.log
def Qhu (P:Program) (ng:Cx) (call:Qcz):Prop:= ∀f args hp v hp',call f args hp=.ok (v,hp')->CallP P ng f args hp (.val v) hp'
theorem Q6c {t:Tm} {kds:List DK} {op:Op} {r:Option (Nat×TypeDesc×AVal×AVal)} (h:Qwf P ng t kds op=some r):
  (r=none/\ ∃ty,op=.makeMap ty none)\/ ∃x d k v,r=some (x,d,k,v)/\InsA P ng t op x d k v:=by
 unfold Qwf at h;split at h;cases h;exact .inl ⟨rfl,_,rfl⟩;right;rename_i ty m k v;split at h;rename_i x hx;split at h;split at h;rename_i kt vt hty;split at h;rename_i d hd;split at h;rename_i kv vv hk hv;split at h;rename_i u hu;cases h;exact ⟨x,d,kv,vv,rfl,ty,m,k,v,kt,vt,u,rfl,hty,hd,hx,hk,hv,hu⟩;cases h;cases h;cases h;cases h;cases h;cases h;cases h
theorem Qbby (hcall:Qhu P ng call) {i:Nat} {o:Oper} {d d':DS} (h:Qlx P ng call ops ms r1 i o d=.ok d'):
  ∃v k,d'.t=putA d.t o.dst v/\d'.kds=d.kds++[k]/\Qeo P ng ops ms r1 i o d d' v k:=by
 unfold Qlx at h;split at h;split at h<;>cases h;rename_i hw;cases h;exact ⟨Qcm,.lite,rfl,rfl,rfl,rfl,.inl ⟨hw,rfl⟩⟩;rename_i hw;split at h;rename_i c hcl;split at h;rename_i f args hres;split at h;rename_i v s' hst;cases h;exact ⟨v,.eff s'.log,rfl,rfl,rfl,s',.call c f args v _ hw (Qur hcl) hres (hcall _ _ _ _ _ hst),rfl,rfl⟩;cases h;cases h;cases h;split at h;rename_i hmo;split at h;rename_i hlt;cases h;rcases Q6c hmo with ⟨_,ty,hty⟩|⟨x,d',k,v,hc,_⟩
 exact ⟨_,.mk d.nx,rfl,rfl,rfl,rfl,Nat.blt_eq▸hlt,hw,⟨ty,hty⟩,rfl,rfl⟩;cases hc;cases h;rename_i x dd kk vv hmo;split at h;rename_i l hl;cases h;rcases Q6c hmo with ⟨hc,_⟩|⟨x',d',k,v,hc,hi⟩
 cases hc;cases hc;exact ⟨Qcm,.ins x dd kk vv,rfl,rfl,rfl,hw,hi,rfl,l,hl,rfl⟩;cases h;split at h;split at h;rename_i v hf;cases h;exact ⟨_,.lite,rfl,rfl,rfl,rfl,.inr ⟨hw,Qoc hf⟩⟩;cases h;cases h;split at h;rename_i v b hl;cases h;exact ⟨_,.load b,rfl,rfl,rfl,rfl,hw,Qoc hl⟩;cases h;cases h;split at h;rename_i c e m hf;split at h;rename_i hlt;cases h;exact ⟨_,.fresh d.nx c e,rfl,rfl,rfl,rfl,Nat.blt_eq▸hlt,hw,⟨m,Qoc hf,rfl⟩,rfl⟩;cases h;cases h;cases h;split at h;rename_i v s' hf;cases h;exact ⟨v,.eff s'.log,rfl,rfl,rfl,s',.eff v _ hw (Qoc hf),rfl,rfl⟩;cases h;cases h
theorem Qpi {r:Option Nat} (hcall:Qhu P ng call) {t t':Tm} {shp shp':Hp} (h:Qg3 P ng call ops t shp=.ok (t',shp')):
  Touch shp shp'/\ ∀g w a (Q:Exit->Act->World->Prop),HRel ng g shp.heap w->FRel g t a->(∀a' w',Qw ng shp g w a (.normal,t',shp') .normal a' w'->Q .normal a' w')->
   wpAnyIn (FR r) 0 P .any ops Q ops.size (Array.replicate ops.size false) a w.drew:=by
 unfold Qg3 at h;generalize hms:Qcq [] ops.toList=ms at h;generalize hnf:Qii P ops.toList=nf at h;split at h;rename_i hstat;split at h;rename_i d hd;split at h;rename_i hdyn;cases h;obtain ⟨st,s1,s2,s3⟩:=Qzy _ _ _ _ hd;simp only [Nat.zero_add] at s2 s3;have hlen:ops.toList.length=ops.size:=by simp
 rw [hlen] at s3;have s2: ∀(i:Nat) (o:Oper),ops[i]? =some o->Qlx P ng call ops ms (shp.heap.length+nf) i o (st i)=Res.ok (st (i+1)):=fun i o ho=>s2 i o (by simpa using ho);have hex: ∀i,i<ops.size-> ∃v k,∃o,ops[i]? =some o/\(st (i+1)).t=putA (st i).t o.dst v/\(st (i+1)).kds=(st i).kds++[k]/\Qeo P ng ops ms (shp.heap.length+nf) i o (st i) (st (i+1)) v k:=by
  intro i hi;have ho:ops[i]? =some ops[i]:=by simp [hi]
  obtain ⟨v,k,h1,h2,h3⟩:=Qbby hcall (s2 i _ ho);exact ⟨v,k,ops[i],ho,h1,h2,h3⟩
 have hkl: ∀i,i<=ops.size->(st i).kds.length=i:=by
  intro i;induction i with
  |zero=>intro _;rw [s1];rfl
  |succ i ih=>
   intro hi;obtain ⟨v,k,o,_,_,h2,_⟩:=hex i hi;rw [h2];simp [ih (by omega)]
 have hkp: ∀i j,i<=j->j<=ops.size-> ∀m,m<i->(st i).kds[m]? =(st j).kds[m]?:=by
  intro i j hij;induction j with
  |zero=>intro _ m hmi;omega
  |succ j ih=>
   intro hj m hmi;rcases Nat.lt_or_ge i (j+1) with h9|h9
   obtain ⟨v,k,o,_,_,h2,_⟩:=hex j hj;rw [ih (by omega) (by omega) m hmi,h2,List.getElem?_append_left (by rw [hkl j (by omega)];omega)];have:i=j+1:=by omega
   rw [this]
 let kd:Nat->DK:=fun i=>((st ops.size).kds[i]?).getD .lite
 have hkd: ∀i,i<ops.size-> ∃v,∃o,ops[i]? =some o/\(st (i+1)).t=putA (st i).t o.dst v/\Qeo P ng ops ms (shp.heap.length+nf) i o (st i) (st (i+1)) v (kd i):=by
  intro i hi;obtain ⟨v,k,o,ho,h1,h2,h3⟩:=hex i hi;refine ⟨v,o,ho,h1,?_⟩;have e1:(st (i+1)).kds[i]? =some k:=by
   have hl:=hkl i (by omega);rw [h2,List.getElem?_append_right (by omega),hl];simp
  have e2:=hkp (i+1) ops.size hi (Nat.le_refl _) i (Nat.lt_succ_self i);have:kd i=k:=by simp only [kd,<-e2,e1,Option.getD_some]
  rw [this];exact h3
 have hkdi: ∀i,i<ops.size->(st ops.size).kds[i]? =some (kd i):=by
  intro i hi;have hl:i<(st ops.size).kds.length:=by rw [hkl _ (Nat.le_refl _)];exact hi
  simp only [kd,List.getElem?_eq_getElem hl,Option.getD_some]
 have hkdn: ∀i,ops.size<=i->kd i=.lite:=by
  intro i hi;have hl:(st ops.size).kds.length<=i:=by rw [hkl _ (Nat.le_refl _)];exact hi
  simp only [kd,List.getElem?_eq_none hl,Option.getD_none]
 obtain ⟨val,hval⟩: ∃val:Nat->AVal,∀i,i<ops.size-> ∃o,ops[i]? =some o/\(st (i+1)).t=putA (st i).t o.dst (val i)/\Qeo P ng ops ms (shp.heap.length+nf) i o (st i) (st (i+1)) (val i) (kd i):=by
  refine ⟨fun i=> @dite _ (i<ops.size) (Classical.propDecidable _) (fun hi=>(hkd i hi).choose) (fun _=>Qcm),fun i hi=> ?_⟩;simp only [dif_pos hi];exact (hkd i hi).choose_spec
 have hvalo: ∀(i:Nat) (o:Oper),ops[i]? =some o->i<ops.size/\(st (i+1)).t=putA (st i).t o.dst (val i)/\Qeo P ng ops ms (shp.heap.length+nf) i o (st i) (st (i+1)) (val i) (kd i):=by
  intro i o ho;have hi:i<ops.size:=(Array.getElem?_eq_some_iff.1 ho).1;obtain ⟨o',ho',h1,h2⟩:=hval i hi;rw [ho] at ho';cases ho';exact ⟨hi,h1,h2⟩
 have hnx: ∀i j,i<=j->j<=ops.size->(st i).nx<=(st j).nx:=by
  intro i j hij;induction j with
  |zero=>
   intro _;have:i=0:=by omega
   subst this;exact Nat.le_refl _
  |succ j ih=>
   intro hj;rcases Nat.lt_or_ge i (j+1) with h9|h9
   ·refine Nat.le_trans (ih (by omega) (by omega)) ?_
    obtain ⟨o,ho,_,h2⟩:=hval j hj;unfold Qeo at h2;cases hk:kd j with
    |lite=>rw [hk] at h2;rw [h2.2.1];exact Nat.le_refl _
    |load b=>rw [hk] at h2;rw [h2.2.1];exact Nat.le_refl _
    |fresh x c e=>rw [hk] at h2;rw [h2.2.1];omega
    |mk x=>rw [hk] at h2;rw [h2.2.1];omega
    |ins x dd kk vv=>rw [hk] at h2;rw [h2.1];exact Nat.le_refl _
    |eff pre=>rw [hk] at h2;rw [h2.1];exact Nat.le_refl _
   have:i=j+1:=by omega
   rw [this];exact Nat.le_refl _
 have hnx0:(st 0).nx=shp.heap.length:=by rw [s1]
 have hfr: ∀j x c e,kd j=.fresh x c e->j<ops.size/\x=(st j).nx/\(st (j+1)).nx=x+1/\shp.heap.length<=x/\x<shp.heap.length+nf:=by
  intro j x c e hj;have hjn:j<ops.size:=by
   rcases Nat.lt_or_ge j ops.size with h9|h9;exact h9;rw [hkdn j h9] at hj;cases hj
  obtain ⟨o,ho,_,h2⟩:=hval j hjn;unfold Qeo at h2;rw [hj] at h2;obtain ⟨e1,e2,e3,_⟩:=h2;have:=hnx 0 j (Nat.zero_le _) (by omega);refine ⟨hjn,e1,by rw [e1];exact e2,by omega,by omega⟩
 have hfm: ∀j x,kd j=.mk x->j<ops.size/\x=(st j).nx/\(st (j+1)).nx=x+1/\shp.heap.length<=x/\x<shp.heap.length+nf:=by
  intro j x hj;have hjn:j<ops.size:=by
   rcases Nat.lt_or_ge j ops.size with h9|h9;exact h9;rw [hkdn j h9] at hj;cases hj
  obtain ⟨o,ho,_,h2⟩:=hval j hjn;unfold Qeo at h2;rw [hj] at h2;obtain ⟨e1,e2,e3,_⟩:=h2;have:=hnx 0 j (Nat.zero_le _) (by omega);refine ⟨hjn,e1,by rw [e1];exact e2,by omega,by omega⟩
 have h0heap:(st 0).s.hp.heap=shp.heap++List.replicate nf .gone:=by rw [s1]
 have h0len:(st 0).s.hp.heap.length=shp.heap.length+nf:=by rw [h0heap];simp
 have hmask: ∀i,i<=ops.size-> ∀x,x∈Qcw ms i 0 (st i).kds↔Qb3 kd (fun i j=>ancB ms i j=true) i x:=by
  intro i hi x;rw [Q6d];constructor;rintro (⟨j,c,e,h1,h2⟩|⟨j,h1⟩);have hj:j<i:=by
   have:=(List.getElem?_eq_some_iff.1 h1).1;rw [hkl i hi] at this;exact this
  have e1:=hkp i ops.size hi (Nat.le_refl _) j hj;rw [h1] at e1;refine .inl ⟨j,c,e,hj,?_,?_⟩;have:=hkdi j (by omega);rw [<-e1] at this;exact (Option.some.inj this).symm;rw [Nat.zero_add] at h2;show¬ancB ms i j=true;rw [h2];simp;have hj:j<i:=by
   have:=(List.getElem?_eq_some_iff.1 h1).1;rw [hkl i hi] at this;exact this
  have e1:=hkp i ops.size hi (Nat.le_refl _) j hj;rw [h1] at e1;refine .inr ⟨j,hj,?_⟩;have:=hkdi j (by omega);rw [<-e1] at this;exact (Option.some.inj this).symm;rintro (⟨j,c,e,hj,h1,h2⟩|⟨j,hj,h1⟩);refine .inl ⟨j,c,e,?_,?_⟩;rw [hkp i ops.size hi (Nat.le_refl _) j hj,hkdi j (by omega),h1];rw [Nat.zero_add];simpa using h2;exact .inr ⟨j,by rw [hkp i ops.size hi (Nat.le_refl _) j hj,hkdi j (by omega),h1]⟩
 have hlenm: ∀i,i<=ops.size->(st 0).s.hp.heap.length<=(st i).s.hp.heap.length:=by
  intro i;induction i with
  |zero=>intro _;exact Nat.le_refl _
  |succ i ih=>
   intro hi;refine Nat.le_trans (ih (by omega)) ?_;obtain ⟨o,ho,_,h2⟩:=hval i hi;unfold Qeo at h2;cases hk:kd i with
   |lite=>rw [hk] at h2;rw [h2.1];exact Nat.le_refl _
   |load b=>rw [hk] at h2;rw [h2.1];exact Nat.le_refl _
   |fresh x c e=>rw [hk] at h2;rw [h2.2.2.2.2.2];simp
   |mk x=>rw [hk] at h2;rw [h2.2.2.2.2.2.2];simp
   |ins x dd kk vv=>rw [hk] at h2;obtain ⟨_,_,_,_,l,_,h⟩:=h2;rw [h];simp
   |eff pre=>
    rw [hk] at h2;obtain ⟨_,hm',h3,h4,_⟩:=h2;rw [h4];have:=h3.touch.len;simp only [Qie] at this;simp only [Qw9];exact this
 have T:DTr P ng ops shp.heap.length (fun i=>(st i).t) (fun i=>only (st i).t (match ops[i]? with
   |some o=>o.looksAt ops
   |none=>[])) (fun i=>(st i).s.hp) val kd (fun i j=>ancB ms i j=true):=by
  simp only [Q88,Bool.and_eq_true] at hstat;obtain ⟨⟨q1,q2⟩,q3⟩:=hstat;simp only [Bool.and_eq_true] at hdyn;obtain ⟨q4,q5,q6⟩:=hdyn;have hedge: ∀(i:Nat) (o:Oper),ops[i]? =some o-> ∀e,e∈o.after->Region.binds .any e=true->e.on<i:=by
   intro i o ho e he hb;have:=Qpk ops.toList 0 q1 i o (by simpa using ho) e he hb;omega
  constructor;show shp.heap.length<=(st 0).s.hp.heap.length;rw [h0len];omega;exact hkdn;exact hedge;intro i j hij;have hij:ancB ms i j=true:=hij;unfold ancB at hij;have hi:i<ops.size:=by
   rcases Nat.lt_or_ge i ops.size with h9|h9;exact h9;obtain ⟨r,e1,e2⟩:=Qo1 ops.toList [];have:ms.length=ops.size:=by rw [<-hms,e1];simp [e2]
   rw [List.getElem?_eq_none (by omega)] at hij;simp at hij
  have ho:ops[i]? =some ops[i]:=by simp [hi]
  have h1:=Qs9 ops.toList [] i ops[i] (by simp [hi]);rw [hms] at h1;simp only [List.length_nil,Nat.zero_add] at h1;rw [h1,Option.getD_some] at hij;obtain ⟨e,he,hb,h3⟩:=Q6f _ _ _ hij;refine ⟨ops[i],ho,e,he,hb,?_⟩;rcases h3 with h3|h3
  exact .inl h3;right;show ancB ms e.on j=true;unfold ancB;have hlt:=hedge i _ ho e he hb;rw [List.getElem?_take,if_pos hlt] at h3;exact h3;intro i j x y d hx hy hxd hyd;exact Qz4 ops.toList q2 i j x y d (by simpa using hx) (by simpa using hy) hxd hyd;intro i d v hi hd;have ho:ops[i]? =some ops[i]:=by simp [hi]
  simp only [ho] at hd;obtain ⟨h1,h2⟩:=Qbkp hd;refine ⟨h1,fun j y hy hyd hji=> ?_⟩;exact Qblb q3 i j _ y d ho hy h2 hyd hji;intro i;rfl;intro i j hij hi hj;have hi': ∃p,kd i=.eff p:=by cases hk:kd i<;>rw [hk] at hi<;>first|exact hi.elim|exact ⟨_,rfl⟩
  have hj': ∃p,kd j=.eff p:=by cases hk:kd j<;>rw [hk] at hj<;>first|exact hj.elim|exact ⟨_,rfl⟩
  obtain ⟨p,hp⟩:=hi';obtain ⟨q,hq⟩:=hj';have hjn:j<ops.size:=by
   rcases Nat.lt_or_ge j ops.size with h9|h9;exact h9;rw [hkdn j h9] at hq;cases hq
  have e1:=hkdi i (by omega);have e2:=hkdi j hjn;rw [s3] at e1 e2;exact Qbb2 q4 i j p q hij (by rw [e1,hp]) (by rw [e2,hq]);intro i b j pre hi hj h1 h2;have hin:i<ops.size:=by
   rcases Nat.lt_or_ge i ops.size with h9|h9;exact h9;rw [hkdn i h9] at hi;cases hi
  have hjn:j<ops.size:=by
   rcases Nat.lt_or_ge j ops.size with h9|h9;exact h9;rw [hkdn j h9] at hj;cases hj
  have e1:=hkdi i hin;have e2:=hkdi j hjn;rw [s3] at e1 e2;exact Qbjf q5 i j b pre (by rw [e1,hi]) (by rw [e2,hj]) h1 h2;intro i o ho;exact (hvalo i o ho).2.1;intro i j x c e c' e' hi hj;obtain ⟨a1,a2,a3,_⟩:=hfr i x c e hi;obtain ⟨b1,b2,b3,_⟩:=hfr j x c' e' hj;rcases Nat.lt_trichotomy i j with h9|h9|h9
  have:=hnx (i+1) j h9 (by omega);omega;exact h9;have:=hnx (j+1) i h9 (by omega);omega;intro i j x hi hj;obtain ⟨a1,a2,a3,_⟩:=hfm i x hi;obtain ⟨b1,b2,b3,_⟩:=hfm j x hj;rcases Nat.lt_trichotomy i j with h9|h9|h9
  have:=hnx (i+1) j h9 (by omega);omega;exact h9;have:=hnx (j+1) i h9 (by omega);omega;intro i j x c e hi hj;obtain ⟨a1,a2,a3,_⟩:=hfm i x hi;obtain ⟨b1,b2,b3,_⟩:=hfr j x c e hj;rcases Nat.lt_trichotomy i j with h9|h9|h9
  have:=hnx (i+1) j h9 (by omega);omega;subst h9;rw [hi] at hj;cases hj;have:=hnx (j+1) i h9 (by omega);omega;intro i j b hi hj;have hin:i<ops.size:=by
   rcases Nat.lt_or_ge i ops.size with h9|h9;exact h9;rw [hkdn i h9] at hi;cases hi
  have hjn:=(hfm j b hj).1;have e1:=hkdi i hin;have e2:=hkdi j hjn;rw [s3] at e1 e2;exact Qbje q5 i j b (by rw [e1,hi]) (by rw [e2,hj]);intro i x d' k v hi;have hin:i<ops.size:=by
   rcases Nat.lt_or_ge i ops.size with h9|h9;exact h9;rw [hkdn i h9] at hi;cases hi
  have e1:=hkdi i hin;rw [s3] at e1;obtain ⟨⟨j,h1,h2⟩,_⟩:=Q1s q6 i x d' k v (by rw [e1,hi]);refine ⟨j,?_,h2⟩;have hjn:j<ops.size:=by
   have:=(List.getElem?_eq_some_iff.1 h1).1;rw [<-s3,hkl _ (Nat.le_refl _)] at this;exact this
  have e2:=hkdi j hjn;rw [s3,h1] at e2;exact (Option.some.inj e2).symm;intro i j x d1 k v d2 k' v' hij hi hj;have hin:i<ops.size:=by
   rcases Nat.lt_or_ge i ops.size with h9|h9;exact h9;rw [hkdn i h9] at hi;cases hi
  have hjn:j<ops.size:=by
   rcases Nat.lt_or_ge j ops.size with h9|h9;exact h9;rw [hkdn j h9] at hj;cases hj
  have e1:=hkdi i hin;have e2:=hkdi j hjn;rw [s3] at e1 e2;exact (Q1s q6 i x d1 k v (by rw [e1,hi])).2 j d2 k' v' hij (by rw [e2,hj]);intro i o ho;obtain ⟨hi,_,h2⟩:=hvalo i o ho;unfold Qeo at h2;simp only [ho];cases hk:kd i with
  |lite=>rw [hk] at h2;exact ⟨h2.1,h2.2.2⟩
  |load b=>rw [hk] at h2;exact ⟨h2.1,h2.2.2.1,h2.2.2.2⟩
  |fresh x c e=>
   rw [hk] at h2;obtain ⟨_,_,_,x0,x1⟩:=hfr i x c e hk;refine ⟨h2.2.2.2.1,h2.2.2.2.2.1,x0,?_,h2.2.2.2.2.2⟩;rw [h0heap,List.getElem?_append_right x0,List.getElem?_replicate,if_pos (by omega)]
  |mk x=>
   rw [hk] at h2;obtain ⟨_,_,_,x0,x1⟩:=hfm i x hk;refine ⟨h2.2.2.2.1,h2.2.2.2.2.1,h2.2.2.2.2.2.1,x0,?_,h2.2.2.2.2.2.2⟩;rw [h0heap,List.getElem?_append_right x0,List.getElem?_replicate,if_pos (by omega)]
  |ins x dd kk vv=>
   rw [hk] at h2;exact ⟨h2.2.1,h2.2.2.1,h2.2.2.2.1,h2.2.2.2.2⟩
  |eff pre=>
   rw [hk] at h2;obtain ⟨_,hm',h3,h4,h5⟩:=h2;have hmi:=hmask i (by omega);have hxr: ∀x,Qb3 kd (fun i j=>ancB ms i j=true) i x->x<(st i).s.hp.heap.length:=by
    rintro x (⟨j,c,e,_,hj,_⟩|⟨j,_,hj⟩);have:=(hfr j x c e hj).2.2.2.2;have:=hlenm i (by omega);omega;have:=(hfm j x hj).2.2.2.2;have:=hlenm i (by omega);omega
   refine ⟨⟨Qew (Qcw ms i 0 (st i).kds) (st i).s.hp.heap,[]⟩,hm',h3,Qie _ _,?_,?_,?_,?_,?_,?_⟩;intro x hx;exact Q6e _ _ x ((hmi x).2 hx) (hxr x hx);intro x hx;exact Qj9 _ _ x (fun h=>hx ((hmi x).1 h));rw [h4];exact Qw9 _ _ _;intro x hx;rw [h4];refine Q79 _ _ _ x ((hmi x).2 hx) (hxr x hx) ?_;have:=h3.touch.len;simpa [Qie] using this;intro x hx;rw [h4];exact Qks _ _ _ x (fun h=>hx ((hmi x).1 h));intro x hxl hxp;obtain ⟨pr,e1,e2⟩:=h3.touch.log;simp only [List.append_nil] at e1;exact e2 x hxl (by rw [<-e1,<-h5];exact hxp)
 have htouch: ∀i,i<=ops.size->(∃q,(st i).s.hp.log=q++shp.log/\ ∀x,x<shp.heap.length->x∉q->(st i).s.hp.heap[x]? =shp.heap[x]?)/\(∀x,x<shp.heap.length->Live (st i).s.hp.heap x->Live shp.heap x)/\
   (∀(x:Nat) (la:LoopA),x<shp.heap.length->(st i).s.hp.heap[x]? =some (Blk.loop la)-> ∃l0,shp.heap[x]? =some (Blk.loop l0)/\Qkw l0 la):=by
  intro i;induction i with
  |zero=>
   intro _;rw [s1];refine ⟨⟨[],by simp,fun x hx _=>List.getElem?_append_left hx⟩,fun x hx ⟨k,hk,hne⟩=>⟨k,by simpa only [List.getElem?_append_left hx] using hk,hne⟩,fun x la hx hla=>⟨la,by simpa only [List.getElem?_append_left hx] using hla,rfl,rfl,rfl,rfl,rfl⟩⟩
  |succ i ih=>
   intro hi;obtain ⟨⟨q,i1,i2⟩,i3,i4⟩:=ih (by omega);have hs:=T.step i _ (by simp:ops[i]? =some ops[i]);obtain ⟨o,ho,_,h2⟩:=hval i hi;unfold Qeo at h2;cases hk:kd i with
   |lite=>rw [hk] at h2;rw [h2.1];exact ⟨⟨q,i1,i2⟩,i3,i4⟩
   |load b=>rw [hk] at h2;rw [h2.1];exact ⟨⟨q,i1,i2⟩,i3,i4⟩
   |fresh x c e=>
    rw [hk] at h2;rw [h2.2.2.2.2.2];have hx0:=(hfr i x c e hk).2.2.2.1;refine ⟨⟨q,i1,fun y hy hn=> ?_⟩,fun y hy hl=>i3 y hy ?_,fun y la hy hla=> ?_⟩;rw [List.getElem?_set_ne (by omega)];exact i2 y hy hn;unfold Live at hl⊢;rw [List.getElem?_set_ne (by omega)] at hl;exact hl;simp only at hla;rw [List.getElem?_set_ne (by omega)] at hla;exact i4 y la hy hla
   |mk x=>
    rw [hk] at h2;rw [h2.2.2.2.2.2.2];have hx0:=(hfm i x hk).2.2.2.1;refine ⟨⟨q,i1,fun y hy hn=> ?_⟩,fun y hy hl=>i3 y hy ?_,fun y la hy hla=> ?_⟩;rw [List.getElem?_set_ne (by omega)];exact i2 y hy hn;unfold Live at hl⊢;rw [List.getElem?_set_ne (by omega)] at hl;exact hl;simp only at hla;rw [List.getElem?_set_ne (by omega)] at hla;exact i4 y la hy hla
   |ins x dd kk vv=>
    obtain ⟨jm,hjm,_⟩:=T.insM i x dd kk vv hk;rw [hk] at h2;obtain ⟨_,_,_,_,l,_,hh⟩:=h2;rw [hh];have hx0:=(hfm jm x hjm).2.2.2.1;refine ⟨⟨q,i1,fun y hy hn=> ?_⟩,fun y hy hl=>i3 y hy ?_,fun y la hy hla=> ?_⟩;rw [List.getElem?_set_ne (by omega)];exact i2 y hy hn;unfold Live at hl⊢;rw [List.getElem?_set_ne (by omega)] at hl;exact hl;simp only at hla;rw [List.getElem?_set_ne (by omega)] at hla;exact i4 y la hy hla
   |eff pre=>
    rw [hk] at h2 hs;obtain ⟨_,hm',h3,h4,h5⟩:=h2;have hmi:=hmask i (by omega);have hnm: ∀x,x<shp.heap.length->x∉Qcw ms i 0 (st i).kds:=by
     intro x hx hin;rcases (hmi x).1 hin with ⟨j,c,e,_,hj,_⟩|⟨j,_,hj⟩
     have:=(hfr j x c e hj).2.2.2.1;omega;have:=(hfm j x hj).2.2.2.1;omega
    have hxl: ∀x,x<shp.heap.length->x<(st i).s.hp.heap.length:=fun x hx=>by
     have:=hlenm i (by omega);omega
    obtain ⟨pr,e1,e2⟩:=h3.touch.log;simp only [List.append_nil] at e1;rw [h4];refine ⟨⟨hm'.log++q,by simp [i1,List.append_assoc],fun x hx hn=> ?_⟩,fun x hx hl=>i3 x hx ?_,fun x la hx hla=> ?_⟩;simp only [List.mem_append,not_or] at hn;simp only;rw [Qks _ _ _ x (hnm x hx),e2 x (by rw [Qie];exact hxl x hx) (by rw [<-e1];exact hn.1)];simp only;rw [Qj9 _ _ x (hnm x hx)];exact i2 x hx hn.2;unfold Live at hl;simp only at hl;rw [Qks _ _ _ x (hnm x hx)] at hl;have:=h3.touch.live x (by rw [Qie];exact hxl x hx) hl;unfold Live at this⊢;simp only at this;rw [Qj9 _ _ x (hnm x hx)] at this;exact this;simp only at hla;rw [Qks _ _ _ x (hnm x hx)] at hla;obtain ⟨lb,hb,f1,f2,f3,f4,f5⟩:=h3.touch.loops x la (by rw [Qie];exact hxl x hx) hla;simp only at hb;rw [Qj9 _ _ x (hnm x hx)] at hb;obtain ⟨lc,hc,e1,e2,e3,e4,e5⟩:=i4 x lb hx hb;exact ⟨lc,hc,f1.trans e1,f2.trans e2,f3.trans e3,f4.trans e4,f5.trans e5⟩
 have htn:=htouch ops.size (Nat.le_refl _);rw [s3] at htn;have htouch0:Touch shp d.s.hp:=by
  refine ⟨?_,htn.1,htn.2.1,htn.2.2⟩;have:=hlenm ops.size (Nat.le_refl _);rw [s3,h0len] at this;omega
 refine ⟨htouch0,?_⟩;intro g w a Q hH ht hQ;have ht0:(st 0).t=t:=by rw [s1]
 have hrel0:HRel ng g (shp.heap++List.replicate nf .gone) w.drew:=by
  have hlv: ∀(i:Nat) (k:Blk),(shp.heap++List.replicate nf .gone)[i]? =some k->k≠.gone->shp.heap[i]? =some k:=by
   intro i k hk hne;rcases Nat.lt_or_ge i shp.heap.length with h9|h9
   rwa [List.getElem?_append_left h9] at hk;rw [List.getElem?_append_right h9] at hk;have:=List.mem_of_getElem? hk;simp only [List.mem_replicate] at this;exact absurd this.2 hne
  refine ⟨fun i L hi=> ?_,?_,?_,hH.glob,hH.sig,hH.frz.to rfl rfl (by simp) (Nat.le_refl _) fun b hb q2=>⟨rfl,fun j L hj ⟨k,hk,hn⟩=>q2 j L hj ⟨k,hlv j k hk hn,hn⟩⟩⟩;have:=hH.dom i L hi;exact ⟨by simp;omega,this.2⟩;intro i j L M hi hj hb ⟨k,hk,hn⟩ ⟨k',hk',hn'⟩;exact hH.inj i j L M hi hj hb ⟨k,hlv i k hk hn,hn⟩ ⟨k',hlv j k' hk' hn',hn'⟩;intro i k hi hk;rcases hH.blk0 i k (hlv i k hi hk) hk with hz|⟨L,hL,hB⟩
  exact .inl hz;exact .inr ⟨L,hL,hB.of_same rfl⟩
 have hext0:Ext g shp.heap w g (shp.heap++List.replicate nf .gone) w.drew:=by
  constructor;exact Sub.refl g;intro i L hi hn;rw [hn] at hi;cases hi;intro i L hi hn;rw [hn] at hi;cases hi;simp;intro i hi ⟨k,hk,hne⟩;rw [List.getElem?_append_left hi] at hk;exact ⟨k,hk,hne⟩;exact Nat.le_refl _;intro _ _ _;rfl;rfl;rfl;rfl
 have hno: ∀i,¬Ls (Array.replicate ops.size false) i:=by
  intro i h;unfold Ls at h;simp [Array.getElem?_replicate] at h;split at h<;>simp at h
 have I:Inv P ng ops shp.heap.length (fun i=>(st i).t) (fun i=>(st i).s.hp) val kd g shp.heap w a (Array.replicate ops.size false) 0 g (shp.heap++List.replicate nf .gone) a w.drew:=by
  refine ⟨by simp,fun i o _ hl=>absurd hl (hno i),Nat.zero_le _,.inl rfl,fun j _ _=>hno j,by rw [h0heap],fun x _ _=>by rw [h0heap],fun j x hj=>⟨fun hl=>absurd hl (hno j),fun _=> ?_⟩,fun j x c e _ hl=>absurd hl (hno j),?_,hrel0,hext0,rfl,rfl,
   fun i o d _ _ hl=>absurd hl (hno i),?_⟩
  ·obtain ⟨_,_,_,x0,x1⟩:=hfm j x hj
   refine ⟨?_,?_⟩;rw [List.getElem?_append_right x0,List.getElem?_replicate,if_pos (by omega)];cases hg:g x with
   |none=>rfl
   |some L=>have:=(hH.dom x L hg).1;omega
  ·intro j x c e hj _
   obtain ⟨_,_,_,x0,x1⟩:=hfr j x c e hj;refine ⟨?_,?_⟩;rw [List.getElem?_append_right x0,List.getElem?_replicate,if_pos (by omega)];cases hg:g x with
   |none=>rfl
   |some L=>have:=(hH.dom x L hg).1;omega
  intro d v _ hd;simp only [ht0] at hd;exact ht.1.2 d v hd
 refine Qbbv T hH rfl (by simp only [ht0];exact ht.1.1) ?_ ops.size _ 0 g _ a w.drew I ?_;intro g' a' w' k1 k2 k3 k4 k5;simp only [s3] at k1 k2 k3;have hdf:d.t.df=t.df:=by
  have key: ∀i,i<=ops.size->(st i).t.df=t.df:=by
   intro i;induction i with
   |zero=>intro _;rw [ht0]
   |succ i ih=>
    intro hi;obtain ⟨o,_,h1,_⟩:=hval i hi;rw [h1,Q7x];exact ih (by omega)
  rw [<-s3];exact key _ (Nat.le_refl _)
 exact hQ _ _ ⟨htouch0,g',trivial,k1,k2,⟨k3,by rw [hdf,k5];exact ht.2.mono k2.sub⟩,k4⟩;unfold left;have:((List.range ops.size).countP fun i=> !(Array.replicate ops.size false).getD i false)=(List.range ops.size).length:=by
  rw [List.countP_eq_length];intro i hi;simp [List.mem_range.1 hi]
 rw [this];simp;cases h;cases h;cases h;cases h
end
section
variable {F : Fence} {n : Nat} {P : Program} {QA Q : Exit -> Act -> World -> Prop}
theorem Qsy {o:Oper} {a:Act} {w:World} {K K':Act->World->Prop} (hq: ∀e a w,e≠.normal->QA e a w->Q e a w) (hk: ∀a w,K a w->K' a w) (h:o.wpIn F n P a w K QA):o.wpIn F n P a w K' Q:=by
 unfold Oper.wpIn at h⊢;refine ⟨h.1,?_⟩;have h:=h.2;generalize (o.semAt F.round a.eval).run P w=r at h⊢;cases r with
 |ok x w'=>
  cases x<;>simp only [Oper.uponIn] at h⊢ <;>first
   |exact hk _ _ h
   |exact ⟨h.1,CallsIn.mono h.2 (fun e w'' he=>by
     cases e with
     |returned v=>exact hk _ _ he
     |panicked ch=>exact hq _ _ _ (by intro h;cases h) he
     |outgrown=>obtain ⟨a1,w1,h1⟩:=he;exact ⟨a1,w1,hq _ _ _ (by intro h;cases h) h1⟩)⟩
   |exact ⟨h.1,RowsIn.mono h.2 (fun _ _ he=>hk _ _ he)⟩
   |exact ⟨h.1,RoundIn.mono h.2 (fun e w'' he=>by
     cases e with
     |returned v=>exact hk _ _ he
     |panicked ch=>exact hq _ _ _ (by intro h;cases h) he
     |outgrown=>obtain ⟨a1,w1,h1⟩:=he;exact ⟨a1,w1,hq _ _ _ (by intro h;cases h) h1⟩)⟩
 |halt x w'=>cases x<;>simp only [Oper.uponIn] at h⊢ <;>exact hq _ _ _ (by intro h;cases h) h
inductive Anc (ops:Array Oper):Nat->Nat->Prop
 |one (i j:Nat) (o:Oper) (e:Edge):ops[i]? =some o->e∈o.after->Region.binds .any e=true->e.on=j->Anc ops i j
 |more (i j:Nat) (o:Oper) (e:Edge):ops[i]? =some o->e∈o.after->Region.binds .any e=true->Anc ops e.on j->Anc ops i j
theorem Qbae (ops:Array Oper): ∀(i j:Nat),ancB (Qcq [] ops.toList) i j=true->Anc ops i j:=by
 intro i;induction i using Nat.strongRecOn with
 |_ i ih=>
  intro j h;unfold ancB at h;cases ho:ops[i]? with
  |none=>
   have hl:(Qcq [] ops.toList).length=ops.size:=by
    obtain ⟨r,h1,h2⟩:=Qo1 ops.toList [];rw [h1];simpa using h2
   rw [Array.getElem?_eq_none_iff] at ho;rw [List.getElem?_eq_none (by omega)] at h;simp at h
  |some o=>
   have hg:=Qs9 ops.toList [] i o (by simpa using ho);rw [List.length_nil,Nat.zero_add] at hg;rw [hg] at h;simp only [Option.getD_some] at h;obtain ⟨e,h1,h2,h3|h3⟩:=Q6f _ o j h;exact .one i j o e ho h1 h2 h3;rw [List.getElem?_take] at h3;by_cases hlt:e.on<i;rw [if_pos hlt] at h3;exact .more i j o e ho h1 h2 (ih e.on hlt j h3);rw [if_neg hlt] at h3;simp at h3
theorem Qzp {ops:Array Oper} {m:Nat} (h:Qpf ops m=true) {j:Nat} (hj:j<m):Anc ops m j:=by
 unfold Qpf at h;rw [List.all_eq_true] at h;exact Qbae ops m j (h j (List.mem_range.2 hj))
theorem Qyr {ops:Array Oper} {listed:Array Bool} (hcl: ∀i o,ops[i]? =some o->Ls listed i-> ∀e,e∈o.after->Region.binds .any e=true->Ls listed e.on):
  ∀{i j:Nat},Anc ops i j->(∀o,ops[i]? =some o-> ∀e,e∈o.after->Region.binds .any e=true->Ls listed e.on)->Ls listed j
 |_,_,.one i j o e ho h1 h2 h3,h=>h3▸h o ho e h1 h2
 |_,_,.more i j o e ho h1 h2 h3,h=>Qyr hcl h3 fun o' ho' e' h1' h2'=>hcl e.on o' ho' (h o ho e h1 h2) e' h1' h2'
theorem Qzi: ∀{l:List Oper} {k:Nat},Qlo k l=true-> ∀(i:Nat) (o:Oper),l[i]? =some o-> ∃e,e∈o.after/\Region.binds .any e=true/\e.on=k+i
 |[],_,_,i,o,h=>by simp at h
 |q::l,k,hc,0,o,h=>by
  simp at h;subst h;simp only [Qlo,Bool.and_eq_true,List.any_eq_true] at hc;obtain ⟨⟨e,h1,h2,h3⟩,_⟩:=hc;exact ⟨e,by simpa using h1,h2,by rw [Nat.eq_of_beq_eq_true h3];rfl⟩
 |q::l,k,hc,i+1,o,h=>by
  simp only [Qlo,Bool.and_eq_true] at hc;obtain ⟨e,h1,h2,h3⟩:=Qzi hc.2 i o (by simpa using h);exact ⟨e,h1,h2,by omega⟩
structure Cut (ops:Array Oper) (m:Nat):Prop where
 edge: ∀(i:Nat) (o:Oper),ops[i]? =some o-> ∀e,e∈o.after->Region.binds .any e=true->e.on<i
 lt:m<ops.size
 first: ∀j,j<m->Anc ops m j
 next: ∀(k:Nat) (o:Oper),m<k->ops[k]? =some o-> ∃e,e∈o.after/\Region.binds .any e=true/\e.on+1=k
 guard: ∀(i:Nat) (o:Oper),i<m->ops[i]? =some o-> ∀j want,o.guard=some (j,want)->j<m
theorem Q86 {ops:Array Oper} {m:Nat} (h:Qoi ops m=true):Cut ops m:=by
 unfold Qoi at h;simp only [Bool.and_eq_true] at h;obtain ⟨h1,h2,h3⟩:=h;split at h3;cases h3;rename_i o l hd;simp only [Bool.and_eq_true] at h3;obtain ⟨h3,h4⟩:=h3;have hlt:m<ops.size:=by
  have:(ops.toList.drop m).length=l.length+1:=by rw [hd];simp
  simp at this;omega
 have hget: ∀i,(o::l)[i]? =ops[m+i]?:=by intro i;rw [<-hd];simp
 refine ⟨fun i o ho e he hb=> ?_,hlt,fun j hj=>Qzp h3 hj,fun k o' hk ho'=> ?_,fun i o' hi ho' j want hg=> ?_⟩;have:=Qpk ops.toList 0 h1 i o (by simpa using ho) e he hb;omega;have:=hget (k-m);rw [show m+(k-m)=k by omega,ho',show k-m=(k-m-1)+1 by omega,List.getElem?_cons_succ] at this;obtain ⟨e,q1,q2,q3⟩:=Qzi h4 (k-m-1) o' this;exact ⟨e,q1,q2,by omega⟩;unfold Qp9 at h2;rw [List.all_eq_true] at h2;have hm:o'∈ops.toList.take m:=by
  refine List.mem_of_getElem? (i:=i) ?_;rw [List.getElem?_take,if_pos hi];simpa using ho'
 have:=h2 o' hm;rw [hg] at this;simpa using this
structure CutW (ops:Array Oper) (m:Nat):Prop where
 edge: ∀(i:Nat) (o:Oper),ops[i]? =some o-> ∀e,e∈o.after->Region.binds .any e=true->e.on<i
 lt:m<ops.size
 first: ∀j,j<m->Anc ops m j
 next: ∀(k:Nat) (o:Oper),m<k->ops[k]? =some o-> ∃e,e∈o.after/\Region.binds .any e=true/\m<=e.on
 guard: ∀(i:Nat) (o:Oper),i<m->ops[i]? =some o-> ∀j want,o.guard=some (j,want)->j<m
theorem Cut.weak {ops:Array Oper} {m:Nat} (C:Cut ops m):CutW ops m:=
 ⟨C.edge,C.lt,C.first,fun k o hk ho=>let ⟨e,h1,h2,h3⟩:=C.next k o hk ho;⟨e,h1,h2,by omega⟩,C.guard⟩
theorem Qbbl {ops:Array Oper} {m:Nat} (h:Qto ops m=true):CutW ops m:=by
 unfold Qto at h;simp only [Bool.and_eq_true] at h;obtain ⟨h1,h2,h3⟩:=h;split at h3;cases h3;rename_i o l hd;simp only [Bool.and_eq_true] at h3;obtain ⟨h3,h4⟩:=h3;have hlt:m<ops.size:=by
  have:(ops.toList.drop m).length=l.length+1:=by rw [hd];simp
  simp at this;omega
 have hget: ∀i,(o::l)[i]? =ops[m+i]?:=by intro i;rw [<-hd];simp
 refine ⟨fun i o ho e he hb=> ?_,hlt,fun j hj=>Qzp h3 hj,fun k o' hk ho'=> ?_,fun i o' hi ho' j want hg=> ?_⟩;have:=Qpk ops.toList 0 h1 i o (by simpa using ho) e he hb;omega;have:=hget (k-m);rw [show m+(k-m)=k by omega,ho',show k-m=(k-m-1)+1 by omega,List.getElem?_cons_succ] at this;unfold Qy3 at h4;rw [List.all_eq_true] at h4;have h5:=h4 o' (List.mem_of_getElem? this);rw [List.any_eq_true] at h5;obtain ⟨e,q1,q2⟩:=h5;simp only [Bool.and_eq_true] at q2;exact ⟨e,by simpa using q1,q2.1,Nat.le_of_ble_eq_true q2.2⟩;unfold Qp9 at h2;rw [List.all_eq_true] at h2;have hm:o'∈ops.toList.take m:=by
  refine List.mem_of_getElem? (i:=i) ?_;rw [List.getElem?_take,if_pos hi];simpa using ho'
 have:=h2 o' hm;rw [hg] at this;simpa using this
def Upto (listed:Array Bool) (n t:Nat):Prop:=listed.size=n/\ ∀i,Ls listed i↔i<t
theorem Qbog {listed:Array Bool} {n t:Nat} (h:Upto listed n t) (ht:t<n):Upto (listed.setIfInBounds t true) n (t+1):=by
 refine ⟨by simp [h.1],fun i=> ?_⟩;rw [Q3 listed t i (by rw [h.1];exact ht),h.2 i];omega
theorem Qyt {ops:Array Oper} {m:Nat} (C:Cut ops m): ∀(r t:Nat),t+r=ops.size->m<=t-> ∀(listed:Array Bool) (a:Act) (w:World),Upto listed ops.size t->wpListIn F n P ops Q (ops.toList.drop t) a w->
  wpAnyIn F n P .any ops Q r listed a w:=by
 have hready: ∀(t:Nat) (listed:Array Bool),m<=t->Upto listed ops.size t-> ∀i∈Region.ready .any ops listed,i=t:=by
  intro t listed hmt hu i hi;obtain ⟨o,hr⟩:=Qif hu.1 hi;have hno: ¬i<t:=fun h=>hr.no ((hu.2 i).2 h);rcases Nat.lt_or_ge t i with h9|h9
  obtain ⟨e,e1,e2,e3⟩:=C.next i o (by omega) hr.op;have:=(hu.2 e.on).1 (hr.edges e e1 e2);omega;omega
 intro r;induction r with
 |zero=>
  intro t ht hmt listed a w hu h;refine ⟨?_,?_⟩;rw [List.eq_nil_iff_forall_not_mem];intro i hi;have:=hready t listed hmt hu i hi;obtain ⟨o,hr⟩:=Qif hu.1 hi;have:=Qc8 hr;omega;rw [List.drop_eq_nil_of_le (by simp;omega)] at h;exact h
 |succ r ih=>
  intro t ht hmt listed a w hu h;have htn:t<ops.size:=by omega
  have ho:ops[t]? =some ops[t]:=by simp [htn]
  have hdrop:ops.toList.drop t=ops[t]::ops.toList.drop (t+1):=by
   rw [List.drop_eq_getElem_cons (by simpa using htn)];simp
  rw [hdrop] at h;constructor;intro hnil;exfalso;have hin:t∈Region.ready .any ops listed:=by
   unfold Region.ready;simp only [List.mem_filter,List.mem_range,Bool.and_eq_true,Bool.not_eq_true'];refine ⟨htn,?_,?_⟩;have:=hu.2 t;unfold Ls at this;have hs:=hu.1;simp [show t<listed.size by omega] at this⊢;exact this;rw [ho];simp only [Option.map_some,Option.getD_some,Array.all_eq_true_iff_forall_mem];intro e he;by_cases hb:Region.binds .any e=true;have:=(hu.2 e.on).2 (C.edge t _ ho e he hb);unfold Ls at this;simp [this];simp [hb]
  rw [hnil] at hin;cases hin;intro i hi;have:=hready t listed hmt hu i hi;subst this;have hnext:=fun a w (h:wpListIn F n P ops Q (ops.toList.drop (i+1)) a w)=>ih (i+1) (by omega) (by omega) (listed.setIfInBounds i true) a w (Qbog hu htn) h;unfold wpOpIn;rw [ho];simp only;unfold wpListIn at h;split;rename_i hw;rw [if_pos hw] at h;exact Qsy (fun _ _ _ _ h=>h) hnext h;rename_i hw;rw [if_neg hw] at h;exact ⟨h.1,hnext _ _ h.2⟩
theorem Qtb {ops:Array Oper} {m:Nat} (C:CutW ops m) (hq: ∀e a w,e≠.normal->QA e a w->Q e a w) (hb: ∀listed a w,Upto listed ops.size m->QA .normal a w->wpAnyIn F n P .any ops Q (ops.size-m) listed a w):
  ∀(fuel:Nat) (lA listed:Array Bool) (a:Act) (w:World),lA.size=m->listed.size=ops.size->(∀i,Ls listed i↔Ls lA i)->(∀i o,ops[i]? =some o->Ls lA i-> ∀e,e∈o.after->Region.binds .any e=true->Ls lA e.on)->left m lA=fuel->wpAnyIn F n P .any (ops.toList.take m).toArray QA fuel lA a w->
   wpAnyIn F n P .any ops Q (fuel+(ops.size-m)) listed a w:=by
 have hsz:(ops.toList.take m).toArray.size=m:=by have:=C.lt;simp;omega
 have hgetA: ∀i,i<m->(ops.toList.take m).toArray[i]? =ops[i]?:=by
  intro i hi;simp [hi]
 have lsA: ∀(lA:Array Bool),lA.size=m-> ∀i,Ls lA i->i<m:=by
  intro lA h i hi;unfold Ls at hi;rcases Nat.lt_or_ge i m with h9|h9
  exact h9;rw [Array.getD_eq_getD_getElem?,Array.getElem?_eq_none (by omega)] at hi;simp at hi
 have hmem: ∀(lA listed:Array Bool),lA.size=m->listed.size=ops.size->(∀i,Ls listed i↔Ls lA i)->(∀i o,ops[i]? =some o->Ls lA i-> ∀e,e∈o.after->Region.binds .any e=true->Ls lA e.on)->(∃j,j<m/\ ¬Ls lA j)-> ∀i∈Region.ready .any ops listed,i<m/\i∈Region.ready .any (ops.toList.take m).toArray lA:=by
  intro lA listed h1 h2 h3 hcl ⟨j,hj,hnj⟩ i hi;obtain ⟨o,hr⟩:=Qif h2 hi;have him:i<m:=by
   rcases Nat.lt_trichotomy i m with h9|h9|h9;exact h9;subst h9;refine absurd (Qyr hcl (C.first j hj) fun o' ho' e e1 e2=> ?_) hnj;rw [hr.op] at ho';cases ho';exact (h3 e.on).1 (hr.edges e e1 e2);obtain ⟨e,e1,e2,e3⟩:=C.next i o h9 hr.op;have:=lsA lA h1 _ ((h3 e.on).1 (hr.edges e e1 e2));omega
  refine ⟨him,?_⟩;unfold Region.ready;simp only [List.mem_filter,List.mem_range,Bool.and_eq_true,Bool.not_eq_true'];refine ⟨by rw [hsz];exact him,?_,?_⟩;have: ¬Ls lA i:=fun h=>hr.no ((h3 i).2 h);unfold Ls at this;simp [show i<lA.size by omega] at this⊢;exact this;rw [hgetA i him,hr.op];simp only [Option.map_some,Option.getD_some,Array.all_eq_true_iff_forall_mem];intro e he;by_cases hb:Region.binds .any e=true;have:=(h3 e.on).1 (hr.edges e he hb);unfold Ls at this;simp [this];simp [hb]
 intro fuel;induction fuel with
 |zero=>
  intro lA listed a w h1 h2 h3 hcl hf h;have hall: ∀i,i<m->Ls lA i:=by
   intro i hi;unfold left at hf;rw [List.countP_eq_zero] at hf;have:=hf i (List.mem_range.2 hi);simpa [Ls] using this
  have hu:Upto listed ops.size m:=⟨h2,fun i=>⟨fun h=>lsA lA h1 i ((h3 i).1 h),fun h=>(h3 i).2 (hall i h)⟩⟩;rw [Nat.zero_add];exact hb listed a w hu h.2
 |succ fuel ih=>
  intro lA listed a w h1 h2 h3 hcl hf h;have hex: ∃j,j<m/\ ¬Ls lA j:=by
   refine Classical.byContradiction fun hn=> ?_;have:left m lA=0:=by
    unfold left;rw [List.countP_eq_zero];intro i hi;have:Ls lA i:=Classical.byContradiction fun h=>hn ⟨i,List.mem_range.1 hi,h⟩;simpa [Ls] using this
   omega
  rw [Nat.succ_add];refine ⟨?_,?_⟩;intro hnil;exfalso;obtain ⟨j,hj,hnj,hmin⟩: ∃j,j<m/\ ¬Ls lA j/\ ∀i,i<j->Ls lA i:=by
   obtain ⟨j,hj,hnj⟩:=hex;induction j using Nat.strongRecOn with
   |_ j ihj=>
    by_cases hc: ∃i,i<j/\ ¬Ls lA i;obtain ⟨i,q1,q2⟩:=hc;exact ihj i q1 (by omega) q2;exact ⟨j,hj,hnj,fun i hi=>Classical.byContradiction fun h=>hc ⟨i,hi,h⟩⟩
  have hjn:j<ops.size:=by have:=C.lt;omega
  have ho:ops[j]? =some ops[j]:=by simp [hjn]
  have hin:j∈Region.ready .any ops listed:=by
   unfold Region.ready;simp only [List.mem_filter,List.mem_range,Bool.and_eq_true,Bool.not_eq_true'];refine ⟨hjn,?_,?_⟩;have: ¬Ls listed j:=fun h=>hnj ((h3 j).1 h);unfold Ls at this;simp [show j<listed.size by omega] at this⊢;exact this;rw [ho];simp only [Option.map_some,Option.getD_some,Array.all_eq_true_iff_forall_mem];intro e he;by_cases hb:Region.binds .any e=true;have:=(h3 e.on).2 (hmin e.on (C.edge j _ ho e he hb));unfold Ls at this;simp [this];simp [hb]
  rw [hnil] at hin;cases hin;intro i hi;obtain ⟨him,hiA⟩:=hmem lA listed h1 h2 h3 hcl hex i hi;have hop:=h.2 i hiA;obtain ⟨o,hr⟩:=Qif h2 hi;have hnl: ¬Ls lA i:=fun h=>hr.no ((h3 i).2 h);have hnext: ∀a w,wpAnyIn F n P .any (ops.toList.take m).toArray QA fuel (lA.setIfInBounds i true) a w->wpAnyIn F n P .any ops Q (fuel+(ops.size-m)) (listed.setIfInBounds i true) a w:=by
   intro a w h;refine ih _ _ a w (by simp [h1]) (by simp [h2]) (fun j=> ?_) (fun k o' ho' hk e e1 e2=> ?_) ?_ h;rw [Q3 listed i j (by have:=Qc8 hr;omega),Q3 lA i j (by omega),h3 j];rw [Q3 lA i _ (by omega)] at hk⊢;rcases hk with hk|hk
   subst hk;rw [hr.op] at ho';cases ho';exact .inr ((h3 e.on).1 (hr.edges e e1 e2));exact .inr (hcl k o' ho' hk e e1 e2);have:=Q2b him h1 hnl;omega
  unfold wpOpIn at hop⊢;rw [hgetA i him,hr.op] at hop;rw [hr.op];simp only at hop⊢;have hyl:Region.wanted o (yielded (ops.toList.take m).toArray a.tmps)=Region.wanted o (yielded ops a.tmps):=by
   unfold Region.wanted;cases hg:o.guard with
   |none=>rfl
   |some q=>
    obtain ⟨j,want⟩:=q;have:=C.guard i o him hr.op j want hg;simp only [yielded,hgetA j this]
  rw [hyl] at hop;split;rename_i hw;rw [if_pos hw] at hop;exact Qsy hq hnext hop;rename_i hw;rw [if_neg hw] at hop;exact ⟨hop.1,hnext _ _ hop.2⟩
end
section
variable {P : Program} {ng : Cx} {call : Qcz} {ops : Array Oper}
theorem Qrc (m i:Nat): ¬Ls (Array.replicate m false) i:=by
 unfold Ls;rw [Array.getD_eq_getD_getElem?,Array.getElem?_replicate];split<;>simp
theorem Qxw {r:Option Nat} (hcall:Qhu P ng call): ∀(rest:List Oper) (t t':Tm) (hp hp':Hp),seqS P ng call ops.toList rest t hp=.ok (t',hp')->
  Touch hp hp'/\ ∀(g:Inj) (w:World) (a:Act),HRel ng g hp.heap w->FRel g t a->wpListIn (FR r) 0 P ops (Qw ng hp g w a (.normal,t',hp')) rest a w
 |[],t,t',hp,hp',h=>by
  simp only [seqS] at h;cases h;exact ⟨Touch.refl _,fun g w a hH ht=>⟨Touch.refl _,g,trivial,hH,Ext.refl _ _ _,ht,rfl⟩⟩
 |o::l,t,t',hp,hp',h=>by
  have fin: ∀v h1,Step P ng ops.toList o t hp v h1->seqS P ng call ops.toList l (putA t o.dst v) h1=.ok (t',hp')->
    Touch hp hp'/\ ∀(g:Inj) (w:World) (a:Act),HRel ng g hp.heap w->FRel g t a->wpListIn (FR r) 0 P ops (Qw ng hp g w a (.normal,t',hp')) (o::l) a w:=by
   intro v h1 hst hrec;obtain ⟨ih1,ih2⟩:=Qxw hcall l _ t' h1 hp' hrec;refine ⟨hst.touch.trans ih1,fun g w a hH ht=>wpListIn_step fun K hK=> ?_⟩;refine hst.wp hH ht.1 fun g' u w' hv hH' hE=>hK _ _ ?_;refine Qou (fun e a' w'' hq=>Qw.trans hH hst.touch hE (Qhk a o.dst u).1 hq) l _ _ (ih2 g' w' _ hH' ((ht.mono hE.sub).put o.dst hv))
  simp only [seqS] at h;split at h;split at h<;>cases h;rename_i hw;exact fin _ _ (.skip hw) h;rename_i hw;split at h;rename_i c hcl;split at h;rename_i f args hres;split at h;rename_i v h1 hst;exact fin _ _ (.call c f args v _ hw (Qur hcl) hres (hcall _ _ _ _ _ hst)) h;cases h;cases h;cases h;split at h;rename_i v h1 ho;exact fin _ _ (Qwx hw (Qoc ho)) h;cases h;cases h
def Qk9 (listed:Array Bool) (n mask:Nat):Prop:=listed.size=n/\ ∀i,Ls listed i↔mask.testBit i=true
theorem Qw6 {listed:Array Bool} {mask:Nat} (h:Qk9 listed ops.size mask) {i:Nat} (hi:i∈Region.ready .any ops listed):i∈Qip ops.toList mask:=by
 obtain ⟨o,hr⟩:=Qif h.1 hi;have hlt:=Qc8 hr;unfold Qip;simp only [List.mem_filter,List.mem_range,Bool.and_eq_true,Bool.not_eq_true'];refine ⟨by simpa using hlt,?_,?_⟩;have h1: ¬mask.testBit i=true:=fun hb=>hr.no ((h.2 i).2 hb);simpa using h1;rw [show ops.toList[i]? =some o by simpa using hr.op];simp only [List.all_eq_true,Bool.or_eq_true,Bool.not_eq_true'];intro e he;cases hb:Region.binds .any e with
 |false=>exact .inl rfl
 |true=>exact .inr ((h.2 _).1 (hr.edges e (by simpa using he) hb))
theorem Qbnx {listed:Array Bool} {mask:Nat} (h:Qk9 listed ops.size mask) {i:Nat} (hi:i∈Qip ops.toList mask):i∈Region.ready .any ops listed:=by
 unfold Qip at hi;simp only [List.mem_filter,List.mem_range,Bool.and_eq_true,Bool.not_eq_true'] at hi;obtain ⟨h1,h2,h3⟩:=hi;have hlt:i<ops.size:=by simpa using h1
 have ho:ops[i]? =some ops[i]:=by simp [hlt]
 rw [show ops.toList[i]? =some ops[i] by simp [hlt]] at h3;simp only [List.all_eq_true,Bool.or_eq_true,Bool.not_eq_true'] at h3;unfold Region.ready;simp only [List.mem_filter,List.mem_range,Bool.and_eq_true,Bool.not_eq_true'];refine ⟨hlt,?_,?_⟩;have hno: ¬Ls listed i:=fun hl=>by rw [(h.2 i).1 hl] at h2;cases h2
 unfold Ls at hno;have hs:=h.1;simp [show i<listed.size by omega] at hno⊢;exact hno;rw [ho];simp only [Option.map_some,Option.getD_some,Array.all_eq_true_iff_forall_mem];intro e he;rcases h3 e (by simpa using he) with hb|hb
 simp [hb];have:=(h.2 e.on).2 hb;unfold Ls at this;simp [this]
theorem Qbjn {listed:Array Bool} {mask i:Nat} (h:Qk9 listed ops.size mask) (hi:i<ops.size):Qk9 (listed.setIfInBounds i true) ops.size (mask|||2^i):=by
 refine ⟨by simp [h.1],fun j=> ?_⟩;rw [Q3 listed i j (by rw [h.1];exact hi),h.2 j];simp only [Nat.testBit_or,Bool.or_eq_true,Nat.testBit_two_pow,decide_eq_true_eq];constructor;rintro (h|h);exact .inr h.symm;exact .inl h;rintro (h|h);exact .inr h;exact .inl h.symm
theorem Q7d {h0:Hp} {go:Nat->Res (Tm×Hp)} {x x':Tm×Hp}: ∀{l:List Nat},Qn8 h0 go x l=.ok x'->x'=x/\ ∀j,j∈l-> ∃y,go j=.ok y/\Qpu h0 x y=true
 |[],h=>by simp only [Qn8] at h;cases h;exact ⟨rfl,by simp⟩
 |k::l,h=>by
  simp only [Qn8] at h;split at h;rename_i y hy;split at h;rename_i he;obtain ⟨h1,h2⟩:=Q7d h;refine ⟨h1,fun j hj=> ?_⟩;rcases List.mem_cons.1 hj with rfl|hj
  exact ⟨y,hy,he⟩;exact h2 j hj;cases h;cases h;cases h
theorem Qk7 {F:Fence} {n:Nat} {Q Q':Exit->Act->World->Prop} (hq: ∀e a w,Q e a w->Q' e a w): ∀(r:Nat) (listed:Array Bool) (a:Act) (w:World),wpAnyIn F n P .any ops Q r listed a w->wpAnyIn F n P .any ops Q' r listed a w
 |0,listed,a,w,h=>⟨h.1,hq _ _ _ h.2⟩
 |r+1,listed,a,w,h=>by
  refine ⟨fun hn=>hq _ _ _ (h.1 hn),fun i hi=> ?_⟩;have hop:=h.2 i hi;unfold wpOpIn at hop⊢;split;rename_i ho;rw [ho] at hop;exact Qk7 hq r _ _ _ hop;rename_i o ho;rw [ho] at hop;simp only at hop;split;rename_i hw;rw [if_pos hw] at hop;exact Qsy (fun e a w _ h=>hq e a w h) (fun a w h=>Qk7 hq r _ _ _ h) hop;rename_i hw;rw [if_neg hw] at hop;exact ⟨hop.1,Qk7 hq r _ _ _ hop.2⟩
theorem Qld {rr:Option Nat} (hcall:Qhu P ng call): ∀(r mask:Nat) (t:Tm) (hp:Hp) (x:Tm×Hp),allS P ng call ops.toList r mask t hp=.ok x->
  Touch hp x.2/\ ∀(listed:Array Bool) (g:Inj) (w:World) (a:Act),Qk9 listed ops.size mask->HRel ng g hp.heap w->FRel g t a->wpAnyIn (FR rr) 0 P .any ops (Qw ng hp g w a (.normal,x.1,x.2)) r listed a w
 |0,mask,t,hp,x,h=>by
  simp only [allS] at h;split at h;rename_i hnil;cases h;refine ⟨Touch.refl _,fun listed g w a hm hH ht=>⟨?_,Touch.refl _,g,trivial,hH,Ext.refl _ _ _,ht,rfl⟩⟩;rw [List.eq_nil_iff_forall_not_mem];intro i hi;have:=Qw6 hm hi;rw [hnil] at this;cases this;cases h
 |r+1,mask,t,hp,x,h=>by
  simp only [allS] at h;split at h;rename_i hnil;cases h;refine ⟨Touch.refl _,fun listed g w a hm hH ht=>⟨fun _=>⟨Touch.refl _,g,trivial,hH,Ext.refl _ _ _,ht,rfl⟩,fun i hi=> ?_⟩⟩;have:=Qw6 hm hi;rw [hnil] at this;cases this;rename_i i is hcons;split at h;rename_i t1 h1 ho1;split at h;rename_i x0 hx0;obtain ⟨rfl,hoth⟩:=Q7d h;have one: ∀(j:Nat) (t2:Tm) (h2:Hp),oneS P ng call ops.toList j t hp=.ok (t2,h2)-> ∃o,ops[j]? =some o/\Touch hp h2/\ ∀(g:Inj) (w:World) (a:Act),HRel ng g hp.heap w->FRel g t a->wpListIn (FR rr) 0 P ops (Qw ng hp g w a (.normal,t2,h2)) [o] a w:=by
   intro j t2 h2 hj;unfold oneS at hj;split at hj;rename_i o ho;obtain ⟨b1,b2⟩:=Qxw (r:=rr) hcall [o] _ _ _ _ hj;exact ⟨o,by simpa using ho,b1,b2⟩;cases hj
  obtain ⟨_,_,T1,_⟩:=one i t1 h1 ho1;have Tx:Touch hp x.2:=T1.trans (Qld (rr:=rr) hcall r _ _ _ _ hx0).1;have every: ∀j,j∈i::is-> ∃t2 h2 y,oneS P ng call ops.toList j t hp=.ok (t2,h2)/\allS P ng call ops.toList r (mask|||2^j) t2 h2=.ok y/\y.1=x.1/\y.2.heap=x.2.heap:=by
   intro j hj;rcases List.mem_cons.1 hj with rfl|hj
   exact ⟨t1,h1,x,ho1,hx0,rfl,rfl⟩;obtain ⟨y,hy,he⟩:=hoth j hj;split at hy;rename_i t2 h2 ho2;obtain ⟨_,_,T2,_⟩:=one j t2 h2 ho2;obtain ⟨e1,e2⟩:=Qbcf he Tx (T2.trans (Qld (rr:=rr) hcall r _ _ _ _ hy).1);exact ⟨t2,h2,y,ho2,hy,e1.symm,e2.symm⟩;cases hy;cases hy
  refine ⟨Tx,fun listed g w a hm hH ht=>⟨fun hn=> ?_,fun j hj=> ?_⟩⟩;exfalso;have:=Qbnx hm (show i∈Qip ops.toList mask by rw [hcons];exact .head _);rw [hn] at this;cases this;obtain ⟨t2,h2,y,ho2,hy,e1,e2⟩:=every j (by rw [<-hcons];exact Qw6 hm hj);obtain ⟨o,ho,T2,hwp⟩:=one j t2 h2 ho2;have hjl:j<ops.size:=(Array.getElem?_eq_some_iff.1 ho).1;have hl:=hwp g w a hH ht;have hnext: ∀a' w',Qw ng hp g w a (.normal,t2,h2) .normal a' w'->wpAnyIn (FR rr) 0 P .any ops (Qw ng hp g w a (.normal,x.1,x.2)) r (listed.setIfInBounds j true) a' w':=by
   intro a' w' hk;obtain ⟨k0,g',k1,k2,k3,k4,k5⟩:=hk;refine Qk7 (fun e a'' w'' q=> ?_) _ _ _ _ ((Qld (rr:=rr) hcall r _ _ _ _ hy).2 _ g' w' a' (Qbjn hm hjl) k2 k4);obtain ⟨q0,g2,q1,q2,q3,q4,q5⟩:=Qw.trans hH T2 k3 k5 q;simp only at q2 q3 q4;rw [e2] at q2 q3;rw [e1] at q4;exact ⟨Tx,g2,q1,q2,q3,q4,q5⟩
  unfold wpOpIn;rw [ho];simp only;unfold wpListIn at hl;split;rename_i hw;rw [if_pos hw] at hl;refine Qsy (fun e a' w' hne hk=> ?_) (fun a' w' hk=>hnext a' w' hk) hl;obtain ⟨_,g2,q1,_⟩:=hk;cases e<;>first|exact absurd rfl hne|cases q1
  rename_i hw;rw [if_neg hw] at hl;exact ⟨hl.1,hnext _ _ hl.2⟩;cases h;cases h;cases h;cases h
theorem Qz1 {r:Option Nat} (hm:P.follows .mixedOrders=true) (hcall:Qhu P ng call) {t t':Tm} {shp shp':Hp} (h:Qtu P ng call ops t shp=.ok (t',shp')):
  Touch shp shp'/\ ∀(id:Nat) g w a,HRel ng g shp.heap w->FRel g t a->(Code.region id ops true).wpIn (FR r) 0 P (Qw ng shp g w a (.normal,t',shp')) a w:=by
 have plain:Qg3 P ng call ops t shp=.ok (t',shp')->Touch shp shp'/\ ∀(id:Nat) g w a,HRel ng g shp.heap w->FRel g t a->(Code.region id ops true).wpIn (FR r) 0 P (Qw ng shp g w a (.normal,t',shp')) a w:=by
  intro h;obtain ⟨h1,h2⟩:=Qpi (r:=r) hcall h;exact ⟨h1,fun id g w a hH ht=>wpIn_region_any hm (h2 g w a _ hH ht fun _ _ q=>q)⟩
 have arm: ∀m,Qpj P ng call ops m t shp=.ok (t',shp')->Touch shp shp'/\ ∀(id:Nat) g w a,HRel ng g shp.heap w->FRel g t a->(Code.region id ops true).wpIn (FR r) 0 P (Qw ng shp g w a (.normal,t',shp')) a w:=by
  intro m h;unfold Qpj at h;split at h;rename_i hok;have C:=Q86 hok;split at h;rename_i t1 s1 h1;obtain ⟨a1,a2⟩:=Qpi (r:=r) hcall h1;obtain ⟨b1,b2⟩:=Qxw (r:=r) hcall _ _ _ _ _ h;refine ⟨a1.trans b1,fun id g w a hH ht=>wpIn_region_any hm ?_⟩;have hsz:(ops.toList.take m).toArray.size=m:=by have:=C.lt;simp;omega
  have hA:=a2 g w a (fun e a' w'=>e=.normal/\Qw ng shp g w a (.normal,t1,s1) .normal a' w') hH ht (fun a' w' q=>⟨rfl,q⟩);rw [hsz] at hA;have key:=Qtb C.weak (F:=FR r) (n:=0) (P:=P) (Q:=Qw ng shp g w a (.normal,t',shp')) (QA:=fun e a' w'=>e=.normal/\Qw ng shp g w a (.normal,t1,s1) .normal a' w') (fun e a w hne h=>absurd h.1 hne)
   (fun listed a' w' hu h=>Qyt C (ops.size-m) m (by have:=C.lt;omega) (Nat.le_refl _) listed a' w' hu (by
    obtain ⟨_,k0,g',k1,k2,k3,k4,k5⟩:=h;exact Qou (fun e a'' w'' q=>Qw.trans hH a1 k3 k5 q) _ _ _ (b2 g' w' a' k2 k4))) m (Array.replicate m false) (Array.replicate ops.size false) a w.drew (by simp) (by simp)
   (fun i=>by unfold Ls;simp [Array.getElem?_replicate];split<;>split<;>simp) (fun i o _ hi=>absurd hi (Qrc m i)) ?_ hA
  rw [show m+(ops.size-m)=ops.size by have:=C.lt;omega] at key;exact key;unfold left;have:((List.range m).countP fun i=> !(Array.replicate m false).getD i false)=(List.range m).length:=by
   rw [List.countP_eq_length];intro i hi;simp [List.mem_range.1 hi]
  rw [this];simp;cases h;cases h;exact plain h
 have all: ∀m,Qtv P ng call ops m t shp=.ok (t',shp')->Touch shp shp'/\ ∀(id:Nat) g w a,HRel ng g shp.heap w->FRel g t a->(Code.region id ops true).wpIn (FR r) 0 P (Qw ng shp g w a (.normal,t',shp')) a w:=by
  intro m h;unfold Qtv at h;split at h;rename_i hok;have C:=Qbbl hok;split at h;rename_i t1 s1 h1;obtain ⟨a1,a2⟩:=Qpi (r:=r) hcall h1;obtain ⟨b1,b2⟩:=Qld (ops:=ops) (rr:=r) hcall _ _ _ _ _ h;refine ⟨a1.trans b1,fun id g w a hH ht=>wpIn_region_any hm ?_⟩;have hsz:(ops.toList.take m).toArray.size=m:=by have:=C.lt;simp;omega
  have hA:=a2 g w a (fun e a' w'=>e=.normal/\Qw ng shp g w a (.normal,t1,s1) .normal a' w') hH ht (fun a' w' q=>⟨rfl,q⟩);rw [hsz] at hA;have key:=Qtb C (F:=FR r) (n:=0) (P:=P) (Q:=Qw ng shp g w a (.normal,t',shp')) (QA:=fun e a' w'=>e=.normal/\Qw ng shp g w a (.normal,t1,s1) .normal a' w') (fun e a w hne h=>absurd h.1 hne)
   (fun listed a' w' hu h=>by
    obtain ⟨_,k0,g',k1,k2,k3,k4,k5⟩:=h;refine Qk7 (fun e a'' w'' q=>Qw.trans hH a1 k3 k5 q) _ _ _ _ (b2 listed g' w' a' ⟨hu.1,fun i=> ?_⟩ k2 k4);rw [hu.2 i,Nat.testBit_two_pow_sub_one];simp) m (Array.replicate m false) (Array.replicate ops.size false) a w.drew (by simp) (by simp)
   (fun i=>by unfold Ls;simp [Array.getElem?_replicate];split<;>split<;>simp) (fun i o _ hi=>absurd hi (Qrc m i)) ?_ hA
  rw [show m+(ops.size-m)=ops.size by have:=C.lt;omega] at key;exact key;unfold left;have:((List.range m).countP fun i=> !(Array.replicate m false).getD i false)=(List.range m).length:=by
   rw [List.countP_eq_length];intro i hi;simp [List.mem_range.1 hi]
  rw [this];simp;cases h;cases h;cases h
 have last: ∀m,Qlv P ng call ops t shp m=.ok (t',shp')->Touch shp shp'/\ ∀(id:Nat) g w a,HRel ng g shp.heap w->FRel g t a->(Code.region id ops true).wpIn (FR r) 0 P (Qw ng shp g w a (.normal,t',shp')) a w:=by
  intro m;induction m with
  |zero=>intro h;cases h
  |succ m ih=>
   intro h;simp only [Qlv] at h;split at h;exact ih h;exact all m h
 unfold Qtu at h;split at h;split at h;split at h;split at h;exact last _ h;exact arm _ h;exact last _ h;exact plain h;exact arm _ h
end
end Go.Ev
namespace Go.Ev
inductive SK where
 |i (k:IntKind)
 |b
 |s
def skOf:AVal->Option SK
 |.int k _=>some (.i k)
 |.symi k _=>some (.i k)
 |.bool _=>some .b
 |.symb _=>some .b
 |.str _=>some .s
 |.syms _=>some .s
 |_=>none
def Qda (a b:AVal):Bool:=
 match skOf a with
 |some (.i k)=>match skOf b with
  |some (.i k')=>decide (k=k')
  |_=>false
 |some .b=>match skOf b with
  |some .b=>true
  |_=>false
 |some .s=>match skOf b with
  |some .s=>true
  |_=>false
 |none=>false
theorem sk_i {a:AVal} {k:IntKind} (h:skOf a=some (.i k)) (V:Sig):(∃n,den V a=.int k n)/\ ∀i,Qbv a i=.symi k i:=by
 cases a<;>simp only [skOf,Option.some.injEq,SK.i.injEq,reduceCtorEq] at h;subst h;exact ⟨⟨_,rfl⟩,fun _=>rfl⟩;subst h;exact ⟨⟨_,rfl⟩,fun _=>rfl⟩
theorem sk_b {a:AVal} (h:skOf a=some .b) (V:Sig):(∃n,den V a=.bool n)/\ ∀i,Qbv a i=.symb i:=by
 cases a<;>simp only [skOf,Option.some.injEq,reduceCtorEq] at h;exact ⟨⟨_,rfl⟩,fun _=>rfl⟩;exact ⟨⟨_,rfl⟩,fun _=>rfl⟩
theorem sk_s {a:AVal} (h:skOf a=some .s) (V:Sig):(∃n,den V a=.str n)/\ ∀i,Qbv a i=.syms i:=by
 cases a<;>simp only [skOf,Option.some.injEq,reduceCtorEq] at h;exact ⟨⟨_,rfl⟩,fun _=>rfl⟩;exact ⟨⟨_,rfl⟩,fun _=>rfl⟩
def mgS (ng:Cx) (i:Nat) (a b:AVal):Option AVal:=
 match a,b with
 |.bool true,.bool false=>some (.symb i)
 |.bool false,.bool true=>symS ng (.un .not (.symb i))
 |a,b=>match Qda a b with
  |true=>symS ng (.ite (.symb i) a b)
  |false=>none
def isNt:AVal->Bool
 |.int _ _=>true
 |.symi _ _=>true
 |.str _=>true
 |.syms _=>true
 |_=>false
mutual
def mgV (ng:Cx) (i:Nat):AVal->AVal->Option AVal
 |.agg l,.agg m=>match mgL ng i l m with
  |some r=>some (.agg r)
  |none=>none
 |.tuple l,.tuple m=>match mgL ng i l m with
  |some r=>some (.tuple r)
  |none=>none
 |.iface t v,.iface t' v'=>match Nat.beq t t' with
  |true=>match mgV ng i v v' with
   |some r=>some (.iface t r)
   |none=>none
  |false=>none
 |.lsl b z ap o n,.lsl b' z' ap' o' n'=>match Nat.beq b b'&&(Nat.beq z z'&&(ap==ap')) with
  |true=>match mgV ng i o o',mgV ng i n n' with
   |some x,some y=>match isNt x&&isNt y with
    |true=>some (.lsl b z ap x y)
    |false=>none
   |_,_=>none
  |false=>none
 |.lptr b z x j,.lptr b' z' x' j'=>match Nat.beq b b'&&(Nat.beq z z'&&Nat.beq j j') with
  |true=>match mgV ng i x x' with
   |some y=>match isNt y with
    |true=>some (.lptr b z y j)
    |false=>none
   |none=>none
  |false=>none
 |a,b=>match eqV a b with
  |true=>some a
  |false=>mgS ng i a b
def mgL (ng:Cx) (i:Nat):List AVal->List AVal->Option (List AVal)
 |[],[]=>some []
 |a::l,b::m=>match mgV ng i a b,mgL ng i l m with
  |some r,some s=>some (r::s)
  |_,_=>none
 |_,_=>none
end
theorem Qbj0 {ng:Cx} {i:Nat} {a b r:AVal} (h:mgS ng i a b=some r) (g:Inj) (hg:ng.Good g.sig) (v:Value):(g.sig.b i=true->VRel g a v->VRel g r v)/\(g.sig.b i=false->VRel g b v->VRel g r v):=by
 unfold mgS at h;split at h;cases h;refine ⟨fun e hv=> ?_,fun e hv=> ?_⟩<;>(cases hv;rw [<-e];exact .symb i);obtain ⟨q,h1,h2⟩:=Qcp hg h;simp only [Qb,den,unA,Option.some.injEq] at h1;subst h1;refine ⟨fun e hv=> ?_,fun e hv=> ?_⟩<;>(cases hv;refine h2 _ ?_;rw [e];exact .bool _);split at h;rename_i hk;obtain ⟨q,h1,h2⟩:=Qcp hg h;simp only [Qb,den] at h1;cases h1;refine ⟨fun e hv=>h2 _ ?_,fun e hv=>h2 _ ?_⟩;rw [e];exact Qn.2 hv;rw [e];exact Qn.2 hv;cases h
theorem Qg9 {g:Inj} {a:AVal} {k:IntKind} {n:Int} (h:den g.sig a=.int k n):VRel g a (.int k n):=Qn.1 (by rw [h];exact .int _ _)
theorem Q9b {g:Inj} {a:AVal} {S:ByteArray} (h:den g.sig a=.str S):VRel g a (.string S):=Qn.1 (by rw [h];exact .str _)
theorem Qg0 {g:Inj} {a:AVal} {k:IntKind} {n:Int} (hn:isNt a=true) (h:VRel g a (.int k n)):den g.sig a=.int k n:=by
 cases h<;>first|rfl|(simp [isNt] at hn)
theorem Qzw {g:Inj} {a:AVal} {S:ByteArray} (hn:isNt a=true) (h:VRel g a (.string S)):den g.sig a=.str S:=by
 cases h<;>first|rfl|(simp [isNt] at hn)
mutual
theorem Qcb {ng:Cx} {i:Nat}: ∀(a b r:AVal),mgV ng i a b=some r-> ∀(g:Inj),ng.Good g.sig-> ∀(v:Value),(g.sig.b i=true->VRel g a v->VRel g r v)/\(g.sig.b i=false->VRel g b v->VRel g r v)
 |a,b,r,h,g,hg,v=>by
  unfold mgV at h;split at h;rename_i l m;split at h;rename_i s hs;cases h;exact ⟨fun e hv=>by cases hv with|agg _ l' h1=>exact .agg _ l' ((Qke l m s hs g hg l'.toList).1 e h1),
   fun e hv=>by cases hv with|agg _ l' h1=>exact .agg _ l' ((Qke l m s hs g hg l'.toList).2 e h1)⟩
  cases h;rename_i l m;split at h;rename_i s hs;cases h;exact ⟨fun e hv=>by cases hv with|tuple _ l' h1=>exact .tuple _ l' ((Qke l m s hs g hg l'.toList).1 e h1),
   fun e hv=>by cases hv with|tuple _ l' h1=>exact .tuple _ l' ((Qke l m s hs g hg l'.toList).2 e h1)⟩
  cases h;rename_i t v1 t' v2;split at h;rename_i ht;have ht:=Nat.eq_of_beq_eq_true ht;subst ht;split at h;rename_i s hs;cases h;exact ⟨fun e hv=>by cases hv with|iface _ _ u h1=>exact .iface t s u ((Qcb v1 v2 s hs g hg u).1 e h1),
   fun e hv=>by cases hv with|iface _ _ u h1=>exact .iface t s u ((Qcb v1 v2 s hs g hg u).2 e h1)⟩
  cases h;cases h;rename_i b z ap o n b' z' ap' o' n';split at h;rename_i ht;simp only [Bool.and_eq_true] at ht;have e1:=Nat.eq_of_beq_eq_true ht.1;have e2:=Nat.eq_of_beq_eq_true ht.2.1;have e3:=eq_of_beq ht.2.2;subst e1;subst e2;subst e3;split at h;rename_i x y hx hy;split at h;rename_i hn;simp only [Bool.and_eq_true] at hn;cases h;exact ⟨fun e hv=>by
    cases hv with
    |lsl _ _ _ _ _ p q cap ao k1 k2 k3 k4 k5=>exact .lsl _ _ _ _ _ p q cap ao (Qg0 hn.1 ((Qcb o o' x hx g hg _).1 e (Qg9 k1))) (Qg0 hn.2 ((Qcb n n' y hy g hg _).1 e (Qg9 k2))) k3 k4 k5,
   fun e hv=>by
    cases hv with
    |lsl _ _ _ _ _ p q cap ao k1 k2 k3 k4 k5=>exact .lsl _ _ _ _ _ p q cap ao (Qg0 hn.1 ((Qcb o o' x hx g hg _).2 e (Qg9 k1))) (Qg0 hn.2 ((Qcb n n' y hy g hg _).2 e (Qg9 k2))) k3 k4 k5⟩
  cases h;cases h;cases h;rename_i b z x j b' z' x' j';split at h;rename_i ht;simp only [Bool.and_eq_true] at ht;have e1:=Nat.eq_of_beq_eq_true ht.1;have e2:=Nat.eq_of_beq_eq_true ht.2.1;have e3:=Nat.eq_of_beq_eq_true ht.2.2;subst e1;subst e2;subst e3;split at h;rename_i y hy;split at h;rename_i hn;cases h;exact ⟨fun e hv=>by
    cases hv with
    |lptr _ _ _ _ m L k1 k2 k3 k4=>exact .lptr _ _ _ _ m L k1 (Qg0 hn ((Qcb x x' y hy g hg _).1 e (Qg9 k2))) k3 k4,
   fun e hv=>by
    cases hv with
    |lptr _ _ _ _ m L k1 k2 k3 k4=>exact .lptr _ _ _ _ m L k1 (Qg0 hn ((Qcb x x' y hy g hg _).2 e (Qg9 k2))) k3 k4⟩
  cases h;cases h;cases h;split at h;rename_i he;cases h;have:=Qbi _ _ he;exact ⟨fun _ hv=>hv,fun _ hv=>by rw [this];exact hv⟩;exact Qbj0 h g hg v
theorem Qke {ng:Cx} {i:Nat}: ∀(l m r:List AVal),mgL ng i l m=some r-> ∀(g:Inj),ng.Good g.sig-> ∀(v:List Value),(g.sig.b i=true->LRel g l v->LRel g r v)/\(g.sig.b i=false->LRel g m v->LRel g r v)
 |[],[],r,h,g,hg,v=>by simp only [mgL] at h;cases h;exact ⟨fun _ h=>h,fun _ h=>h⟩
 |a::l,b::m,r,h,g,hg,v=>by
  simp only [mgL] at h;split at h;rename_i x y hx hy;cases h;exact ⟨fun e hv=>by cases hv with|cons _ u _ w h1 h2=>exact .cons _ u _ w ((Qcb a b x hx g hg u).1 e h1) ((Qke l m y hy g hg w).1 e h2),
   fun e hv=>by cases hv with|cons _ u _ w h1 h2=>exact .cons _ u _ w ((Qcb a b x hx g hg u).2 e h1) ((Qke l m y hy g hg w).2 e h2)⟩
  cases h
 |[],_::_,r,h,_,_,_=>by simp [mgL] at h
 |_::_,[],r,h,_,_,_=>by simp [mgL] at h
end
theorem Q6p {ng:Cx} {i:Nat}: ∀{l m r:List AVal},mgL ng i l m=some r->r.length=l.length/\r.length=m.length
 |[],[],r,h=>by simp only [mgL] at h;cases h;simp
 |a::l,b::m,r,h=>by
  simp only [mgL] at h;split at h;rename_i x y hx hy;cases h;have:=Q6p hy;simp;omega;cases h
 |[],_::_,r,h=>by simp [mgL] at h
 |_::_,[],r,h=>by simp [mgL] at h
theorem Qwl {ng:Cx} {i:Nat}: ∀{l m r:List AVal},mgL ng i l m=some r-> ∀(j:Nat) (c:AVal),r[j]? =some c-> ∃a b,l[j]? =some a/\m[j]? =some b/\mgV ng i a b=some c
 |[],[],r,h,j,c,hj=>by simp only [mgL] at h;cases h;simp at hj
 |a::l,b::m,r,h,j,c,hj=>by
  simp only [mgL] at h;split at h
  ·rename_i x y hx hy
   cases h;cases j with
   |zero=>simp at hj;subst hj;exact ⟨a,b,by simp,by simp,hx⟩
   |succ j=>obtain ⟨p,q,h1,h2,h3⟩:=Qwl hy j c (by simpa using hj);exact ⟨p,q,by simpa using h1,by simpa using h2,h3⟩
  cases h
 |[],_::_,r,h,_,_,_=>by simp [mgL] at h
 |_::_,[],r,h,_,_,_=>by simp [mgL] at h
def mgOV (ng:Cx) (i:Nat):Option AVal->Option AVal->Option AVal
 |some a,some b=>mgV ng i a b
 |_,_=>none
def mgTT (ng:Cx) (i:Nat):TT->TT->TT
 |.n l v r,.n l' v' r'=> .n (mgTT ng i l l') (mgOV ng i v v') (mgTT ng i r r')
 |_,_=> .e
theorem Qri {ng:Cx} {i:Nat}: ∀{a b:TT} {j:Nat} {c:AVal},(mgTT ng i a b).get j=some c-> ∃x y,a.get j=some x/\b.get j=some y/\mgV ng i x y=some c
 |.e,_,_,_,h=>by simp [mgTT,TT.get] at h
 |.al _,_,_,_,h=>by simp [mgTT,TT.get] at h
 |.n _ _ _,.e,_,_,h=>by simp [mgTT,TT.get] at h
 |.n _ _ _,.al _,_,_,h=>by simp [mgTT,TT.get] at h
 |.n l v r,.n l' v' r',j,c,h=>by
  simp only [mgTT] at h;cases j with
  |zero=>
   simp only [TT.get] at h⊢;unfold mgOV at h;split at h;rename_i x y;exact ⟨x,y,rfl,rfl,h⟩;cases h
  |succ j=>
   simp only [TT.get] at h⊢;split at h;exact Qri h;exact Qri h
def mgTm (ng:Cx) (i:Nat) (a b:Tm):Option Tm:=
 match Nat.beq a.len b.len&&eqDf a.df b.df with
 |true=>some ⟨a.len,mgTT ng i a.tr b.tr,a.df⟩
 |false=>none
theorem Q6s {ng:Cx} {i:Nat} {a b t:Tm} (h:mgTm ng i a b=some t) (g:Inj) (hg:ng.Good g.sig) (c:Act):(g.sig.b i=true->FRel g a c->FRel g t c)/\(g.sig.b i=false->FRel g b c->FRel g t c):=by
 unfold mgTm at h;split at h;rename_i hh;cases h;simp only [Bool.and_eq_true] at hh;have hl:=Nat.eq_of_beq_eq_true hh.1;have hd:=Qpt hh.2;constructor;rintro e ⟨⟨h1,h2⟩,h3⟩;refine ⟨⟨h1,fun j v hv=> ?_⟩,h3⟩;have hlt:=Tm.get_lt hv;obtain ⟨x,y,hx,hy,hm⟩:=Qri (Tm.get_tr hv);obtain ⟨u,k1,k2⟩:=h2 j x (Tm.get_of hx hlt);exact ⟨u,k1,(Qcb x y v hm g hg u).1 e k2⟩;rintro e ⟨⟨h1,h2⟩,h3⟩;refine ⟨⟨by simp only;omega,fun j v hv=> ?_⟩,by simp only [hd];exact h3⟩;have hlt:=Tm.get_lt hv;obtain ⟨x,y,hx,hy,hm⟩:=Qri (Tm.get_tr hv);obtain ⟨u,k1,k2⟩:=h2 j y (Tm.get_of hy (by simp only at hlt;omega));exact ⟨u,k1,(Qcb x y v hm g hg u).2 e k2⟩;cases h
def Qqn:LoopState->Bool
 |.ready=>true
 |_=>false
def mgB (ng:Cx) (i:Nat):Blk->Blk->Blk
 |.cells c e,.cells c' e'=>match Nat.beq e e' with
  |true=>match mgL ng i c c' with
   |some r=> .cells r e
   |none=> .gone
  |false=> .gone
 |.map l,.map m=>match eqM l m with
  |true=> .map l
  |false=> .gone
 |.loop a,.loop b=>match Qqn a.st&&Qqn b.st&&a.pend.isNone&&b.pend.isNone with
  |true=> .loop a
  |false=> .gone
 |.dfr,.dfr=> .dfr
 |.iter x l c,.iter x' l' c'=>match Nat.beq x x'&&(eqM l l'&&eqM c.toList c'.toList) with
  |true=> .iter x l c
  |false=> .gone
 |.lst s n cl e,.lst s' n' cl' e'=>match Nat.beq e e'&&decide (cl=cl') with
  |true=>match mgV ng i s s',mgV ng i n n' with
   |some x,some y=>match isNt x&&isNt y with
    |true=> .lst x y cl e
    |false=> .gone
   |_,_=> .gone
  |false=> .gone
 |_,_=> .gone
def BTo (g:Inj) (w:World) (k k':Blk):Prop:=(∀L,BRel g w k L->BRel g w k' L)/\(Qce g k->Qce g k')
theorem BTo.refl {g:Inj} {w:World} {k:Blk}:BTo g w k k:=⟨fun _ h=>h,fun h=>h⟩
theorem Qce.not {g:Inj} {k:Blk} (h:Qce g k) (hk:Qf5 k=false):False:=by rw [h.lst] at hk;cases hk
def mgOB (ng:Cx) (i:Nat):Option Blk->Option Blk->Blk
 |some a,some b=>mgB ng i a b
 |_,_=> .gone
theorem Q12 {s:LoopState} (h:Qqn s=true):s=.ready:=by
 unfold Qqn at h;split at h;rfl;cases h
theorem Q6l {ng:Cx} {i:Nat} {a b:Blk} (g:Inj) (hg:ng.Good g.sig) (w:World) (L:Loc) (hl: ∀x y,a=.loop x->b=.loop y->Qkw y x) (ha:Qf5 a=false):
  (g.sig.b i=true->BRel g w a L->BRel g w (mgB ng i a b) L)/\(g.sig.b i=false->BRel g w b L->BRel g w (mgB ng i a b) L):=by
 unfold mgB;split;rename_i c e c' e';split;rename_i he;have he:=Nat.eq_of_beq_eq_true he;subst he;split;rename_i r hr;have hln:=Q6p hr;constructor;rintro h1 ⟨C,fr,k1,k2,k3,k4,k5⟩;refine ⟨C,fr,k1,k2,k3,by omega,fun j x hj=> ?_⟩;obtain ⟨p,q,hp,hq,hm⟩:=Qwl hr j x hj;obtain ⟨v,m1,m2,m3⟩:=k5 j p hp;exact ⟨v,m1,(Qcb p q x hm g hg v).1 h1 m2,m3⟩;rintro h1 ⟨C,fr,k1,k2,k3,k4,k5⟩;refine ⟨C,fr,k1,k2,k3,by omega,fun j x hj=> ?_⟩;obtain ⟨p,q,hp,hq,hm⟩:=Qwl hr j x hj;obtain ⟨v,m1,m2,m3⟩:=k5 j q hq;exact ⟨v,m1,(Qcb p q x hm g hg v).2 h1 m2,m3⟩;exact ⟨fun _ _=>trivial,fun _ _=>trivial⟩;exact ⟨fun _ _=>trivial,fun _ _=>trivial⟩;split;rename_i he;exact ⟨fun _ h=>h,fun _ h=>by rw [Qjh he];exact h⟩;exact ⟨fun _ _=>trivial,fun _ _=>trivial⟩;rename_i x y;split;rename_i hh;simp only [Bool.and_eq_true,Option.isNone_iff_eq_none] at hh;obtain ⟨⟨⟨s1,s2⟩,p1⟩,p2⟩:=hh;obtain ⟨e1,e2,e3,e4,e5⟩:=hl x y rfl rfl;refine ⟨fun _ h=>h,fun _ h=> ?_⟩;obtain ⟨r,h1,h2,h3,h4,h5,h6,h7,D,h8,h9⟩:=h;exact ⟨r,h1,by rw [h2,Q12 s1,Q12 s2],by rw [h3,p1,p2],by rw [e1];exact h4,by rw [e2];exact h5,by rw [e3];exact h6,by rw [e4];exact h7,D,by rw [e5];exact h8,h9⟩;exact ⟨fun _ _=>trivial,fun _ _=>trivial⟩;exact ⟨fun _ h=>h,fun _ h=>h⟩;split;rename_i he;simp only [Bool.and_eq_true] at he;rw [Nat.eq_of_beq_eq_true he.1,Qjh he.2.1,Q0q he.2.2];exact ⟨fun _ h=>h,fun _ h=>h⟩;exact ⟨fun _ _=>trivial,fun _ _=>trivial⟩;cases ha;exact ⟨fun _ _=>trivial,fun _ _=>trivial⟩
theorem Q6b {g:Inj} {w:World} {s n s' n':AVal} {cl:List (Option IntKind)} {e:TypeId} (h1: ∀S,den g.sig s=.str S->den g.sig s'=.str S) (h2: ∀N,den g.sig n=.int .i64 N->den g.sig n'=.int .i64 N):BTo g w (.lst s n cl e) (.lst s' n' cl e):=by
 refine ⟨fun L h=> ?_,fun h=> ?_⟩;obtain ⟨S,N,C,fr,e9,k1,k2,k3⟩:=h;exact ⟨S,N,C,fr,e9,h1 _ k1,h2 _ k2,k3⟩;obtain ⟨_,_,_,_,k0,k1,k2⟩:=h;cases k0;exact ⟨_,_,_,_,rfl,h1 _ k1,h2 _ k2⟩
theorem Q6m {ng:Cx} {i:Nat} {a b:Blk} (g:Inj) (hg:ng.Good g.sig) (w:World) (hl: ∀x y,a=.loop x->b=.loop y->Qkw y x) (hn:mgB ng i a b≠.gone):
  (g.sig.b i=true->BTo g w a (mgB ng i a b))/\(g.sig.b i=false->BTo g w b (mgB ng i a b)):=by
 by_cases hlst:Qf5 a=true
 ·cases a<;>try (cases hlst;done)
  rename_i s n cl e;cases b<;>try exact absurd rfl hn
  rename_i s' n' cl' e';simp only [mgB] at hn⊢;split at hn;rename_i he;simp only [Bool.and_eq_true,decide_eq_true_eq] at he;have e1:=Nat.eq_of_beq_eq_true he.1;have e2:=he.2;subst e1;subst e2;split at hn;rename_i x y hx hy;split at hn;rename_i hnt;simp only [Bool.and_eq_true] at hnt;refine ⟨fun h=> ?_,fun h=> ?_⟩;exact Q6b (fun S k=>Qzw hnt.1 ((Qcb s s' x hx g hg _).1 h (Q9b k))) (fun N k=>Qg0 hnt.2 ((Qcb n n' y hy g hg _).1 h (Qg9 k)));exact Q6b (fun S k=>Qzw hnt.1 ((Qcb s s' x hx g hg _).2 h (Q9b k))) (fun N k=>Qg0 hnt.2 ((Qcb n n' y hy g hg _).2 h (Qg9 k)));exact absurd rfl hn;exact absurd rfl hn;exact absurd rfl hn
 have ha:Qf5 a=false:=by simpa using hlst
 have hb:Qf5 b=false:=by
  cases hb:Qf5 b with
  |false=>rfl
  |true=>
   cases b<;>try (cases hb;done)
   exact absurd (by cases a<;>first|rfl|(cases ha;done)) hn
 exact ⟨fun h=>⟨fun L=>(Q6l g hg w L hl ha).1 h,fun hz=>(hz.not ha).elim⟩,fun h=>⟨fun L=>(Q6l g hg w L hl ha).2 h,fun hz=>(hz.not hb).elim⟩⟩
theorem Q6k {ng:Cx} {i:Nat} {a b:Blk} {l:LoopA} (h:mgB ng i a b=.loop l):a=.loop l:=by
 unfold mgB at h;split at h;split at h;split at h<;>cases h;cases h;split at h<;>cases h;split at h;exact h;cases h;cases h;split at h<;>cases h;split at h;split at h;split at h<;>cases h;cases h;cases h;cases h
theorem Q6j {ng:Cx} {i:Nat} {a b:Blk} (h:mgB ng i a b≠.gone):a≠.gone/\b≠.gone:=by
 constructor;rintro rfl;exact h (by cases b<;>rfl);rintro rfl;exact h (by cases a<;>rfl)
def Qhh (ng:Cx) (i n:Nat) (A B:List Blk):List Nat->List Blk->List Blk
 |[],H=>H
 |j::ids,H=>match Nat.blt j n with
  |true=>Qhh ng i n A B ids (H.set j (mgOB ng i (A[j]?) (B[j]?)))
  |false=>Qhh ng i n A B ids H
def mgN (ng:Cx) (i:Nat):Blk->Blk->Blk
 |.loop _,_=> .gone
 |a,b=>mgB ng i a b
def Qd2 (ng:Cx) (i:Nat):List Blk->List Blk->List Blk
 |[],m=>m.map fun _=> .gone
 |l,[]=>l.map fun _=> .gone
 |a::l,b::m=>mgN ng i a b::Qd2 ng i l m
def mgH (ng:Cx) (i n:Nat) (A B:List Blk) (ids:List Nat):List Blk:=Qhh ng i n A B ids (A.take n++Qd2 ng i (A.drop n) (B.drop n))
def mgHp (ng:Cx) (i:Nat) (h0 a b:Hp):Hp:=
 ⟨mgH ng i h0.heap.length a.heap b.heap (a.log.take (a.log.length-h0.log.length)++b.log.take (b.log.length-h0.log.length)),
  a.log.take (a.log.length-h0.log.length)++b.log.take (b.log.length-h0.log.length)++h0.log⟩
theorem Qwk {ng:Cx} {i n:Nat} {A B:List Blk}: ∀(ids:List Nat) (H:List Blk),(Qhh ng i n A B ids H).length=H.length
 |[],_=>rfl
 |j::ids,H=>by
  simp only [Qhh];split;rw [Qwk ids];simp;rw [Qwk ids]
theorem Qrf {ng:Cx} {i n:Nat} {A B:List Blk}: ∀(ids:List Nat) (H:List Blk) (j:Nat),(j<n/\j∈ids/\(Qhh ng i n A B ids H)[j]? =if j<H.length then some (mgOB ng i (A[j]?) (B[j]?)) else none)\/((n<=j\/j∉ids)/\(Qhh ng i n A B ids H)[j]? =H[j]?)
 |[],H,j=> .inr ⟨.inr (by simp),rfl⟩
 |k::ids,H,j=>by
  simp only [Qhh];split;rename_i hk;have hk:k<n:=by rw [Nat.blt_eq] at hk;exact hk
  rcases Qrf (A:=A) (B:=B) ids (H.set k (mgOB ng i (A[k]?) (B[k]?))) j with ⟨h1,h2,h3⟩|⟨h1,h2⟩;exact .inl ⟨h1,by simp [h2],by rw [h3];simp⟩;by_cases hjk:j=k;subst hjk;refine .inl ⟨hk,by simp,?_⟩;rw [h2,List.getElem?_set];simp;refine .inr ⟨?_,by rw [h2,List.getElem?_set_ne (Ne.symm hjk)]⟩;rcases h1 with h1|h1;exact .inl h1;exact .inr (by simp [hjk,h1]);rename_i hk;have hk:n<=k:=by
   have: ¬(k<n):=fun h=>by rw [<-Nat.blt_eq] at h;rw [h] at hk;cases hk
   omega
  rcases Qrf (A:=A) (B:=B) ids H j with ⟨h1,h2,h3⟩|⟨h1,h2⟩;exact .inl ⟨h1,by simp [h2],h3⟩;refine .inr ⟨?_,h2⟩;rcases h1 with h1|h1;exact .inl h1;by_cases hjk:j=k;exact .inl (by omega);exact .inr (by simp [hjk,h1])
theorem Q6q {ng:Cx} {i:Nat}: ∀(l m:List Blk) (j:Nat) (k:Blk),(Qd2 ng i l m)[j]? =some k->k≠.gone-> ∃a b,l[j]? =some a/\m[j]? =some b/\k=mgN ng i a b
 |[],m,j,k,h,hk=>by
  simp only [Qd2,List.getElem?_map,Option.map_eq_some_iff] at h;obtain ⟨_,_,rfl⟩:=h;exact absurd rfl hk
 |a::l,[],j,k,h,hk=>by
  simp only [Qd2,List.getElem?_map,Option.map_eq_some_iff] at h;obtain ⟨_,_,rfl⟩:=h;exact absurd rfl hk
 |a::l,b::m,j,k,h,hk=>by
  simp only [Qd2] at h;cases j with
  |zero=>simp at h;subst h;exact ⟨a,b,by simp,by simp,rfl⟩
  |succ j=>obtain ⟨x,y,h1,h2,h3⟩:=Q6q l m j k (by simpa using h) hk;exact ⟨x,y,by simpa using h1,by simpa using h2,h3⟩
theorem Q6r {ng:Cx} {i:Nat}: ∀(l m:List Blk),l.length<=(Qd2 ng i l m).length/\m.length<=(Qd2 ng i l m).length
 |[],m=>by simp [Qd2]
 |a::l,[]=>by simp [Qd2]
 |a::l,b::m=>by
  have:=Q6r (ng:=ng) (i:=i) l m;simp [Qd2];omega
theorem Q6o {ng:Cx} {i:Nat} {h0 a b:Hp} (ta:Touch h0 a) (tb:Touch h0 b):a.heap.length<=(mgHp ng i h0 a b).heap.length/\b.heap.length<=(mgHp ng i h0 a b).heap.length:=by
 have h1:=Q6r (ng:=ng) (i:=i) (a.heap.drop h0.heap.length) (b.heap.drop h0.heap.length);have hla:=ta.len;have hlb:=tb.len;simp only [List.length_drop] at h1;simp only [mgHp,mgH,Qwk,List.length_append,List.length_take];omega
theorem Qkc {ng:Cx} {i:Nat} {h0 a b:Hp} (ta:Touch h0 a) (tb:Touch h0 b) (j:Nat) (k':Blk) (h:(mgHp ng i h0 a b).heap[j]? =some k') (hk:k'≠.gone):
  ∃x y,a.heap[j]? =some x/\b.heap[j]? =some y/\x≠.gone/\y≠.gone/\(∀la,k'=Blk.loop la->x=Blk.loop la)/\
   ∀(g:Inj),ng.Good g.sig-> ∀(w:World),(g.sig.b i=true->BTo g w x k')/\(g.sig.b i=false->BTo g w y k'):=by
 obtain ⟨pa,ea,fa⟩:=ta.log;obtain ⟨pb,eb,fb⟩:=tb.log;have hla:=ta.len;have hlb:=tb.len;have hloop: ∀p q,a.heap[j]? =some (.loop p)->b.heap[j]? =some (.loop q)->j<h0.heap.length->Qkw q p:=by
  intro p q hx hy hj;obtain ⟨l0,hl0,e1,e2,e3,e4,e5⟩:=ta.loops j p hj hx;obtain ⟨l1,hl1,f1,f2,f3,f4,f5⟩:=tb.loops j q hj hy;rw [hl0] at hl1;cases hl1;exact ⟨e1.trans f1.symm,e2.trans f2.symm,e3.trans f3.symm,e4.trans f4.symm,e5.trans f5.symm⟩
 simp only [mgHp,mgH,ea,eb,Qoo] at h;rcases Qrf (ng:=ng) (i:=i) (A:=a.heap) (B:=b.heap) (n:=h0.heap.length) (pa++pb) (a.heap.take h0.heap.length++Qd2 ng i (a.heap.drop h0.heap.length) (b.heap.drop h0.heap.length)) j with ⟨h1,h2,h3⟩|⟨h1,h2⟩
 rw [h3] at h;split at h;cases h;obtain ⟨x,hx⟩: ∃x,a.heap[j]? =some x:=⟨_,List.getElem?_eq_getElem (by omega)⟩;obtain ⟨y,hy⟩: ∃y,b.heap[j]? =some y:=⟨_,List.getElem?_eq_getElem (by omega)⟩;rw [hx,hy] at hk⊢;obtain ⟨n1,n2⟩:=Q6j hk;exact ⟨x,y,rfl,rfl,n1,n2,fun la e=>Q6k e,fun g hg w=>Q6m g hg w (fun p q e1 e2=>hloop p q (by rw [hx,e1]) (by rw [hy,e2]) h1) hk⟩;cases h;rw [h2] at h;rcases Nat.lt_or_ge j h0.heap.length with h9|h9
 rw [List.getElem?_append_left (by simp;omega),List.getElem?_take,if_pos h9] at h;have hn:j∉pa++pb:=by
  rcases h1 with h1|h1;omega;exact h1
 simp only [List.mem_append,not_or] at hn;have ha:=fa j h9 hn.1;have hb:=fb j h9 hn.2;exact ⟨k',k',h,by rw [hb,<-ha];exact h,hk,hk,fun la e=>e,fun g hg w=>⟨fun _=> .refl,fun _=> .refl⟩⟩;have hlt:(a.heap.take h0.heap.length).length=h0.heap.length:=by simp;omega
 rw [List.getElem?_append_right (by omega),hlt] at h;obtain ⟨x,y,hx,hy,rfl⟩:=Q6q _ _ _ _ h hk;simp only [List.getElem?_drop] at hx hy;rw [show h0.heap.length+(j-h0.heap.length)=j by omega] at hx hy;unfold mgN at hk⊢;split at hk;exact absurd rfl hk;rename_i hne;obtain ⟨n1,n2⟩:=Q6j hk;refine ⟨x,y,hx,hy,n1,n2,fun la e=>Q6k e,fun g hg w=> ?_⟩;have:=Q6m (i:=i) (a:=x) (b:=y) g hg w (fun p q e1 e2=>(hne p e1).elim) hk;exact this
theorem Qbjw {ng:Cx} {i:Nat} {h0 a b:Hp} (ta:Touch h0 a) (tb:Touch h0 b):Touch h0 (mgHp ng i h0 a b):=by
 obtain ⟨pa,ea,fa⟩:=ta.log;obtain ⟨pb,eb,fb⟩:=tb.log;have hla:=ta.len;have hlb:=tb.len;refine ⟨Nat.le_trans hla (Q6o ta tb).1,⟨pa++pb,by simp only [mgHp,ea,eb,Qoo],fun j hj hn=> ?_⟩,fun j hj ⟨k,hk,hne⟩=> ?_,fun j la hj hla=> ?_⟩;simp only [mgHp,mgH,ea,eb,Qoo];rcases Qrf (ng:=ng) (i:=i) (A:=a.heap) (B:=b.heap) (n:=h0.heap.length) (pa++pb) (a.heap.take h0.heap.length++Qd2 ng i (a.heap.drop h0.heap.length) (b.heap.drop h0.heap.length)) j with ⟨h1,h2,h3⟩|⟨h1,h2⟩;exact absurd h2 hn;rw [h2,List.getElem?_append_left (by simp;omega),List.getElem?_take,if_pos hj];simp only [List.mem_append,not_or] at hn;exact fa j hj hn.1;obtain ⟨x,y,h1,h2,h3,h4,_,_⟩:=Qkc ta tb j k hk hne;exact ta.live j hj ⟨x,h1,h3⟩;obtain ⟨x,y,h1,h2,h3,h4,h5,_⟩:=Qkc ta tb j _ hla (by simp);exact ta.loops j la hj (by rw [h1,h5 la rfl])
theorem Qbjv {ng:Cx} {i:Nat} {h0 a b:Hp} (ta:Touch h0 a) (tb:Touch h0 b) {g0 g:Inj} {w0 w:World}:
  (g.sig.b i=true->HRel ng g a.heap w->Ext g0 h0.heap w0 g a.heap w->HRel ng g (mgHp ng i h0 a b).heap w/\Ext g0 h0.heap w0 g (mgHp ng i h0 a b).heap w)/\
  (g.sig.b i=false->HRel ng g b.heap w->Ext g0 h0.heap w0 g b.heap w->HRel ng g (mgHp ng i h0 a b).heap w/\Ext g0 h0.heap w0 g (mgHp ng i h0 a b).heap w):=by
 have hl:=Q6o (ng:=ng) (i:=i) ta tb;constructor;intro e hH hE;refine ⟨hH.relax hl.1 fun j k' hk hn=> ?_,hE.relax hl.1 fun j ⟨k',hk,hn⟩=> ?_⟩;obtain ⟨x,y,h1,h2,h3,h4,_,h5⟩:=Qkc ta tb j k' hk hn;exact ⟨x,h1,h3,(h5 g hH.sig w).1 e⟩;obtain ⟨x,y,h1,h2,h3,h4,_,h5⟩:=Qkc ta tb j k' hk hn;exact ⟨x,h1,h3⟩;intro e hH hE;refine ⟨hH.relax hl.2 fun j k' hk hn=> ?_,hE.relax hl.2 fun j ⟨k',hk,hn⟩=> ?_⟩;obtain ⟨x,y,h1,h2,h3,h4,_,h5⟩:=Qkc ta tb j k' hk hn;exact ⟨y,h2,h4,(h5 g hH.sig w).2 e⟩;obtain ⟨x,y,h1,h2,h3,h4,_,h5⟩:=Qkc ta tb j k' hk hn;exact ⟨y,h2,h4⟩
def AllT {α:Type} (Q:α->Prop):Tree α->Prop
 |.leaf a=>Q a
 |.node _ y n=>AllT Q y/\AllT Q n
 |.pick _ _ y n=>AllT Q y/\AllT Q n
 |.or y n=>AllT Q y/\AllT Q n
 |.req _ t=>AllT Q t
 |.dead=>True
theorem AllT.mono {α:Type} {Q Q':α->Prop} (hq: ∀a,Q a->Q' a): ∀{T:Tree α},AllT Q T->AllT Q' T
 |.leaf _,h=>hq _ h
 |.node _ _ _,h=>⟨AllT.mono hq h.1,AllT.mono hq h.2⟩
 |.pick _ _ _ _,h=>⟨AllT.mono hq h.1,AllT.mono hq h.2⟩
 |.or _ _,h=>⟨AllT.mono hq h.1,AllT.mono hq h.2⟩
 |.req _ t,h=>AllT.mono hq (T:=t) h
 |.dead,_=>trivial
theorem Qcf {α β:Type} {Q:α->Prop} {Q':β->Prop} {k:List Fact->α->Tree β} (hk: ∀F a,Q a->AllT Q' (k F a)): ∀{T:Tree α} {F:List Fact},AllT Q T->AllT Q' (Qbj F T k)
 |.leaf _,_,h=>hk _ _ h
 |.node _ _ _,_,h=>⟨Qcf hk h.1,Qcf hk h.2⟩
 |.pick _ _ _ _,_,h=>⟨Qcf hk h.1,Qcf hk h.2⟩
 |.or _ _,_,h=>⟨Qcf hk h.1,Qcf hk h.2⟩
 |.req _ t,F,h=>Qcf hk (T:=t) (F:=F) h
 |.dead,_,_=>trivial
def obN (i:Nat):Ob->Ob->Ob
 |.ok,.ok=> .ok
 |y,n=> .node i y n
def obP (i:Nat) (k:Int):Ob->Ob->Ob
 |.ok,.ok=> .ok
 |y,n=> .pick i k y n
theorem Qbkg {V:Sig} {i:Nat} {y n:Ob} (h:(obN i y n).Sat V):(V.b i=true->y.Sat V)/\(V.b i=false->n.Sat V):=by
 unfold obN at h;split at h;exact ⟨fun _=>trivial,fun _=>trivial⟩;exact h
theorem Qbkh {V:Sig} {i:Nat} {k:Int} {y n:Ob} (h:(obP i k y n).Sat V):(V.i i=k->y.Sat V)/\(V.i i≠k->n.Sat V):=by
 unfold obP at h;split at h;exact ⟨fun _=>trivial,fun _=>trivial⟩;exact h
def Qmg {α:Type}:Tree α->Bool
 |.dead=>true
 |_=>false
theorem Qqj {α:Type} {T:Tree α} (h:Qmg T=true):T=.dead:=by
 cases T<;>first|rfl|cases h
def oneT {α:Type}:Tree α->Option (Ob×α)
 |.leaf a=>some (.ok,a)
 |.req o t=>match oneT t with
  |some (.ok,a)=>some (o,a)
  |_=>none
 |.node i y n=>match Qmg n with
  |true=>match oneT y with
   |some (o,a)=>some (.node i o .no,a)
   |none=>none
  |false=>match Qmg y with
   |true=>match oneT n with
    |some (o,a)=>some (.node i .no o,a)
    |none=>none
   |false=>none
 |.pick i k y n=>match Qmg n with
  |true=>match oneT y with
   |some (o,a)=>some (.pick i k o .no,a)
   |none=>none
  |false=>match Qmg y with
   |true=>match oneT n with
    |some (o,a)=>some (.pick i k .no o,a)
    |none=>none
   |false=>none
 |_=>none
def reqT {α:Type}:Ob->α->Tree α
 |.ok,a=> .leaf a
 |o,a=> .req o (.leaf a)
def Qqs {α:Type}:Tree α->Option α
 |.leaf a=>some a
 |_=>none
def mgT {α:Type} (f:Nat->α->α->Option α) (fp:Nat->Int->α->α->Option α) (fo:α->α->Option α):Tree α->Tree α
 |.leaf a=> .leaf a
 |.node i y n=>match oneT (mgT f fp fo y),oneT (mgT f fp fo n) with
  |some (oy,a),some (on,b)=>match f i a b with
   |some c=>reqT (obN i oy on) c
   |none=> .node i (mgT f fp fo y) (mgT f fp fo n)
  |_,_=> .node i (mgT f fp fo y) (mgT f fp fo n)
 |.pick i k y n=>match oneT (mgT f fp fo y),oneT (mgT f fp fo n) with
  |some (oy,a),some (on,b)=>match fp i k a b with
   |some c=>reqT (obP i k oy on) c
   |none=> .pick i k (mgT f fp fo y) (mgT f fp fo n)
  |_,_=> .pick i k (mgT f fp fo y) (mgT f fp fo n)
 |.or y n=>match Qqs (mgT f fp fo y),Qqs (mgT f fp fo n) with
  |some a,some b=>match fo a b with
   |some c=> .leaf c
   |none=> .or (mgT f fp fo y) (mgT f fp fo n)
  |_,_=> .or (mgT f fp fo y) (mgT f fp fo n)
 |.req o t=> .req o (mgT f fp fo t)
 |.dead=> .dead
theorem Qgk {α:Type} {V:Sig} {Q:α->Prop}: ∀{T:Tree α} {o:Ob} {a:α},oneT T=some (o,a)->o.Sat V->Q a->Sat V Q T
 |.leaf _,_,_,h,_,q=>by simp only [oneT] at h;cases h;exact q
 |.req o t,_,_,h,ho,q=>by
  simp only [oneT] at h;split at h;rename_i a' ht;cases h;exact ⟨ho,Qgk ht trivial q⟩;cases h
 |.node i y n,o,a,h,ho,q=>by
  simp only [oneT] at h;split at h;rename_i hd;have:=Qqj hd;subst this;split at h;rename_i o' a' hy;cases h;exact ⟨fun e=>Qgk hy (ho.1 e) q,fun e=>ho.2 e⟩;cases h;split at h;rename_i hd;have:=Qqj hd;subst this;split at h;rename_i o' a' hy;cases h;exact ⟨fun e=>ho.1 e,fun e=>Qgk hy (ho.2 e) q⟩;cases h;cases h
 |.pick i k y n,o,a,h,ho,q=>by
  simp only [oneT] at h;split at h;rename_i hd;have:=Qqj hd;subst this;split at h;rename_i o' a' hy;cases h;exact ⟨fun e=>Qgk hy (ho.1 e) q,fun e=>ho.2 e⟩;cases h;split at h;rename_i hd;have:=Qqj hd;subst this;split at h;rename_i o' a' hy;cases h;exact ⟨fun e=>ho.1 e,fun e=>Qgk hy (ho.2 e) q⟩;cases h;cases h
 |.dead,_,_,h,_,_=>by simp [oneT] at h
 |.or _ _,_,_,h,_,_=>by simp [oneT] at h
theorem Qgj {α:Type} {S:α->Prop}: ∀{T:Tree α} {o:Ob} {a:α},oneT T=some (o,a)->AllT S T->S a
 |.leaf _,_,_,h,q=>by simp only [oneT] at h;cases h;exact q
 |.req o t,_,_,h,q=>by
  simp only [oneT] at h;split at h;rename_i a' ht;cases h;exact Qgj ht q;cases h
 |.node i y n,o,a,h,q=>by
  simp only [oneT] at h;split at h;split at h;rename_i o' a' hy;cases h;exact Qgj hy q.1;cases h;split at h;split at h;rename_i o' a' hy;cases h;exact Qgj hy q.2;cases h;cases h
 |.pick i k y n,o,a,h,q=>by
  simp only [oneT] at h;split at h;split at h;rename_i o' a' hy;cases h;exact Qgj hy q.1;cases h;split at h;split at h;rename_i o' a' hy;cases h;exact Qgj hy q.2;cases h;cases h
 |.dead,_,_,h,_=>by simp [oneT] at h
 |.or _ _,_,_,h,_=>by simp [oneT] at h
theorem Q76 {α:Type} {V:Sig} {Q:α->Prop} {o:Ob} {a:α} (h:Sat V Q (reqT o a)):o.Sat V/\Q a:=by
 unfold reqT at h;split at h;exact ⟨trivial,h⟩;exact h
theorem Q75 {α:Type} {S:α->Prop} {o:Ob} {a:α} (h:S a):AllT S (reqT o a):=by
 unfold reqT;split<;>exact h
theorem Q2a {α:Type} {T:Tree α} {a:α} (h:Qqs T=some a):T=.leaf a:=by
 unfold Qqs at h;split at h;cases h;rfl;cases h
theorem Qfn {α:Type} {V:Sig} {W:α->α->Prop} {S:α->Prop} {f:Nat->α->α->Option α} {fp:Nat->Int->α->α->Option α} {fo:α->α->Option α} (hr: ∀a,W a a) (htr: ∀a b c,W a b->W b c->W a c)
  (hf: ∀i a b c,S a->S b->f i a b=some c->S c/\(V.b i=true->W a c)/\(V.b i=false->W b c))
  (hs: ∀i k a b c,S a->S b->fp i k a b=some c->S c/\(V.i i=k->W a c)/\(V.i i≠k->W b c))
  (ho: ∀a b c,S a->S b->fo a b=some c->S c/\W a c/\W b c):
  ∀{T:Tree α},AllT S T->AllT S (mgT f fp fo T)/\ ∀Q:α->Prop,Sat V Q (mgT f fp fo T)->Sat V (fun a=> ∃c,Q c/\W a c) T
 |.leaf a,h=>⟨h,fun Q q=>⟨a,q,hr a⟩⟩
 |.dead,h=>⟨h,fun Q q=>q⟩
 |.req o t,h=>by
  obtain ⟨a1,a2⟩:=Qfn hr htr hf hs ho (T:=t) h;exact ⟨a1,fun Q q=>⟨q.1,a2 Q q.2⟩⟩
 |.or y n,h=>by
  obtain ⟨a1,a2⟩:=Qfn hr htr hf hs ho h.1;obtain ⟨b1,b2⟩:=Qfn hr htr hf hs ho h.2;have keep:AllT S (Tree.or (mgT f fp fo y) (mgT f fp fo n))/\ ∀Q:α->Prop,Sat V Q (Tree.or (mgT f fp fo y) (mgT f fp fo n))->Sat V (fun a=> ∃c,Q c/\W a c) (Tree.or y n):=⟨⟨a1,b1⟩,fun Q q=>⟨a2 Q q.1,b2 Q q.2⟩⟩;simp only [mgT];split;rename_i a b ha hb;split;rename_i c hc;have ea:=Q2a ha;have eb:=Q2a hb;rw [ea] at a1 a2;rw [eb] at b1 b2;obtain ⟨k1,k2,k3⟩:=ho a b c a1 b1 hc;refine ⟨k1,fun Q q=>⟨(a2 (fun x=>x=a) rfl).mono ?_,(b2 (fun x=>x=b) rfl).mono ?_⟩⟩;rintro x ⟨c',rfl,hw⟩;exact ⟨c,q,htr _ _ _ hw k2⟩;rintro x ⟨c',rfl,hw⟩;exact ⟨c,q,htr _ _ _ hw k3⟩;exact keep;exact keep
 |.pick i k y n,h=>by
  obtain ⟨a1,a2⟩:=Qfn hr htr hf hs ho h.1;obtain ⟨b1,b2⟩:=Qfn hr htr hf hs ho h.2;have keep:AllT S (Tree.pick i k (mgT f fp fo y) (mgT f fp fo n))/\ ∀Q:α->Prop,Sat V Q (Tree.pick i k (mgT f fp fo y) (mgT f fp fo n))->Sat V (fun a=> ∃c,Q c/\W a c) (Tree.pick i k y n):=
   ⟨⟨a1,b1⟩,fun Q q=>⟨fun e=>a2 Q (q.1 e),fun e=>b2 Q (q.2 e)⟩⟩
  simp only [mgT];split;rename_i oy a on b ha hb;split;rename_i c hc;obtain ⟨sc,w1,w2⟩:=hs i k a b c (Qgj ha a1) (Qgj hb b1) hc;refine ⟨Q75 sc,fun Q q=> ?_⟩;obtain ⟨q1,q2⟩:=Q76 q;have q1:=Qbkh q1;exact ⟨fun e=>(a2 (fun x=>x=a) (Qgk ha (q1.1 e) rfl)).mono fun x ⟨c',e',hw⟩=>⟨c,q2,htr _ _ _ hw (by rw [e'];exact w1 e)⟩,
   fun e=>(b2 (fun x=>x=b) (Qgk hb (q1.2 e) rfl)).mono fun x ⟨c',e',hw⟩=>⟨c,q2,htr _ _ _ hw (by rw [e'];exact w2 e)⟩⟩
  exact keep;exact keep
 |.node i y n,h=>by
  obtain ⟨a1,a2⟩:=Qfn hr htr hf hs ho h.1;obtain ⟨b1,b2⟩:=Qfn hr htr hf hs ho h.2;have keep:AllT S (Tree.node i (mgT f fp fo y) (mgT f fp fo n))/\ ∀Q:α->Prop,Sat V Q (Tree.node i (mgT f fp fo y) (mgT f fp fo n))->Sat V (fun a=> ∃c,Q c/\W a c) (Tree.node i y n):=
   ⟨⟨a1,b1⟩,fun Q q=>⟨fun e=>a2 Q (q.1 e),fun e=>b2 Q (q.2 e)⟩⟩
  simp only [mgT];split;rename_i oy a on b ha hb;split;rename_i c hc;obtain ⟨sc,w1,w2⟩:=hf i a b c (Qgj ha a1) (Qgj hb b1) hc;refine ⟨Q75 sc,fun Q q=> ?_⟩;obtain ⟨q1,q2⟩:=Q76 q;have q1:=Qbkg q1;exact ⟨fun e=>(a2 (fun x=>x=a) (Qgk ha (q1.1 e) rfl)).mono fun x ⟨c',e',hw⟩=>⟨c,q2,htr _ _ _ hw (by rw [e'];exact w1 e)⟩,
   fun e=>(b2 (fun x=>x=b) (Qgk hb (q1.2 e) rfl)).mono fun x ⟨c',e',hw⟩=>⟨c,q2,htr _ _ _ hw (by rw [e'];exact w2 e)⟩⟩
  exact keep;exact keep
end Go.Ev
