/- The evaluator, part 7. -/
import Derived.Test.YtelimhjceiamcaaDoorBEv6
set_option linter.unusedVariables false
set_option linter.unusedSimpArgs false
set_option linter.unnecessarySimpa false
namespace Go.Ev
def Qbgu (t:Tm):List Nat->List AVal->Tm
 |d::ds,v::vs=>Qbgu (putA t (some d) v) ds vs
 |_,_=>t
def Qbkm (b:Nat) (x:Ex×Tm×Hp):Tree (Out×Hp):=
 match x.2.2.heap[b]? with
 |some (.loop l)=>match x.1 with
  |.normal=> .leaf (.val (.bool true),⟨x.2.2.heap.set b (.loop ⟨.ready,none,l.t,l.params,l.assign,l.body,l.dfr⟩),b::x.2.2.log⟩)
  |.ret=> .leaf (.val (.bool false),⟨x.2.2.heap.set b (.loop ⟨.done,some .ret,l.t,l.params,l.assign,l.body,l.dfr⟩),b::x.2.2.log⟩)
  |.exit i=> .leaf (.val (.bool false),⟨x.2.2.heap.set b (.loop ⟨.done,some (.exit i),l.t,l.params,l.assign,l.body,l.dfr⟩),b::x.2.2.log⟩)
  |.pan _=> .dead
 |_=> .dead
def Qwf (P:Program) (C:CxF) (mb:Bool) (fuel:Nat) (call:Q7) (round:Qbf):Qbf:=fun F b args hp=> .dead
def resA (P:Program) (t:Tm) (H:List Blk):List ResultVar->Option (List AVal)
 |[]=>some []
 |r::l=>match (match r with
   |.tmp i=>t.get i
   |.cell i ty=>match t.get i with
    |some x=>Qf1 P ty x H
    |_=>none:Option AVal) with
  |some v=>match resA P t H l with
   |some vs=>some (v::vs)
   |none=>none
  |none=>none
mutual
def Qde:AVal->Bool
 |.bool _=>true
 |.int _ _=>true
 |.float _ _=>true
 |.str _=>true
 |.nilptr=>true
 |.nilslice=>true
 |.nilmap=>true
 |.nilfunc=>true
 |.niliface=>true
 |.symi _ _=>true
 |.symb _=>true
 |.syms _=>true
 |.func _ f c=>Qhm f&&Qhm c
 |.iface _ v=>Qde v
 |.agg l=>Qhm l
 |.tuple l=>Qhm l
 |_=>false
def Qhm:List AVal->Bool
 |[]=>true
 |v::l=>Qde v&&Qhm l
end
def Qqk (n:Nat):List Nat->Bool
 |[]=>true
 |i::l=>Nat.ble n i&&Qqk n l
def Qjt:List AVal->AVal
 |[v]=>v
 |vs=> .tuple vs
def Qls (v:AVal) (s s':Hp):Out×Hp:=
 match Qde v&&Qqk s.heap.length s'.log with
 |true=>(.val v,s)
 |false=>(.val v,⟨s'.heap,s'.log++s.log⟩)
inductive AMode where
 |ret
 |pan (v:AVal) (rec:Bool)
def Qw0:AMode->AMode
 |.pan v r=>match r with
  |true=> .ret
  |false=> .pan v false
 |.ret=> .ret
def Qlp:Op->Bool
 |.call c=>match c.callee with
  |.builtin b=>match b with
   |.recover=>true
   |_=>false
  |_=>false
 |_=>false
def Q0b:List Oper->Bool
 |[]=>false
 |o::l=>match Qlp o.op with
  |true=>true
  |false=>Q0b l
def opsS (P:Program) (ng:Cx) (ops:Array Oper):List Nat->Tm->AMode->Option (Tm×AMode)
 |[],t,m=>some (t,m)
 |i::l,t,m=>match ops[i]? with
  |none=>none
  |some o=>match o.guard with
   |some _=>none
   |none=>match Qlp o.op with
    |true=>match m with
     |.pan v r=>match r with
      |false=>opsS P ng ops l (putA t o.dst v) (.pan v true)
      |true=>opsS P ng ops l (putA t o.dst .niliface) m
     |.ret=>opsS P ng ops l (putA t o.dst .niliface) m
    |false=>match Qe6 P ng t o.op with
     |some r=>opsS P ng ops l (putA t o.dst r) m
     |none=>none
def Qz (P:Program) (C:CxF) (mb:Bool) (fuel:Nat) (call:Q7) (round:Qbf):Code->List Fact->Tm->Hp->AMode->Tree ((Ex×Tm×Hp)×AMode)
 |.seq a b,F,t,hp,m=>Qbb F (Qz P C mb fuel call round a F t hp m) fun F' x=>match x with
  |((.normal,t',hp'),m')=>Qz P C mb fuel call round b F' t' hp' m'
  |x=> .leaf x
 |.cond c a b,F,t,hp,m=>match ev (C F) t c with
  |some (.bool v)=>match v with
   |true=>Qz P C mb fuel call round a F t hp m
   |false=>Qz P C mb fuel call round b F t hp m
  |_=> .dead
 |.block id c,F,t,hp,m=>Qbb F (Qz P C mb fuel call round c F t hp m) fun _ x=> .leaf (Qdw id x.1,x.2)
 |.region id ops draw,F,t,hp,m=>match Q0b ops.toList with
  |true=>match draw with
   |false=>match opsS P (C F) ops (List.range ops.size) t m with
    |some (t',m')=> .leaf ((.normal,t',hp),m')
    |none=> .dead
   |true=> .dead
  |false=>Qbb F (Qbl P C mb fuel call round false (.region id ops draw) F t hp) fun _ x=> .leaf (x,m)
 |c,F,t,hp,m=>Qbb F (Qbl P C mb fuel call round false c F t hp) fun _ x=> .leaf (x,m)
def Qhk (args:List AVal) (n:Nat):Tm:=⟨n,TT.mk args n Qb4 12 0 1,[]⟩
def Qkv (P:Program) (C:CxF) (mb:Bool) (fuel:Nat) (call:Q7) (round:Qbf) (F:List Fact) (f:FuncId) (args:List AVal) (m:AMode) (hp:Hp):Tree (AMode×Hp):=
 match P.funcs[f]? with
 |some fn=>match fn.body with
  |some c=>Qbb F (Qz P C mb fuel call round c F (Qhk args fn.ntmps) hp m) fun _ x=>match x.1.2.1.df with
   |[]=>match x.1.1 with
    |.normal=>match resA P x.1.2.1 x.1.2.2.heap fn.results.toList with
     |some _=> .leaf (x.2,x.1.2.2)
     |none=> .dead
    |.ret=>match resA P x.1.2.1 x.1.2.2.heap fn.results.toList with
     |some _=> .leaf (x.2,x.1.2.2)
     |none=> .dead
    |_=> .dead
   |_=> .dead
  |none=> .dead
 |none=> .dead
def Qfu (P:Program) (C:CxF) (mb:Bool) (fuel:Nat) (call:Q7) (round:Qbf):List ADef->List Fact->AMode->Hp->Tree (AMode×Hp)
 |[],_,m,hp=> .leaf (m,hp)
 |.mark b::l,F,m,hp=>match hp.heap[b]? with
  |some .dfr=>Qfu P C mb fuel call round l F m ⟨hp.heap.set b .gone,b::hp.log⟩
  |_=> .dead
 |.fn fv cap args::l,F,m,hp=>match fv with
  |.func f=>match Qfm P f (args++cap) with
   |some _=>Qbb F (Qkv P C mb fuel call round F f (args++cap) m hp) fun F' x=>Qfu P C mb fuel call round l F' (Qw0 x.1) x.2
   |none=> .dead
  |_=> .dead
def Qk5:Ex->Option AMode
 |.pan v=>some (.pan v false)
 |.exit _=>none
 |.normal=>some .ret
 |.ret=>some .ret
def Qoa (P:Program) (fn:Func) (t:Tm) (s:Hp) (y:AMode×Hp):Tree (Out×Hp):=
 match y.1 with
 |.pan v r=>match r with
  |false=> .leaf (.pan v,⟨y.2.heap,y.2.log++s.log⟩)
  |true=> .dead
 |.ret=>match resA P t y.2.heap fn.results.toList with
  |some vs=> .leaf (Qls (Qjt vs) s y.2)
  |none=> .dead
def Qk3 (P:Program) (C:CxF) (mb:Bool) (fuel:Nat) (call:Q7) (round:Qbf) (F:List Fact) (fn:Func) (s:Hp) (x:Ex×Tm×Hp):Tree (Out×Hp):=
 match Qk5 x.1 with
 |some m=>Qbb F (Qfu P C mb fuel call round x.2.1.df F m x.2.2) fun _ y=>Qoa P fn x.2.1 s y
 |none=> .dead
def Qkq (P:Program) (C:CxF) (mb:Bool) (fuel:Nat) (call:Q7) (round:Qbf):Q7:=fun F f args hp=>
 match P.funcs[f]? with
 |some fn=>match fn.body with
  |some c=>mgT (mgO (C F) hp) (mgOP (C F) hp) (mgOr hp) (Qbb F (Qbl P C mb fuel call round false c F (Qhk args fn.ntmps) ⟨hp.heap,[]⟩) fun F' x=>Qk3 P C mb fuel call round F' fn hp x)
  |none=> .dead
 |none=> .dead
def panB (C:CxF) (call:Q7):Q7:=fun F f args hp=>match (C F).phook f args hp with
 |some (v,hp')=> .leaf (.pan v,hp')
 |none=>call F f args hp
def evD (P:Program) (C:CxF) (mb:Bool) (fuel:Nat):Nat->Q7×Qbf
 |0=>(fun _ _ _ _=> .dead,fun _ _ _ _=> .dead)
 |d+1=>(panB C (Qkq P C mb fuel (evD P C mb fuel d).1 (evD P C mb fuel d).2),Qwf P C mb fuel (evD P C mb fuel d).1 (evD P C mb fuel d).2)
section
variable {P : Program} {C : CxF} {call : Q7} {round : Qbf} {mb : Bool} {fuel : Nat}
theorem Qbiy {α:Type} {hp hp':Hp} {f:α->Hp} {T:Tree α} (h:Touch hp hp') (ht:AllT (fun x=>Touch hp' (f x)) T):AllT (fun x=>Touch hp (f x)) T:=ht.mono fun _ hx=>h.trans hx
theorem Q3q (F:List Fact) (hp:Hp) (g:Inj) (w:World) (a:Act) (T:Tree (Ex×Tm×Hp)) (Q:Ex×Tm×Hp->Prop) (hT:AllT (fun x=>Touch hp x.2.2) T):
  AllT (fun x=>Touch hp x.2.2) (mgT (mgC (C F) hp) (mgCP (C F) hp) (fun _ _=>none) T)/\(Sat g.sig Q (mgT (mgC (C F) hp) (mgCP (C F) hp) (fun _ _=>none) T)->Sat g.sig (fun x=> ∃y,Q y/\WC (C F) hp g w a x y) T):=by
 have:=Qfa (σ:=g.sig) (W:=WC (C F) hp g w a) (S:=fun x=>Touch hp x.2.2) (f:=mgC (C F) hp) (fp:=mgCP (C F) hp) (fo:=fun _ _=>none) (fun _ _ _ _ h=>h) (fun _ _ _ h k e a w q=>k e a w (h e a w q))
  (fun i x y z sx sy h=>⟨(Qhy sx sy h).1,((Qhy sx sy h).2 g w a).1,((Qhy sx sy h).2 g w a).2⟩)
  (fun i k x y z sx sy h=>⟨(Qjl sx sy h).1,((Qjl sx sy h).2 g w a).1,((Qjl sx sy h).2 g w a).2⟩)
  (fun x y z _ _ h=>by cases h) hT
 exact ⟨this.1,this.2 Q⟩
theorem Qbgz (E:Env P C call round) {id:Nat} {ops:Array Oper} {draw inr:Bool}:CodeOk P C inr (.region id ops draw) (Qwb P C call round inr ops draw):=by
 cases draw with
 |false=>exact ⟨fun F t hp=>Qqm E _ F t hp,fun F t hp Q r g w a hr hH ht hs=>wpIn_region_list (Qql E.ok E.hooks E.call E.round hr ops.toList F t hp Q g w a hH ht hs)⟩
 |true=>exact Qyv E 12
theorem Qdy (E:Env P C call round): ∀(c:Code) (inr:Bool),CodeOk P C inr c (Qbl P C mb fuel call round inr c)
 |.skip,inr=>⟨fun _ _ _=>Touch.refl _,fun F t hp Q r g w a _ hH ht hs=>wpIn_skip ⟨_,hs,Touch.refl _,g,trivial,hH,Ext.refl _ _ _,ht,rfl⟩⟩
 |.label l,inr=>⟨fun _ _ _=>Touch.refl _,fun F t hp Q r g w a _ hH ht hs=>wpIn_label ⟨_,hs,Touch.refl _,g,trivial,hH,Ext.refl _ _ _,ht,rfl⟩⟩
 |.exit i,inr=>⟨fun _ _ _=>Touch.refl _,fun F t hp Q r g w a _ hH ht hs=>wpIn_exit ⟨_,hs,Touch.refl _,g,rfl,hH,Ext.refl _ _ _,ht,rfl⟩⟩
 |.ret,inr=>⟨fun _ _ _=>Touch.refl _,fun F t hp Q r g w a _ hH ht hs=>wpIn_ret ⟨_,hs,Touch.refl _,g,trivial,hH,Ext.refl _ _ _,ht,rfl⟩⟩
 |.region id ops draw,inr=>by
  have hR:=Qbgz E (id:=id) (ops:=ops) (draw:=draw) (inr:=inr)
  constructor
  ·intro F t hp
   simp only [Qbl]
   split
   ·exact (Q3q F hp ⟨fun _=>none,⟨fun _=>0,fun _=>false,fun _=> .empty,fun _ _=>0,fun _=>none⟩,fun _=>none⟩ default {tmps:= #[],defers:=[]} _ (fun _=>True) (hR.touch F t hp)).1
   ·exact hR.touch F t hp
  ·intro F t hp Q r g w a hr hH ht hs
   simp only [Qbl] at hs
   split at hs
   ·have hs:=(Q3q F hp g w a _ Q (hR.touch F t hp)).2 hs
    exact wpIn_mono (hR.wp F t hp _ r g w a hr hH ht hs) fun e a' w' ⟨x,⟨y,hy,hw⟩,hq⟩=>⟨y,hy,hw e a' w' hq⟩
   ·exact hR.wp F t hp Q r g w a hr hH ht hs
 |.seq x y,inr=>by
  have hx:=Qdy E x inr
  have hy:=Qdy E y inr
  constructor
  ·intro F t hp
   simp only [Qbl]
   refine Qb7 (Q:=fun x=>Touch hp x.2.2) ?_ (hx.touch F t hp)
   rintro F' ⟨e,t',hp'⟩ h
   cases e with
   |normal=>exact Qbiy h (hy.touch F' t' hp')
   |_=>exact h
  ·intro F t hp Q r g w a hr hH ht hs
   simp only [Qbl] at hs
   have hs:=Qcc (E.ok.facts hH) hs
   refine wpIn_seq (wpIn_mono (hx.wp F t hp _ r g w a hr hH ht hs) ?_)
   rintro e a' w' ⟨⟨x,t',hp'⟩,⟨F',hF',q⟩,h0,g',h1,h2,h3,h4,h5⟩
   have hF0:Ql g'.sig F:=by rw [h3.sub.sig];exact E.ok.facts hH
   cases x with
   |normal=>
    cases e<;>simp only [Qbj] at h1
    exact wpIn_mono (hy.wp F' t' hp' Q r g' w' a' hr (E.ok.move h2 (by rw [h3.sub.sig];exact hF')) h4 (by rw [h3.sub.sig];exact q)) fun e a w ⟨x,hx,hq⟩=>⟨x,hx,(hq.move E.ok hF0).trans hH h0 h3 h5⟩
   |_=>cases e<;>simp only [Qbj] at h1<;>exact ⟨_,q,h0,g',h1,h2,h3,h4,h5⟩
 |.cond c x y,inr=>by
  have hx:=Qdy E x inr
  have hy:=Qdy E y inr
  constructor
  ·intro F t hp
   simp only [Qbl]
   split
   ·split
    ·exact hx.touch F t hp
    ·exact hy.touch F t hp
   ·exact ⟨hx.touch _ t hp,hy.touch _ t hp⟩
   ·trivial
  ·intro F t hp Q r g w a hr hH ht hs
   simp only [Qbl] at hs
   split at hs
   ·rename_i v hc
    have hv:=ht.1.eval hH.sig hH.glob hc
    split at hs
    ·exact wpIn_cond_true (rel_bool0 hv) (hx.wp F t hp Q r g w a hr hH ht hs)
    ·exact wpIn_cond_false (rel_bool0 hv) (hy.wp F t hp Q r g w a hr hH ht hs)
   ·rename_i i hc
    have hv:=ht.1.eval hH.sig hH.glob hc
    have hF:=E.ok.facts hH
    cases hb:g.sig.bval i with
    |true=>
     have hF':Ql g.sig (.tru i true::F):=Qbd _ hb hF
     refine wpIn_cond_true (by generalize a.eval c=u at hv;cases hv;rw [hb]) (wpIn_mono (hx.wp _ t hp Q r g w a hr (E.ok.move hH hF') ht (hs.1 hb)) fun e a w ⟨x,hx,hq⟩=>⟨x,hx,hq.move E.ok hF⟩)
    |false=>
     have hF':Ql g.sig (.tru i false::F):=Qbd _ hb hF
     refine wpIn_cond_false (by generalize a.eval c=u at hv;cases hv;rw [hb]) (wpIn_mono (hy.wp _ t hp Q r g w a hr (E.ok.move hH hF') ht (hs.2 hb)) fun e a w ⟨x,hx,hq⟩=>⟨x,hx,hq.move E.ok hF⟩)
   ·exact hs.elim
 |.block id c,inr=>by
  have hc:=Qdy E c inr
  have hX: ∀(x:Ex×Tm×Hp),(Qdw id x).2=x.2:=by
   rintro ⟨e,t,hp⟩
   unfold Qdw
   split
   ·rename_i i t' hp' he
    cases he
    split<;>rfl
   ·rfl
  have htB: ∀F t hp,AllT (fun x=>Touch hp x.2.2) (Qbb F (Qbl P C mb fuel call round inr c F t hp) fun _ x=> .leaf (Qdw id x)):=by
   intro F t hp
   refine Qb7 (Q:=fun x=>Touch hp x.2.2) ?_ (hc.touch F t hp)
   intro F' x h
   show Touch hp (Qdw id x).2.2
   rw [hX];exact h
  have hwB: ∀F t hp (Q:Ex×Tm×Hp->Prop) (r:Option Nat) g w a,(inr=false->r=none)->HRel (C F) g hp.heap w->FRel g t a->Sat g.sig Q (Qbb F (Qbl P C mb fuel call round inr c F t hp) fun _ x=> .leaf (Qdw id x))->
    (Code.block id c).wpIn (FR r) 0 P (fun e a' w'=> ∃x,Q x/\Qp (C F) hp g w a x e a' w') a w:=by
   intro F t hp Q r g w a hr hH ht hs
   have hs:=Qcc (E.ok.facts hH) hs
   refine wpIn_block (wpIn_mono (hc.wp F t hp _ r g w a hr hH ht hs) ?_)
   rintro e a' w' ⟨⟨x,t',hp'⟩,⟨F',hF',q⟩,h0,g',h1,h2,h3,h4,h5⟩
   simp only [Sat] at q
   cases x with
   |exit i=>
    cases e<;>simp only [Qbj] at h1
    subst h1
    simp only [Qdw] at q
    simp only [Exit.inBlock]
    split at q
    ·rename_i hi
     rw [if_pos (Nat.eq_of_beq_eq_true hi)]
     exact ⟨_,q,h0,g',trivial,h2,h3,h4,h5⟩
    ·rename_i hi
     rw [if_neg (Nat.ne_of_beq_eq_false hi)]
     exact ⟨_,q,h0,g',rfl,h2,h3,h4,h5⟩
   |normal=>cases e<;>simp only [Qbj] at h1<;>exact ⟨_,q,h0,g',trivial,h2,h3,h4,h5⟩
   |ret=>cases e<;>simp only [Qbj] at h1<;>exact ⟨_,q,h0,g',trivial,h2,h3,h4,h5⟩
   |pan v=>cases e<;>simp only [Qbj] at h1<;>exact ⟨_,q,h0,g',h1,h2,h3,h4,h5⟩
  have mg: ∀F hp g w a (T:Tree (Ex×Tm×Hp)) (Q:Ex×Tm×Hp->Prop),AllT (fun x=>Touch hp x.2.2) T->AllT (fun x=>Touch hp x.2.2) (mgT (mgC (C F) hp) (mgCP (C F) hp) (fun _ _=>none) T)/\(Sat g.sig Q (mgT (mgC (C F) hp) (mgCP (C F) hp) (fun _ _=>none) T)->Sat g.sig (fun x=> ∃y,Q y/\WC (C F) hp g w a x y) T):=by
   intro F hp g w a T Q hT
   have:=Qfa (σ:=g.sig) (W:=WC (C F) hp g w a) (S:=fun x=>Touch hp x.2.2) (f:=mgC (C F) hp) (fp:=mgCP (C F) hp) (fo:=fun _ _=>none) (fun _ _ _ _ h=>h) (fun _ _ _ h k e a w q=>k e a w (h e a w q))
    (fun i x y z sx sy h=>⟨(Qhy sx sy h).1,((Qhy sx sy h).2 g w a).1,((Qhy sx sy h).2 g w a).2⟩)
    (fun i k x y z sx sy h=>⟨(Qjl sx sy h).1,((Qjl sx sy h).2 g w a).1,((Qjl sx sy h).2 g w a).2⟩)
    (fun x y z _ _ h=>by cases h) hT
   exact ⟨this.1,this.2 Q⟩
  cases mb with
  |false=>exact ⟨htB,hwB⟩
  |true=>
   constructor
   ·intro F t hp
    exact (mg F hp ⟨fun _=>none,⟨fun _=>0,fun _=>false,fun _=> .empty,fun _ _=>0,fun _=>none⟩,fun _=>none⟩ default {tmps:= #[],defers:=[]} _ (fun _=>True) (htB F t hp)).1
   ·intro F t hp Q r g w a hr hH ht hs
    simp only [Qbl] at hs
    have hs:=(mg F hp g w a _ Q (htB F t hp)).2 hs
    exact wpIn_mono (hwB F t hp _ r g w a hr hH ht hs) fun e a' w' ⟨x,⟨y,hy,hw⟩,hq⟩=>⟨y,hy,hw e a' w' hq⟩
 |.loop c,inr=>by
  have hc:=Qdy E c inr
  have:=Q29 E hc fuel
  exact ⟨this.1,fun F t hp Q r g w a hr hH ht hs=>wpIn_loop_rounds fuel (this.2 F t hp Q r g w a hr hH ht hs)⟩
 |.rangeFunc f ps asg body,inr=>by
  cases inr with
  |true=>exact ⟨fun _ _ _=>trivial,fun _ _ _ _ _ _ _ _ _ _ _ h=>h.elim⟩
  |false=>exact Qbgw E
 |.scope _,inr=>⟨fun _ _ _=>trivial,fun _ _ _ _ _ _ _ _ _ _ _ h=>h.elim⟩
 |.goto _,inr=>⟨fun _ _ _=>trivial,fun _ _ _ _ _ _ _ _ _ _ _ h=>h.elim⟩
 |.refuse _,inr=>⟨fun _ _ _=>trivial,fun _ _ _ _ _ _ _ _ _ _ _ h=>h.elim⟩
where rel_bool0 {g:Inj} {b:Bool} {u:Value} (h:VRel g (.bool b) u):u=.bool b:=by cases h;rfl
end
end Go.Ev
set_option linter.unusedVariables false
namespace Go.Ev
set_option linter.unusedVariables false
set_option linter.unusedSimpArgs false
set_option linter.unnecessarySimpa false
section
variable {P : Program} {C : CxF} {call : Q7} {round : Qbf} {mb : Bool} {fuel : Nat}
theorem Qbg9 (E:Env P C call round):Qxk (Qwf P C mb fuel call round):=by
 intro F b args hp
 trivial
theorem Qbg8 (E:Env P C call round):Qnk P C (Qwf P C mb fuel call round):=by
 intro F b args hp Q g w args' L r hH hL ha hs
 exact hs.elim
end
section
variable {P : Program} {ng : Cx}
mutual
theorem Qos {g g':Inj} (hs:g'.sig=g.sig): ∀{a:AVal} {v:Value},VRel g a v->Qde a=true->VRel g' a v
 |_,_,.bool b,_=> .bool b
 |_,_,.int k n,_=> .int k n
 |_,_,.float k n,_=> .float k n
 |_,_,.str s,_=> .str s
 |_,_,.nilptr,_=> .nilptr
 |_,_,.ptr _ _ _ _,h=>by simp [Qde] at h
 |_,_,.nilslice,_=> .nilslice
 |_,_,.slice _ _ _ _ _ _ _ _ _ _ _ _,h=>by simp [Qde] at h
 |_,_,.nilmap,_=> .nilmap
 |_,_,.map _ _ _,h=>by simp [Qde] at h
 |_,_,.nilfunc,_=> .nilfunc
 |_,_,.func fn f c f' c' h1 h2,h=>by
  simp only [Qde,Bool.and_eq_true] at h
  exact .func fn f c f' c' (Qlk hs h1 h.1) (Qlk hs h2 h.2)
 |_,_,.niliface,_=> .niliface
 |_,_,.symi k i,_=>by rw [<-hs];exact .symi k i
 |_,_,.symb i,_=>by rw [<-hs];exact .symb i
 |_,_,.syms i,_=>by rw [<-hs];exact .syms i
 |_,_,.iface t v v' h1,h=>by
  simp only [Qde] at h
  exact .iface t v v' (Qos hs h1 h)
 |_,_,.agg l l' h1,h=>by
  simp only [Qde] at h
  exact .agg l l' (Qlk hs h1 h)
 |_,_,.tuple l l' h1,h=>by
  simp only [Qde] at h
  exact .tuple l l' (Qlk hs h1 h)
theorem Qlk {g g':Inj} (hs:g'.sig=g.sig): ∀{a:List AVal} {v:List Value},LRel g a v->Qhm a=true->LRel g' a v
 |_,_,.nil,_=> .nil
 |_,_,.cons a v l m h1 h2,h=>by
  simp only [Qhm,Bool.and_eq_true] at h
  exact .cons a v l m (Qos hs h1 h.1) (Qlk hs h2 h.2)
end
theorem Q4f {n:Nat}: ∀{l:List Nat},Qqk n l=true-> ∀i,i<n->i∉l
 |[],_,_,_=>by simp
 |j::l,h,i,hi=>by
  simp only [Qqk,Bool.and_eq_true,Nat.ble_eq] at h
  simp only [List.mem_cons,not_or]
  exact ⟨by omega,Q4f h.2 i hi⟩
def Qmx (tmps:Array Value):ResultVar->Sem Value
 |.tmp t=>pure (tmps.getD t undef)
 |.cell x t=>do loadVar t (<-asAddr (tmps.getD x undef))
theorem Q5f (fn:Func) (tmps:Array Value):results fn tmps=(do
  let vs<-fn.results.mapM (Qmx tmps)
  pure (if h:vs.size=1 then vs[0] else .tuple vs)):=by
 unfold results
 congr 2
theorem Q5c {g:Inj} {H:List Blk} {w:World} {t:Tm} {a:Act} (hH:HRel ng g H w) (ht:TRel g t a): ∀(l:List ResultVar) (vs:List AVal),resA P t H l=some vs->
  ∃us:List Value,(l.mapM (Qmx a.tmps)).run P w=.ok us w/\LRel g vs us
 |[],vs,h=>by simp [resA] at h;subst h;exact ⟨[],by simp,.nil⟩
 |r::l,vs,h=>by
  simp only [resA] at h
  split at h
  ·rename_i v hv
   split at h
   ·rename_i vs' hvs
    cases h
    obtain ⟨us,h1,h2⟩:=Q5c hH ht l vs' hvs
    cases r with
    |tmp i=>
     simp only at hv
     obtain ⟨u,k1,k2⟩:=ht.2 i v hv
     refine ⟨u::us,?_,.cons _ _ _ _ k2 h2⟩
     rw [List.mapM_cons]
     simp only [Qmx,Sem.run_bind,Sem.run_pure,Result.andThen_ok,h1]
     simp [k1]
    |cell i ty=>
     simp only at hv
     split at hv
     ·rename_i x hx
      obtain ⟨u,k1,k2⟩:=ht.2 i x hx
      obtain ⟨y,m1,m2⟩:=Q5o (P:=P) hH hv k2
      refine ⟨y::us,?_,.cons _ _ _ _ m2 h2⟩
      rw [List.mapM_cons]
      have hu: ∃ad,u=.pointer (some ad):=by
       unfold Qf1 at hv
       split at hv
       ·cases k2;exact ⟨_,rfl⟩
       ·cases hv
      obtain ⟨ad,rfl⟩:=hu
      have m1':(loadVar ty ad).run P w=.ok y w:=by simpa [Instr.loadAt,Instr.sureAddr] using m1
      simp only [Qmx,Sem.run_bind,Array.getD_eq_getD_getElem?,k1,Option.getD_some,asAddr,Sem.run_pure,Result.andThen_ok,m1',h1]
     ·cases hv
   ·cases h
  ·cases h
theorem Qwe {g:Inj} {H:List Blk} {w:World} {t:Tm} {a:Act} (hH:HRel ng g H w) (ht:TRel g t a) {fn:Func} {vs:List AVal} (h:resA P t H fn.results.toList=some vs):
  ∃u,(results fn a.tmps).run P w=.ok u w/\VRel g (Qjt vs) u:=by
 obtain ⟨us,h1,h2⟩:=Q5c (P:=P) hH ht fn.results.toList vs h
 have hl:=h2.length
 rw [Q5f,Array.mapM_eq_mapM_toList]
 simp only [Sem.run_bind,Sem.run_map,Sem.run_pure]
 rw [h1]
 simp only [Result.andThen_ok]
 cases h2 with
 |nil=>exact ⟨.tuple #[],by simp,.tuple _ _ .nil⟩
 |cons b v l m hb hl'=>
  cases hl' with
  |nil=>exact ⟨v,by simp,by simpa [Qjt] using hb⟩
  |cons b' v' l' m' hb' hl''=>
   refine ⟨.tuple (v::v'::m').toArray,by simp,?_⟩
   exact .tuple _ _ (by simpa using LRel.cons b v _ _ hb (.cons b' v' _ _ hb' hl''))
theorem Qzc {g:Inj} {args:List AVal} {args':Array Value} (h:LRel g args args'.toList) (n:Nat):
  TRel g (Qhk args n) {tmps:=args'++Array.replicate (n-args'.size) undef,defers:=[]}:=by
 have hl:=h.length
 simp at hl
 refine ⟨by simp [Qhk];omega,?_⟩
 intro i v hi
 have hlt:i<n:=Tm.get_lt hi
 have hv:=TT.get_mk _ _ _ _ _ _ _ _ (Tm.get_tr hi)
 simp only [Nat.zero_add,Nat.one_mul] at hv
 rcases Nat.lt_or_ge i args.length with h9|h9
 ·obtain ⟨u,k1,k2⟩:=h.get i args[i] (by simp [h9])
  refine ⟨u,?_,?_⟩
  ·rw [Array.getElem?_append_left (by omega)]
   simpa using k1
  ·rw [hv];simpa [List.getD_eq_getElem?_getD,h9] using k2
 ·refine ⟨undef,?_,?_⟩
  ·rw [Array.getElem?_append_right (by omega),Array.getElem?_replicate,if_pos (by omega)]
  ·rw [hv,List.getD_eq_getElem?_getD,List.getElem?_eq_none h9]
   exact .tuple _ _ .nil
theorem Qbaa {g g':Inj} {H H':List Blk} {w w':World} (h:HRel ng g H w) (h':HRel ng g' H' w') (hE:Ext g H w g' H' w') (hsame: ∀i,i<H.length->H'[i]? =H[i]?):HRel ng g H w'/\Ext g H w g H w':=by
 constructor
 ·refine ⟨fun i L hi=>⟨(h.dom i L hi).1,Nat.lt_of_lt_of_le (h.dom i L hi).2 hE.size⟩,h.inj,?_,h.glob,h.sig,⟨fun i X hi hl=>⟨(h'.frz.row i X (by rw [hE.sub.sig];exact hi) hl).1,(h.frz.row i X hi hl).2⟩,fun i X hi=>⟨(h.frz.mp i X hi).1,(h'.frz.mp i X (hE.sub.mp i X hi)).2.1,(h.frz.mp i X hi).2.2⟩,fun i X hi hX=>Nat.lt_of_lt_of_le (h.frz.top i X hi hX) hE.size⟩⟩
  intro i k hi hk
  rcases h.blk0 i k hi hk with hz|⟨L,hL,hB⟩
  ·exact .inl hz
  have hil:i<H.length:=(List.getElem?_eq_some_iff.1 hi).1
  rcases h'.blk0 i k (by rw [hsame i hil];exact hi) hk with hz|⟨L',hL',hB'⟩
  ·exact .inl (hz.mono hE.sub.sig.symm)
  refine .inr ⟨L,hL,?_⟩
  have:=hE.sub i L hL
  rw [this] at hL';cases hL'
  cases k with
  |gone=>trivial
  |map l=>
   obtain ⟨_,_,es1,_,_,b3,_⟩:=hB
   obtain ⟨es,cl,es',d1,d2,d3,d4⟩:=hB'
   exact ⟨es,cl,es',d1,d2,MRel.back hE.sub b3 d3,d4⟩
  |iter x l cur=>
   obtain ⟨X,_,es1,b0,b1,_,_,b4,b5⟩:=hB
   obtain ⟨X',seen,es',d0,d1,d2,d3,d4,d5⟩:=hB'
   have:=hE.sub.mp _ _ b1
   rw [this] at d1;cases d1
   refine ⟨_,seen,es',b0,b1,d2,d3,MRel.back hE.sub b4 d4,fun k v e=> ?_⟩
   obtain ⟨e1,s0,_,_,c3,c4⟩:=b5 k v e
   obtain ⟨e2,s1,f1,f2,f3,f4⟩:=d5 k v e
   exact ⟨e2,s1,f1,f2,VRel.back' hE.sub c3 f3,VRel.back' hE.sub c4 f4⟩
  |loop la=>
   obtain ⟨r,b1,b2,b3,b4,b5,b6,b7,D,b8,b9⟩:=hB
   obtain ⟨r',d1,d2,d3,d4,d5,d6,d7,D',d8,d9⟩:=hB'
   have hD:=hE.sub _ _ b8
   rw [hD] at d8;cases d8
   refine ⟨r',d1,d2,d3,⟨d4.1,fun j v hv=> ?_⟩,d5,d6,d7,D,b8,d9⟩
   obtain ⟨u,_,m2⟩:=b4.2 j v hv
   obtain ⟨u',n1,n2⟩:=d4.2 j v hv
   exact ⟨u',n1,VRel.back' hE.sub m2 n2⟩
  |dfr=>exact hB'
  |cells c e=>
   obtain ⟨C,fr,_,_,_,_,b5⟩:=hB
   obtain ⟨C',fr',d1,d2,d3,d4,d5⟩:=hB'
   refine ⟨C',fr',d1,d2,d3,d4,?_⟩
   intro j x hj
   obtain ⟨v,_,m2,_⟩:=b5 j x hj
   obtain ⟨v',n1,n2,n3⟩:=d5 j x hj
   exact ⟨v',n1,VRel.back' hE.sub m2 n2,n3⟩
  |lst s n cl e=>
   obtain ⟨S,N,_,_,_,p1,p2,_,_,_,_,_,p8⟩:=hB
   obtain ⟨S',N',C',fr',e9,d1,d2,d3,d4,d5,d6,d7,d8⟩:=hB'
   rw [hE.sub.sig] at d1 d2 d6
   have eN:N'=N:=by rw [p2] at d2;cases d2;rfl
   have eS:S'=S:=by rw [p1] at d1;cases d1;rfl
   subst eN;subst eS
   refine ⟨S',N',C',fr',e9,d1,d2,d3,d4,d5,d6,d7,fun m j hm hj=> ?_⟩
   obtain ⟨v,_,m2,_⟩:=p8 m j hm hj
   obtain ⟨v',n1,n2,n3⟩:=d8 m j hm hj
   exact ⟨v',n1,VRel.back' hE.sub m2 n2,n3⟩
 ·exact ⟨Sub.refl g,(fun i L hi hn=>by rw [hn] at hi;cases hi),(fun i L hi hn=>by rw [hn] at hi;cases hi),Nat.le_refl _,fun _ _ hl=>hl,hE.size,hE.frame,hE.os,hE.tape,hE.output⟩
end
section
variable {P : Program} {C : CxF} {call : Q7} {round : Qbf} {mb : Bool} {fuel : Nat}
theorem Qbim {w:World} {r:Nat} (h:w.heap[r]? =some (.deferred (some []))):(Instr.takeDeferred r).run P w=.ok [] (setW w r (.deferred none)):=by
 simp [Instr.takeDeferred,getObj,setObj,Sem.run,h,setW]
theorem Qrr {F:Fence} {n:Nat} {c:Code} {Q Q':Exit->Act->List Frame->World->Prop} {a:Act} {cs:List Frame} {w:World} (h:c.wpSIn F n P Q a cs w) (hq: ∀e a cs w,Q e a cs w->Q' e a cs w):c.wpSIn F n P Q' a cs w:=
 fun b k h1 h2 h3 h4=>let ⟨e,a',cs',w',l,q,r⟩:=h b k h1 h2 h3 h4;⟨e,a',cs',w',l,hq _ _ _ _ q,r⟩
def Qot (id:Nat) (Q:Exit->Act->List Frame->World->Prop):Exit->Act->List Frame->World->Prop
 |.exit j,a,cs,w=>if j=id then Q .normal a cs w else Q (.exit j) a cs w
 |e,a,cs,w=>Q e a cs w
theorem Qbkh {F:Fence} {n:Nat} {id:Nat} {c:Code} {Q:Exit->Act->List Frame->World->Prop} {a:Act} {cs:List Frame} {w:World} (h:c.wpSIn F n P (Qot id Q) a cs w):(Code.block id c).wpSIn F n P Q a cs w:=by
 intro b k hk hro hb hr
 have h0:(lone (b.atR a (.code (.block id c)::k)) cs w).fenced P F:=fenced_calm hb hr rfl
 obtain ⟨e,a₁,cs₁,w₁,hl,hq,harr⟩:=h b (.inBlock id::k) hk hro hb hr
 cases e with
 |normal=>exact ⟨.normal,a₁,cs₁,w₁,hl,hq,.head h0 stepR_block (StepsIn.trans harr (.one (fenced_calm hb (hl▸hr) rfl) stepR_inBlock))⟩
 |exit id'=>
  by_cases hid:id'=id
  ·simp only [Qot,hid,if_true] at hq
   exact ⟨.normal,a₁,cs₁,w₁,hl,hq,.head h0 stepR_block (harr.1 k (by simp [exitTo,hid]))⟩
  ·simp only [Qot,hid,if_false] at hq
   have this:(id==id')=false:=by simp;exact fun h=>hid h.symm
   have hx:exitTo id' (.inBlock id::k)=exitTo id' k:=by simp [exitTo,this]
   exact ⟨.exit id',a₁,cs₁,w₁,hl,hq,fun k' hk=> .head h0 stepR_block (harr.1 k' (by rw [hx];exact hk)),
    fun hr' hk=>let ⟨k₁,h1,h2⟩:=harr.2 hr' (by rw [hx];exact hk);⟨k₁,h1,.head h0 stepR_block h2⟩⟩
 |goto l=>
  have hx:gotoIn l (.inBlock id::k)=gotoIn l k:=by simp [gotoIn]
  exact ⟨_,a₁,cs₁,w₁,hl,hq,fun k' hk=> .head h0 stepR_block (harr.1 k' (by rw [hx];exact hk)),
   fun hr' hk=>let ⟨k₁,h1,h2⟩:=harr.2 hr' (by rw [hx];exact hk);⟨k₁,h1,.head h0 stepR_block h2⟩⟩
 |ret=>exact ⟨_,a₁,cs₁,w₁,hl,hq,.of_steps (.one h0 stepR_block) harr⟩
 |panic ch=>exact ⟨_,a₁,cs₁,w₁,hl,hq,.of_steps (.one h0 stepR_block) harr⟩
 |outgrown=>exact ⟨_,a₁,cs₁,w₁,hl,hq,.of_steps (.one h0 stepR_block) harr⟩
def Qb5 (g:Inj):AMode->FrameMode->Prop
 |.ret,u=>u=.returning
 |.pan v r,u=> ∃x,u=.panicking [{v:=x,recovered:=r}]/\VRel g v x
theorem Qb5.mono {g g':Inj} (hs:Sub g g'): ∀{m:AMode} {u:FrameMode},Qb5 g m u->Qb5 g' m u
 |.ret,_,h=>h
 |.pan _ _,_,⟨x,h1,h2⟩=>⟨x,h1,h2.mono hs⟩
theorem Qb5.run {g:Inj}: ∀{m:AMode} {u:FrameMode},Qb5 g m u->u≠.run
 |.ret,_,h=>by subst h;simp
 |.pan _ _,_,⟨x,h1,_⟩=>by subst h1;simp
theorem Qb5.settle {g:Inj}: ∀{m:AMode} {u:FrameMode},Qb5 g m u->Qb5 g (Qw0 m) (Go.settle u)
 |.ret,_,h=>by subst h;rfl
 |.pan v r,_,⟨x,h1,h2⟩=>by
  subst h1
  cases r with
  |true=>rfl
  |false=>exact ⟨x,rfl,h2⟩
def Qfg (ng:Cx) (hp:Hp) (g:Inj) (w:World) (a:Act) (c0:Frame) (cs:List Frame) (x:(Ex×Tm×Hp)×AMode) (e:Exit) (a':Act) (cs':List Frame) (w':World):Prop:=
 Touch hp x.1.2.2/\ ∃g',Qbj g' x.1.1 e/\HRel ng g' x.1.2.2.heap w'/\Ext g hp.heap w g' x.1.2.2.heap w'/\FRel g' x.1.2.1 a'/\a'.tmps.size=a.tmps.size/\ ∃u',cs'={c0 with mode:=u'}::cs/\Qb5 g' x.2 u'
theorem Qfg.trans {ng:Cx} {hp hp':Hp} {x:(Ex×Tm×Hp)×AMode} {g g':Inj} {w w':World} {a a':Act} {u:FrameMode} {c0:Frame} {cs cs'':List Frame} {e:Exit} {a'':Act} {w'':World} (h0:HRel ng g hp.heap w) (ht:Touch hp hp') (hE:Ext g hp.heap w g' hp'.heap w')
  (hs:a'.tmps.size=a.tmps.size) (h:Qfg ng hp' g' w' a' {c0 with mode:=u} cs x e a'' cs'' w''):Qfg ng hp g w a c0 cs x e a'' cs'' w'':=by
 obtain ⟨h0',g'',h1,h2,h3,h4,h5,u',h6,h7⟩:=h
 exact ⟨ht.trans h0',g'',h1,h2,hE.trans h0 h3,h4,h5.trans hs,u',h6,h7⟩
theorem Qfg.move {C:CxF} (hC:CtxOk C) {F F':List Fact} {hp:Hp} {x:(Ex×Tm×Hp)×AMode} {g:Inj} {w:World} {a:Act} {c0:Frame} {cs cs':List Frame} {e:Exit} {a':Act} {w':World} (hF:Ql g.sig F) (h:Qfg (C F') hp g w a c0 cs x e a' cs' w'):Qfg (C F) hp g w a c0 cs x e a' cs' w':=by
 obtain ⟨h0,g',h1,h2,h3,h4,h5,h6⟩:=h
 exact ⟨h0,g',h1,hC.move h2 (by rw [h3.sub.sig];exact hF),h3,h4,h5,h6⟩
theorem Qbav {op:Op} (h:Qlp op=true): ∃c,op=.call c/\c.callee=.builtin .recover:=by
 unfold Qlp at h
 split at h
 ·rename_i c
  split at h
  ·rename_i b hb
   split at h
   ·exact ⟨c,rfl,hb⟩
   ·cases h
  ·cases h
 ·cases h
theorem Qmq {ng:Cx} {ops:Array Oper} {g:Inj} {H:List Blk} {w:World} (hH:HRel ng g H w) {Q:Exit->Act->List Frame->World->Prop} {c0:Frame} {cs:List Frame}: ∀(l:List Nat) (t t':Tm) (m m':AMode) (u:FrameMode) (a:Act),opsS P ng ops l t m=some (t',m')->FRel g t a->Qb5 g m u->
  (∀a' u',FRel g t' a'->a'.tmps.size=a.tmps.size->Qb5 g m' u'->Q .normal a' ({c0 with mode:=u'}::cs) w)->wpOpsSIn (FR none) 0 P ops Q l a ({c0 with mode:=u}::cs) w
 |[],t,t',m,m',u,a,h,ht,hm,k=>by
  simp only [opsS,Option.some.injEq,Prod.mk.injEq] at h
  obtain ⟨rfl,rfl⟩:=h
  exact k a u ht rfl hm
 |i::l,t,t',m,m',u,a,h,ht,hm,k=>by
  simp only [opsS] at h
  cases ho:ops[i]? with
  |none=>rw [ho] at h;cases h
  |some o=>
   rw [ho] at h
   simp only at h
   cases hgd:o.guard with
   |some _=>rw [hgd] at h;cases h
   |none=>
    rw [hgd] at h
    simp only at h
    have hw:Region.wanted o (yielded ops a.tmps)=true:=by simp [Region.wanted,hgd]
    simp only [wpOpsSIn,ho]
    refine ⟨fun _ _=>trivial,?_⟩
    rw [if_pos hw]
    cases hr:Qlp o.op with
    |true=>
     rw [hr] at h
     obtain ⟨c,hop,hc⟩:=Qbav hr
     have hex:(execOp a.eval o).run P w=.ok .recover w:=by
      obtain ⟨dst,op,type,pos,after,guard⟩:=o
      simp only at hop
      subst hop
      simp [execOp,resolve,hc,invoke,builtin]
     rw [hex]
     simp only
     cases m with
     |ret=>
      simp only at h
      cases hm
      simp only [recoverD]
      refine Qmq hH l _ t' _ m' .returning (a.put o.dst .nilIface) h (ht.put o.dst .niliface) rfl fun a' u' q1 q2 q3=>k a' u' q1 (q2.trans (Qe7 a o.dst _).1) q3
     |pan v r=>
      obtain ⟨x,rfl,hx⟩:=hm
      cases r with
      |false=>
       simp only at h
       simp only [recoverD]
       exact Qmq hH l _ t' _ m' _ (a.put o.dst x) h (ht.put o.dst hx) ⟨x,rfl,hx⟩ fun a' u' q1 q2 q3=>k a' u' q1 (q2.trans (Qe7 a o.dst _).1) q3
      |true=>
       simp only at h
       simp only [recoverD]
       exact Qmq hH l _ t' _ m' _ (a.put o.dst .nilIface) h (ht.put o.dst .niliface) ⟨x,rfl,hx⟩ fun a' u' q1 q2 q3=>k a' u' q1 (q2.trans (Qe7 a o.dst _).1) q3
    |false=>
     rw [hr] at h
     simp only at h
     split at h
     ·rename_i r hp
      have hρ:ERel g ng t a.eval:=⟨fun x v hv=>ht.1.eval hH.sig hH.glob hv,hH.sig⟩
      obtain ⟨v,h1,h2⟩:=Q41 w hρ hp
      rw [h1]
      simp only
      exact Qmq hH l _ t' _ m' u (a.put o.dst v) h (ht.put o.dst h2) hm fun a' u' q1 q2 q3=>k a' u' q1 (q2.trans (Qe7 a o.dst _).1) q3
     ·cases h
theorem Q7z {hp:Hp} {id:Nat} {x:Ex×Tm×Hp} (h:Touch hp x.2.2):Touch hp (Qdw id x).2.2:=by
 unfold Qdw
 split
 ·split<;>exact h
 ·exact h
theorem Qes (E:Env P C call round) {c:Code} (m:AMode) (F:List Fact) (t:Tm) (hp:Hp):AllT (fun x=>Touch hp x.1.2.2) (Qbb F (Qbl P C mb fuel call round false c F t hp) fun _ x=> .leaf (x,m)):=by
 refine Qb7 (Q:=fun x=>Touch hp x.2.2) ?_ ((Qdy E c false).touch F t hp)
 intro _ x h
 exact h
theorem Qiv (E:Env P C call round): ∀(c:Code) (F:List Fact) (t:Tm) (hp:Hp) (m:AMode),AllT (fun x=>Touch hp x.1.2.2) (Qz P C mb fuel call round c F t hp m)
 |.seq a b,F,t,hp,m=>by
  simp only [Qz]
  refine Qb7 (Q:=fun x=>Touch hp x.1.2.2) ?_ (Qiv E a F t hp m)
  rintro F' ⟨⟨e,t',hp'⟩,m'⟩ h
  cases e with
  |normal=>exact (Qiv E b F' t' hp' m').mono fun x hx=>h.trans hx
  |_=>exact h
 |.cond c a b,F,t,hp,m=>by
  simp only [Qz]
  split
  ·split
   ·exact Qiv E a F t hp m
   ·exact Qiv E b F t hp m
  ·trivial
 |.block id c,F,t,hp,m=>by
  simp only [Qz]
  refine Qb7 (Q:=fun x=>Touch hp x.1.2.2) ?_ (Qiv E c F t hp m)
  intro _ x h
  exact Q7z (hp:=hp) (x:=x.1) h
 |.region id ops draw,F,t,hp,m=>by
  simp only [Qz]
  split
  ·split
   ·split
    ·exact Touch.refl _
    ·trivial
   ·trivial
  ·exact Qes E m F t hp
 |.skip,F,t,hp,m=>by
  simp only [Qz]
  exact Qes E m F t hp
 |.label _,F,t,hp,m=>by
  simp only [Qz]
  exact Qes E m F t hp
 |.exit _,F,t,hp,m=>by
  simp only [Qz]
  exact Qes E m F t hp
 |.ret,F,t,hp,m=>by
  simp only [Qz]
  exact Qes E m F t hp
 |.loop _,F,t,hp,m=>by
  simp only [Qz]
  exact Qes E m F t hp
 |.rangeFunc ..,F,t,hp,m=>by
  simp only [Qz]
  exact Qes E m F t hp
 |.goto _,F,t,hp,m=>by
  simp only [Qz]
  exact Qes E m F t hp
 |.scope _,F,t,hp,m=>by
  simp only [Qz]
  exact Qes E m F t hp
 |.refuse _,F,t,hp,m=>by
  simp only [Qz]
  exact Qes E m F t hp
theorem Qer (E:Env P C call round) {c:Code} {F:List Fact} {t:Tm} {hp:Hp} {m:AMode} {Q:(Ex×Tm×Hp)×AMode->Prop} {g:Inj} {w:World} {a:Act} {c0:Frame} {cs:List Frame} {u:FrameMode} (hH:HRel (C F) g hp.heap w) (ht:FRel g t a) (hm:Qb5 g m u)
  (hs:Sat g.sig Q (Qbb F (Qbl P C mb fuel call round false c F t hp) fun _ x=> .leaf (x,m))):c.wpSIn (FR none) 0 P (fun e a' cs' w'=> ∃x,Q x/\Qfg (C F) hp g w a c0 cs x e a' cs' w') a ({c0 with mode:=u}::cs) w:=by
 have hs:=Qcc (E.ok.facts hH) hs
 refine wpSIn_of_wpIn rfl (wpIn_mono ((Qdy (mb:=mb) (fuel:=fuel) E c false).wp F t hp _ none g w a (fun _=>rfl) hH ht hs) ?_)
 rintro e a' w' ⟨x,⟨F',_,q⟩,h0,g',h1,h2,h3,h4,h5⟩
 exact ⟨(x,m),q,h0,g',h1,h2,h3,h4,h5,u,rfl,hm.mono h3.sub⟩
theorem Qiu (E:Env P C call round): ∀(c:Code) (F:List Fact) (t:Tm) (hp:Hp) (m:AMode) (Q:(Ex×Tm×Hp)×AMode->Prop) (g:Inj) (w:World) (a:Act) (c0:Frame) (cs:List Frame) (u:FrameMode),HRel (C F) g hp.heap w->FRel g t a->Qb5 g m u->
  Sat g.sig Q (Qz P C mb fuel call round c F t hp m)->c.wpSIn (FR none) 0 P (fun e a' cs' w'=> ∃x,Q x/\Qfg (C F) hp g w a c0 cs x e a' cs' w') a ({c0 with mode:=u}::cs) w
 |.seq x y,F,t,hp,m,Q,g,w,a,c0,cs,u,hH,ht,hm,hs=>by
  simp only [Qz] at hs
  have hs:=Qcc (E.ok.facts hH) hs
  refine wpSIn_seq (Qrr (Qiu E x F t hp m _ g w a c0 cs u hH ht hm hs) ?_)
  rintro e a' cs' w' ⟨⟨⟨ex,t',hp'⟩,m'⟩,⟨F',hF',q⟩,h0,g',h1,h2,h3,h4,h5,u',rfl,h6⟩
  have hF0:Ql g.sig F:=E.ok.facts hH
  cases ex with
  |normal=>
   cases e<;>simp only [Qbj] at h1
   have:=Qiu E y F' t' hp' m' Q g' w' a' c0 cs u' (E.ok.move h2 (by rw [h3.sub.sig];exact hF')) h4 h6 (by rw [h3.sub.sig];exact q)
   refine Qrr this ?_
   rintro e2 a2 cs2 w2 ⟨x2,q2,hq2⟩
   refine ⟨x2,q2,?_⟩
   exact Qfg.trans (c0:=c0) (u:=c0.mode) hH h0 h3 h5 (hq2.move E.ok (by rw [h3.sub.sig];exact hF0))
  |exit i=>
   cases e<;>simp only [Qbj] at h1
   exact ⟨_,q,h0,g',h1,h2,h3,h4,h5,u',rfl,h6⟩
  |ret=>
   cases e<;>simp only [Qbj] at h1
   exact ⟨_,q,h0,g',trivial,h2,h3,h4,h5,u',rfl,h6⟩
  |pan v=>
   cases e<;>simp only [Qbj] at h1
   exact ⟨_,q,h0,g',h1,h2,h3,h4,h5,u',rfl,h6⟩
 |.cond c x y,F,t,hp,m,Q,g,w,a,c0,cs,u,hH,ht,hm,hs=>by
  simp only [Qz] at hs
  split at hs
  ·rename_i v hv
   have hc:=ht.1.eval hH.sig hH.glob hv
   have hcv:a.eval c=.bool v:=by generalize a.eval c=z at hc;cases hc;rfl
   refine wpSIn_cond hcv ?_
   cases v with
   |true=>exact Qiu E x F t hp m Q g w a c0 cs u hH ht hm hs
   |false=>exact Qiu E y F t hp m Q g w a c0 cs u hH ht hm hs
  ·exact hs.elim
 |.block id c,F,t,hp,m,Q,g,w,a,c0,cs,u,hH,ht,hm,hs=>by
  simp only [Qz] at hs
  have hs:=Qcc (E.ok.facts hH) hs
  refine Qbkh (Qrr (Qiu E c F t hp m _ g w a c0 cs u hH ht hm hs) ?_)
  rintro e a' cs' w' ⟨⟨⟨ex,t',hp'⟩,m'⟩,⟨F',hF',q⟩,h0,g',h1,h2,h3,h4,h5,u',rfl,h6⟩
  cases ex with
  |normal=>
   cases e<;>simp only [Qbj] at h1
   exact ⟨_,q,h0,g',trivial,h2,h3,h4,h5,u',rfl,h6⟩
  |exit i=>
   cases e<;>simp only [Qbj] at h1
   subst h1
   simp only [Qot]
   simp only [Qdw] at q
   split at q
   ·rename_i hb
    rw [if_pos (Nat.eq_of_beq_eq_true hb)]
    exact ⟨_,q,h0,g',trivial,h2,h3,h4,h5,u',rfl,h6⟩
   ·rename_i hb
    rw [if_neg (Nat.ne_of_beq_eq_false hb)]
    exact ⟨_,q,h0,g',rfl,h2,h3,h4,h5,u',rfl,h6⟩
  |ret=>
   cases e<;>simp only [Qbj] at h1
   exact ⟨_,q,h0,g',trivial,h2,h3,h4,h5,u',rfl,h6⟩
  |pan v=>
   cases e<;>simp only [Qbj] at h1
   exact ⟨_,q,h0,g',h1,h2,h3,h4,h5,u',rfl,h6⟩
 |.region id ops draw,F,t,hp,m,Q,g,w,a,c0,cs,u,hH,ht,hm,hs=>by
  simp only [Qz] at hs
  split at hs
  ·split at hs
   ·split at hs
    ·rename_i t' m' ho
     refine wpSIn_region (Qmq hH _ _ _ _ _ _ _ ho ht hm fun a' u' q1 q2 q3=> ?_)
     exact ⟨_,hs,Touch.refl _,g,trivial,hH,Ext.refl _ _ _,q1,q2,u',rfl,q3⟩
    ·exact hs.elim
   ·exact hs.elim
  ·exact Qer E hH ht hm hs
 |.skip,F,t,hp,m,Q,g,w,a,c0,cs,u,hH,ht,hm,hs=>by
  simp only [Qz] at hs
  exact Qer E hH ht hm hs
 |.label _,F,t,hp,m,Q,g,w,a,c0,cs,u,hH,ht,hm,hs=>by
  simp only [Qz] at hs
  exact Qer E hH ht hm hs
 |.exit _,F,t,hp,m,Q,g,w,a,c0,cs,u,hH,ht,hm,hs=>by
  simp only [Qz] at hs
  exact Qer E hH ht hm hs
 |.ret,F,t,hp,m,Q,g,w,a,c0,cs,u,hH,ht,hm,hs=>by
  simp only [Qz] at hs
  exact Qer E hH ht hm hs
 |.loop _,F,t,hp,m,Q,g,w,a,c0,cs,u,hH,ht,hm,hs=>by
  simp only [Qz] at hs
  exact Qer E hH ht hm hs
 |.rangeFunc ..,F,t,hp,m,Q,g,w,a,c0,cs,u,hH,ht,hm,hs=>by
  simp only [Qz] at hs
  exact Qer E hH ht hm hs
 |.goto _,F,t,hp,m,Q,g,w,a,c0,cs,u,hH,ht,hm,hs=>by
  simp only [Qz] at hs
  exact Qer E hH ht hm hs
 |.scope _,F,t,hp,m,Q,g,w,a,c0,cs,u,hH,ht,hm,hs=>by
  simp only [Qz] at hs
  exact Qer E hH ht hm hs
 |.refuse _,F,t,hp,m,Q,g,w,a,c0,cs,u,hH,ht,hm,hs=>by
  simp only [Qz] at hs
  exact Qer E hH ht hm hs
theorem Q8r (E:Env P C call round) {F:List Fact} {f:FuncId} {args:List AVal} {m:AMode} {hp:Hp}:AllT (fun y=>Touch hp y.2) (Qkv P C mb fuel call round F f args m hp):=by
 unfold Qkv
 split
 ·split
  ·refine Qb7 (Q:=fun x=>Touch hp x.1.2.2) ?_ (Qiv E _ F _ hp m)
   rintro F' x h
   split
   ·split
    ·split
     ·exact h
     ·trivial
    ·split
     ·exact h
     ·trivial
    ·trivial
   ·trivial
  ·trivial
 ·trivial
theorem Q8q (E:Env P C call round) {F:List Fact} {f:FuncId} {args:List AVal} {m:AMode} {hp:Hp} {Q:AMode×Hp->Prop} {g:Inj} {w:World} {args':Array Value} {u:FrameMode} (hH:HRel (C F) g hp.heap w) (ha:LRel g args args'.toList) (hm:Qb5 g m u)
  (hs:Sat g.sig Q (Qkv P C mb fuel call round F f args m hp)):CallsDIn (FR none) 0 P f args' u w fun e u' w'=> ∃v y g',e=.returned v/\Q y/\Touch hp y.2/\HRel (C F) g' y.2.heap w'/\Ext g hp.heap w g' y.2.heap w'/\Qb5 g' y.1 u':=by
 unfold Qkv at hs
 split at hs
 ·rename_i fn hfn
  split at hs
  ·rename_i c hb
   have hs:=Qcc (E.ok.facts hH) hs
   refine callsDIn_of_wpSIn hfn hb trivial fun c0 cs hu=> ?_
   have hc0:c0={c0 with mode:=u}:=by subst hu;rfl
   rw [hc0]
   refine Qrr (Qiu E c F (Qhk args fn.ntmps) hp m _ g w _ c0 cs u hH ⟨Qzc ha fn.ntmps,.nil⟩ hm hs) ?_
   rintro e a' cs' w' ⟨⟨⟨ex,t',hp'⟩,m'⟩,⟨F',hF',q⟩,h0,g',h1,h2,h3,h4,h5,u',rfl,h6⟩
   simp only at q
   split at q
   ·rename_i hdf
    have hd:a'.defers=[]:=by
     have:=h4.2
     simp only at this hdf
     rw [hdf] at this
     cases hda:a'.defers with
     |nil=>rfl
     |cons d ds=>rw [hda] at this;cases this
    have fin: ∀vs,resA P t' hp'.heap fn.results.toList=some vs->Q (m',hp')->a'.defers=[]/\ ∃u2,({c0 with mode:=u'}::cs:List Frame)={({c0 with mode:=u}:Frame) with mode:=u2}::cs/\ ∃v,(results fn a'.tmps).run P w'=.ok v w'/\ ∃v' y g',(Ending.returned v)=.returned v'/\Q y/\Touch hp y.2/\HRel (C F) g' y.2.heap w'/\Ext g hp.heap w g' y.2.heap w'/\Qb5 g' y.1 u2:=by
     intro vs hvs hq
     obtain ⟨v,r1,_⟩:=Qwe h2 h4.1 hvs
     exact ⟨hd,u',rfl,v,r1,v,(m',hp'),g',rfl,hq,h0,h2,h3,h6⟩
    cases ex with
    |normal=>
     cases e<;>simp only [Qbj] at h1
     simp only at q
     split at q
     ·rename_i vs hvs;exact fin vs hvs q
     ·exact q.elim
    |ret=>
     cases e<;>simp only [Qbj] at h1
     simp only at q
     split at q
     ·rename_i vs hvs;exact fin vs hvs q
     ·exact q.elim
    |exit i=>exact q.elim
    |pan v=>exact q.elim
   ·exact q.elim
  ·exact hs.elim
 ·exact hs.elim
theorem Qty (E:Env P C call round): ∀(l:List ADef) (F:List Fact) (m:AMode) (hp:Hp),AllT (fun y=>Touch hp y.2) (Qfu P C mb fuel call round l F m hp)
 |[],F,m,hp=>Touch.refl _
 |.mark b::l,F,m,hp=>by
  simp only [Qfu]
  split
  ·rename_i hb
   exact (Qty E l F m _).mono fun y hy=>(Qd8 ⟨_,hb,by simp⟩ (fun la h=>by cases h)).trans hy
  ·trivial
 |.fn fv cap args::l,F,m,hp=>by
  simp only [Qfu]
  split
  ·split
   ·exact Qb7 (Q:=fun y=>Touch hp y.2) (fun F' x h=>(Qty E l F' _ x.2).mono fun y hy=>h.trans hy) (Q8r E)
   ·trivial
  ·trivial
theorem Qtz (E:Env P C call round) {fn:Func} {tmps:Array Value} {R:Ending->World->Prop}: ∀(df:List ADef) (ds:List Deferred) (F:List Fact) (m:AMode) (hp:Hp) (Q:AMode×Hp->Prop) (g:Inj) (w:World) (u:FrameMode),HRel (C F) g hp.heap w->DfRel g df ds->Qb5 g m u->
  Sat g.sig Q (Qfu P C mb fuel call round df F m hp)->(∀y g' w' u',Q y->HRel (C F) g' y.2.heap w'->Ext g hp.heap w g' y.2.heap w'->Touch hp y.2->Qb5 g' y.1 u'->LeavesIn (FR none) 0 P fn tmps R [] u' w')->LeavesInM (FR none) 0 P fn tmps R ds u w
 |[],_,F,m,hp,Q,g,w,u,hH,hd,hm,hs,k=>by
  cases hd
  exact k (m,hp) g w u hs hH (Ext.refl _ _ _) (Touch.refl _) hm
 |.mark b::l,_,F,m,hp,Q,g,w,u,hH,hd,hm,hs,k=>by
  cases hd with
  |mark _ L _ md hL hd=>
  simp only [Qfu] at hs
  split at hs
  ·rename_i hb
   obtain ⟨L',hL',hB⟩:=hH.blk b _ hb (by simp)
   rw [hL] at hL';cases hL'
   obtain ⟨k1,k2⟩:=HRel.writeK hH (k':=.gone) ⟨_,hb,by simp⟩ hL (Qbi1 w L.blk (.deferred none)) trivial
   refine ⟨hm.run,.inl ⟨L.blk,_,rfl,Qbim hB,?_⟩⟩
   exact Qtz E l md F m _ Q g _ u k1 hd hm hs fun y g' w' u' q1 q2 q3 q4 q5=>k y g' w' u' q1 q2 (k2.trans hH q3) ((Qd8 ⟨_,hb,by simp⟩ (fun la h=>by cases h)).trans q4) q5
  ·exact hs.elim
 |.fn fv cap args::l,_,F,m,hp,Q,g,w,u,hH,hd,hm,hs,k=>by
  cases hd with
  |fn _ _ _ cap' args' _ md hcap hargs hd=>
  simp only [Qfu] at hs
  split at hs
  ·rename_i f
   split at hs
   ·rename_i fa hen
    obtain ⟨f',fargs⟩:=fa
    have hf':f'=f:=by
     unfold Qfm at hen
     split at hen
     ·split at hen
      ·cases hen;rfl
      ·cases hen
     ·cases hen
    subst hf'
    obtain ⟨k1,_⟩:=Qoc (P:=P) (w:=w) hen (args'++cap')
    have hs:=Qcc (E.ok.facts hH) hs
    have hall:LRel g (args++cap) (args'++cap').toList:=by simpa using hargs.append hcap
    refine ⟨hm.run,.inr ⟨(fun h=>by simp [FR,Fence.wide] at h),.func f',cap',f',args'++cap',rfl,?_,fun _ _=>trivial,?_⟩⟩
    ·simpa [invoke] using k1
    ·refine CallsDIn.mono (Q8q E hH hall hm hs) ?_
     rintro e u' w' ⟨v,y,g',rfl,⟨F',hF',q⟩,h0,h2,h3,h4⟩
     refine Qtz E l md F' (Qw0 y.1) y.2 Q g' w' (settle u') (E.ok.move h2 (by rw [h3.sub.sig];exact hF')) (hd.mono h3.sub) h4.settle (by rw [h3.sub.sig];exact q) ?_
     intro y2 g2 w2 u2 q1 q2 q3 q4 q5
     exact k y2 g2 w2 u2 q1 (E.ok.move q2 (by rw [q3.sub.sig,h3.sub.sig];exact E.ok.facts hH)) (h3.trans hH q3) (h0.trans q4) q5
   ·exact hs.elim
  ·exact hs.elim
theorem rebase {hp h:Hp} (t:Touch ⟨hp.heap,[]⟩ h):Touch hp ⟨h.heap,h.log++hp.log⟩:=by
 obtain ⟨pre,e1,e2⟩:=t.log
 simp only [List.append_nil] at e1
 exact ⟨t.len,⟨pre,by rw [e1],e2⟩,t.live,t.loops⟩
theorem Qba0 {v:AVal} {hp h:Hp} (t:Touch ⟨hp.heap,[]⟩ h):Touch hp (Qls v hp h).2:=by
 unfold Qls
 split
 ·exact Touch.refl _
 ·exact rebase t
theorem Q9g {fn:Func} {tm:Tm} {hp:Hp} {y:AMode×Hp} (t:Touch ⟨hp.heap,[]⟩ y.2):AllT (fun z=>Touch hp z.2) (Qoa P fn tm hp y):=by
 unfold Qoa
 split
 ·split
  ·exact rebase t
  ·trivial
 ·split
  ·exact Qba0 t
  ·trivial
theorem Qy9 (E:Env P C call round) {F:List Fact} {fn:Func} {hp:Hp} {x:Ex×Tm×Hp} (t:Touch ⟨hp.heap,[]⟩ x.2.2):AllT (fun y=>Touch hp y.2) (Qk3 P C mb fuel call round F fn hp x):=by
 unfold Qk3
 split
 ·exact Qb7 (Q:=fun y=>Touch x.2.2 y.2) (fun F' y h=>Q9g (t.trans h)) (Qty E _ _ _ _)
 ·trivial
theorem Qx2 (E:Env P C call round) (F:List Fact) (hp:Hp) (g0:Inj) (w0:World) (T:Tree (Out×Hp)) (Q:Out×Hp->Prop) (hT:AllT (fun y=>Touch hp y.2) T):
  AllT (fun y=>Touch hp y.2) (mgT (mgO (C F) hp) (mgOP (C F) hp) (mgOr hp) T)/\(Sat g0.sig Q (mgT (mgO (C F) hp) (mgOP (C F) hp) (mgOr hp) T)->Sat g0.sig (fun x=> ∃y,Q y/\WO (C F) hp g0 w0 x y) T):=
 have:=Qfa (σ:=g0.sig) (W:=WO (C F) hp g0 w0) (S:=fun y=>Touch hp y.2) (f:=mgO (C F) hp) (fp:=mgOP (C F) hp) (fo:=mgOr hp) (fun _ _ _ h=>h) (fun _ _ _ h k e w q=>k e w (h e w q))
  (fun i x y z sx sy h=>⟨(Qp3 sx sy h).1,((Qp3 sx sy h).2 g0 w0).1,((Qp3 sx sy h).2 g0 w0).2⟩)
  (fun i k x y z sx sy h=>⟨(Qvp sx sy h).1,((Qvp sx sy h).2 g0 w0).1,((Qvp sx sy h).2 g0 w0).2⟩)
  (fun x y z sx sy h=>by obtain ⟨e1,e2⟩:=Qbfp sx sy h;exact ⟨e1▸sx,fun e w q=>e1▸q,fun e w q=>e2▸q⟩) hT
 ⟨this.1,this.2 Q⟩
theorem Q77 (E:Env P C call round):Qni (Qkq P C mb fuel call round):=by
 intro F f args hp
 unfold Qkq
 split
 ·split
  ·refine (Qx2 E F hp ⟨fun _=>none,⟨fun _=>0,fun _=>false,fun _=> .empty,fun _ _=>0,fun _=>none⟩,fun _=>none⟩ default _ (fun _=>True) ?_).1
   exact Qb7 (Q:=fun x=>Touch ⟨hp.heap,[]⟩ x.2.2) (fun F' x h=>Qy9 E h) ((Qdy E _ false).touch F _ _)
  ·trivial
 ·trivial
theorem Q76 (E:Env P C call round):Qhe P C (Qkq P C mb fuel call round):=by
 intro F f args hp Q g w args' hH ha hs
 unfold Qkq at hs
 split at hs
 ·rename_i fn hfn
  split at hs
  ·rename_i c hb
   have hT:AllT (fun y=>Touch hp y.2) (Qbb F (Qbl P C mb fuel call round false c F (Qhk args fn.ntmps) ⟨hp.heap,[]⟩) fun F' x=>Qk3 P C mb fuel call round F' fn hp x):=
    Qb7 (Q:=fun x=>Touch ⟨hp.heap,[]⟩ x.2.2) (fun F' x h=>Qy9 E h) ((Qdy E c false).touch F _ _)
   have hs:=(Qx2 E F hp g w _ Q hT).2 hs
   have hs:=Qcc (E.ok.facts hH) hs
   refine Qx6 (r:=none) (n:=0) (callsIn_of_wp_marks hfn hb trivial ?_)
   refine wpIn_mono ((Qdy (mb:=mb) (fuel:=fuel) E c false).wp F (Qhk args fn.ntmps) ⟨hp.heap,[]⟩ _ none g w _ (fun _=>rfl) hH ⟨Qzc ha fn.ntmps,.nil⟩ hs) ?_
   rintro e a' w' ⟨⟨x,t',hp'⟩,⟨F',hF',q⟩,h0,g',h1,h2,h3,h4,h5⟩
   unfold Qk3 at q
   split at q
   ·rename_i m hmx
    have hHm:=E.ok.move h2 (F':=F') (by rw [h3.sub.sig];exact hF')
    have q:=Qcc (show Ql g.sig F' from hF') q
    have hF0:Ql g.sig F:=E.ok.facts hH
    have give: ∀(h:Hp) (vs:List AVal) (g2:Inj) (w2:World) (u:Value),Touch ⟨hp.heap,[]⟩ h->HRel (C F) g2 h.heap w2->Ext g hp.heap w g2 h.heap w2->VRel g2 (Qjt vs) u->(∃y,Q y/\WO (C F) hp g w (Qls (Qjt vs) hp h) y)-> ∃x,Q x/\OutQ (C F) hp g w x.1 x.2 (.returned u) w2:=by
     rintro h vs g2 w2 u t2 k1 k2 k3 ⟨y,hy,hw⟩
     refine ⟨y,hy,hw _ _ ?_⟩
     unfold Qls
     split
     ·rename_i hfree
      simp only [Bool.and_eq_true] at hfree
      have hsame: ∀i,i<hp.heap.length->h.heap[i]? =hp.heap[i]?:=by
       intro i hi
       obtain ⟨pre,e1,e2⟩:=t2.log
       simp only [List.append_nil] at e1
       exact e2 i hi (by rw [<-e1];exact Q4f hfree.2 i hi)
      obtain ⟨m1,m2⟩:=Qbaa hH k1 k2 hsame
      exact ⟨Touch.refl _,g,⟨u,rfl,Qos k2.sub.sig.symm k3 hfree.1⟩,m1,m2⟩
     ·exact ⟨rebase t2,g2,⟨u,rfl,k3⟩,k1,k2⟩
    have fin: ∀u,Qb5 g' m u->LeavesInM (FR none) 0 P fn a'.tmps (fun e w'=> ∃x,Q x/\OutQ (C F) hp g w x.1 x.2 e w') a'.defers u w':=by
     intro u hu
     refine Qtz E t'.df a'.defers F' m hp' _ g' w' u hHm h4.2 hu (by rw [h3.sub.sig];exact q) ?_
     rintro ⟨m2,hp2⟩ g2 w2 u2 ⟨F2,hF2,q2⟩ k1 k2 k3 k4
     have k1':=E.ok.move k1 (F':=F) (by rw [k2.sub.sig,h3.sub.sig];exact hF0)
     have hE2:=h3.trans hH k2
     have t2:=h0.trans k3
     unfold Qoa at q2
     cases m2 with
     |ret=>
      cases k4
      simp only at q2
      split at q2
      ·rename_i vs hvs
       obtain ⟨v,r1,r2⟩:=Qwe k1' (h4.1.mono k2.sub) hvs
       exact ⟨v,r1,give hp2 vs g2 w2 v t2 k1' hE2 r2 q2⟩
      ·exact q2.elim
     |pan v r=>
      obtain ⟨x,rfl,hx⟩:=k4
      cases r with
      |false=>
       obtain ⟨y,hy,hw⟩:=q2
       exact ⟨y,hy,hw _ _ ⟨rebase t2,g2,⟨x,rfl,hx⟩,k1',hE2⟩⟩
      |true=>exact q2.elim
    cases x with
    |pan v=>
     cases e<;>simp only [Qbj] at h1
     obtain ⟨u,rfl,hu⟩:=h1
     simp only [Qk5,Option.some.injEq] at hmx
     subst hmx
     exact fin _ ⟨u,rfl,hu⟩
    |exit i=>simp [Qk5] at hmx
    |normal=>
     cases e<;>simp only [Qbj] at h1
     simp only [Qk5,Option.some.injEq] at hmx
     subst hmx
     exact fin _ rfl
    |ret=>
     cases e<;>simp only [Qbj] at h1
     simp only [Qk5,Option.some.injEq] at hmx
     subst hmx
     exact fin _ rfl
   ·exact q.elim
  ·exact hs.elim
 ·exact hs.elim
theorem Qbgj (hh: ∀F,Hooks P (C F)) (h:Qni call):Qni (panB C call):=by
 intro F f args hp
 unfold panB
 split
 ·rename_i v hp' hv
  exact ((hh F).pan f args hp v hp' hv).touch
 ·exact h F f args hp
theorem Qbgi (hh: ∀F,Hooks P (C F)) (h:Qhe P C call):Qhe P C (panB C call):=by
 intro F f args hp Q g w args' hH ha hs
 unfold panB at hs
 split at hs
 ·rename_i v hp' hv
  have hc:=(hh F).pan f args hp v hp' hv
  refine (hc.calls g w args' hH ha).mono ?_
  rintro e w' hq
  exact ⟨(.pan v,hp'),hs,hc.touch,hq⟩
 ·exact h F f args hp Q g w args' hH ha hs
theorem Qoh (hm:P.follows .mixedOrders=true) (hC:CtxOk C) (hh: ∀F,Hooks P (C F)): ∀d,Env P C (evD P C mb fuel d).1 (evD P C mb fuel d).2
 |0=>⟨hm,hC,hh,fun _ _ _ _=>trivial,fun _ _ _ _=>trivial,fun _ _ _ _ _ _ _ _ _ _ h=>h.elim,fun _ _ _ _ _ _ _ _ _ _ _ _ _ h=>h.elim⟩
 |d+1=>by
  have E:=Qoh hm hC hh d
  exact ⟨hm,hC,hh,Qbgj hh (Q77 E),Qbg9 (mb:=mb) (fuel:=fuel) E,Qbgi hh (Q76 E),Qbg8 (mb:=mb) (fuel:=fuel) E⟩
end
end Go.Ev
namespace Go.Ev
def Qia (a b:AVal):Bool:=eqV a b
theorem Qm1 {a b:AVal} (h:Qia a b=true):a=b:=Q9 a b h
def Qj3:List (AVal×AVal)->List (AVal×AVal)->Bool
 |[],[]=>true
 |a::l,b::m=>eqV a.1 b.1&&eqV a.2 b.2&&Qj3 l m
 |_,_=>false
theorem Q5x: ∀{l m:List (AVal×AVal)},Qj3 l m=true->l=m
 |[],[],_=>rfl
 |(a,a')::l,(b,b')::m,h=>by
  simp only [Qj3,Bool.and_eq_true] at h
  rw [Q9 _ _ h.1.1,Q9 _ _ h.1.2,Q5x h.2]
 |[],_::_,h=>by simp [Qj3] at h
 |_::_,[],h=>by simp [Qj3] at h
def Qq4:SDef->SDef->Bool
 |.bin o a b,.bin o' a' b'=>decide (o=o')&&(eqV a a'&&eqV b b')
 |.un o a,.un o' a'=>decide (o=o')&&eqV a a'
 |.conv k a,.conv k' a'=>decide (k=k')&&eqV a a'
 |.low l,.low m=>eqVs l m
 |.high l,.high m=>eqVs l m
 |.all l,.all m=>Qj3 l m
 |.text l,.text m=>eqVs l m
 |.fn i k l,.fn j k' m=>Nat.beq i j&&(decide (k=k')&&eqVs l m)
 |.fnb i l,.fnb j m=>Nat.beq i j&&eqVs l m
 |.ite c a b,.ite c' a' b'=>eqV c c'&&(eqV a a'&&eqV b b')
 |.sel l a,.sel m b=>eqV a b&&eqVs l m
 |.sop o l,.sop o' m=>decide (o=o')&&eqVs l m
 |_,_=>false
theorem Q5u {d e:SDef} (h:Qq4 d e=true):d=e:=by
 unfold Qq4 at h
 split at h
 ·simp only [Bool.and_eq_true,decide_eq_true_eq] at h;rw [h.1,Q9 _ _ h.2.1,Q9 _ _ h.2.2]
 ·simp only [Bool.and_eq_true,decide_eq_true_eq] at h;rw [h.1,Q9 _ _ h.2]
 ·simp only [Bool.and_eq_true,decide_eq_true_eq] at h;rw [h.1,Q9 _ _ h.2]
 ·rw [Qdd _ _ h]
 ·rw [Qdd _ _ h]
 ·rw [Q5x h]
 ·rw [Qdd _ _ h]
 ·simp only [Bool.and_eq_true,decide_eq_true_eq] at h;rw [Nat.eq_of_beq_eq_true h.1,h.2.1,Qdd _ _ h.2.2]
 ·simp only [Bool.and_eq_true] at h;rw [Nat.eq_of_beq_eq_true h.1,Qdd _ _ h.2]
 ·simp only [Bool.and_eq_true] at h;rw [Q9 _ _ h.1,Q9 _ _ h.2.1,Q9 _ _ h.2.2]
 ·simp only [Bool.and_eq_true] at h;rw [Q9 _ _ h.1,Qdd _ _ h.2]
 ·simp only [Bool.and_eq_true,decide_eq_true_eq] at h;rw [h.1,Qdd _ _ h.2]
 ·cases h
inductive LT where
 |e
 |n (l:LT) (h:Nat) (i:Nat) (d:SDef) (r:LT)
def Qed:AVal->Nat
 |.int _ n=>match n with
  |.ofNat k=>5*k+1
  |.negSucc k=>5*k+2
 |.symi _ i=>1000003*i+3
 |.symb i=>1000033*i+7
 |.syms i=>1000037*i+11
 |.bool b=>match b with
  |true=>13
  |false=>17
 |_=>19
def Qgt:List AVal->Nat
 |[]=>1
 |a::l=>(Qed a+31*Qgt l)%1073741827
def Q0d:List (AVal×AVal)->Nat
 |[]=>1
 |a::l=>(Qed a.1+37*Qed a.2+31*Q0d l)%1073741827
def Qbag:BinOp->Nat
 |.add=>1
 |.sub=>2
 |.mul=>3
 |.quo=>4
 |.rem=>5
 |.and=>6
 |.or=>7
 |.xor=>8
 |.shl=>9
 |.shr=>10
 |.andNot=>11
 |.eql=>12
 |.neq=>13
 |.lss=>14
 |.leq=>15
 |.gtr=>16
 |.geq=>17
def Q0c:SDef->Nat
 |.bin o a b=>(Qbag o*7+101*Qed a+10007*Qed b)%1073741827
 |.un _ a=>(101*Qed a+19)%1073741827
 |.conv _ a=>(103*Qed a+23)%1073741827
 |.low l=>(107*Qgt l+29)%1073741827
 |.high l=>(109*Qgt l+31)%1073741827
 |.all l=>(113*Q0d l+37)%1073741827
 |.text l=>(127*Qgt l+41)%1073741827
 |.fn i _ l=>(131*Qgt l+43*i+47)%1073741827
 |.fnb i l=>(137*Qgt l+53*i+59)%1073741827
 |.ite c a b=>(139*Qed c+149*Qed a+151*Qed b+61)%1073741827
 |.sel l a=>(157*Qgt l+163*Qed a+67)%1073741827
 |.sop o l=>(167*Qgt l+71+(match o with
  |.len=>1
  |.at=>2
  |.sub=>3
  |.cat=>4
  |.row _=>5
  |.rsub _=>6
  |.fs i=>1000*i+7
  |.upd _ j=>2*j+8
  |.cell _ j=>2*j+9))%1073741827
def Qg2 (d:SDef) (h:Nat):LT->Option Nat
 |.e=>none
 |.n l k i x r=>match Nat.beq h k with
  |true=>match Qq4 x d with
   |true=>some i
   |false=>Qg2 d h r
  |false=>match Nat.blt h k with
   |true=>Qg2 d h l
   |false=>Qg2 d h r
def okLT (m:Nat) (G:List SDef):LT->Bool
 |.e=>true
 |.n l _ i x r=>(match G[i-m]? with
  |some y=>Qq4 y x&&Nat.ble m i
  |none=>false)&&(okLT m G l&&okLT m G r)
theorem Qmd {m:Nat} {G:List SDef} {d:SDef} {h:Nat}: ∀{T:LT} {j:Nat},okLT m G T=true->Qg2 d h T=some j-> ∃k,j=m+k/\G[k]? =some d
 |.e,_,_,hl=>by simp [Qg2] at hl
 |.n l k i x r,j,hT,hl=>by
  simp only [okLT,Bool.and_eq_true] at hT
  simp only [Qg2] at hl
  split at hl
  ·split at hl
   ·rename_i hs
    cases hl
    have hx:=Q5u hs
    subst hx
    have h1:=hT.1
    split at h1
    ·rename_i y hy
     simp only [Bool.and_eq_true,Nat.ble_eq] at h1
     have:=Q5u h1.1
     subst this
     exact ⟨i-m,by omega,hy⟩
    ·cases h1
   ·exact Qmd hT.2.2 hl
  ·split at hl
   ·exact Qmd hT.2.1 hl
   ·exact Qmd hT.2.2 hl
def Qi4:List Fact->Nat->Option Bool
 |[],_=>none
 |x::F,i=>match x with
  |.tru j b=>match Nat.beq j i with
   |true=>some b
   |false=>Qi4 F i
  |_=>Qi4 F i
def Qf5:List Fact->Nat->Option Int
 |[],_=>none
 |x::F,i=>match x with
  |.isn j n=>match Nat.beq j i with
   |true=>some n
   |false=>Qf5 F i
  |_=>Qf5 F i
theorem Qoj {σ:Sig}: ∀{F:List Fact} {i:Nat} {b:Bool},Qi4 F i=some b->Ql σ F->σ.bval i=b
 |[],_,_,h,_=>by simp [Qi4] at h
 |x::F,i,b,h,hF=>by
  simp only [Qi4] at h
  split at h
  ·split at h
   ·rename_i hs;cases h;have:=Nat.eq_of_beq_eq_true hs;subst this;exact hF.1
   ·exact Qoj h hF.2
  ·exact Qoj h hF.2
theorem Qqd {σ:Sig}: ∀{F:List Fact} {i:Nat} {n:Int},Qf5 F i=some n->Ql σ F->σ.ival i=n
 |[],_,_,h,_=>by simp [Qf5] at h
 |x::F,i,b,h,hF=>by
  simp only [Qf5] at h
  split at h
  ·split at h
   ·rename_i hs;cases h;have:=Nat.eq_of_beq_eq_true hs;subst this;exact hF.1
   ·exact Qqd h hF.2
  ·exact Qqd h hF.2
def setS (σ:Sig) (i:Nat):AVal->Sig
 |.int _ n=>⟨fun j=>if j=i then n else σ.ival j,σ.bval,σ.sval,σ.tab,σ.ext⟩
 |.bool b=>⟨σ.ival,fun j=>if j=i then b else σ.bval j,σ.sval,σ.tab,σ.ext⟩
 |.str s=>⟨σ.ival,σ.bval,fun j=>if j=i then s else σ.sval j,σ.tab,σ.ext⟩
 |_=>σ
def Qid (σ:Sig) (d:SDef) (i:Nat):Sig:=
 match Qb σ d with
 |some v=>setS σ i v
 |none=>σ
def solve:List SDef->Nat->Sig->Sig
 |[],_,σ=>σ
 |d::G,i,σ=>solve G (i+1) (Qid σ d i)
structure Agree (n:Nat) (σ τ:Sig):Prop where
 val: ∀i,i<n->σ.ival i=τ.ival i/\σ.bval i=τ.bval i/\σ.sval i=τ.sval i
 tab:σ.tab=τ.tab
 ext:σ.ext=τ.ext
theorem Q7e (σ:Sig) (i:Nat) (v:AVal):Agree i σ (setS σ i v):=by
 refine ⟨?_,by cases v<;>rfl,by cases v<;>rfl⟩
 intro j hj
 have:j≠i:=by omega
 cases v<;>simp [setS,this]
theorem Q7f (σ:Sig) (d:SDef) (i:Nat):Agree i σ (Qid σ d i):=by
 unfold Qid
 split
 ·exact Q7e _ _ _
 ·exact ⟨fun _ _=>⟨rfl,rfl,rfl⟩,rfl,rfl⟩
theorem Agree.trans {n:Nat} {σ τ υ:Sig} (h:Agree n σ τ) (h':Agree n τ υ):Agree n σ υ:=⟨fun i hi=>
 ⟨(h.val i hi).1.trans (h'.val i hi).1,(h.val i hi).2.1.trans (h'.val i hi).2.1,(h.val i hi).2.2.trans (h'.val i hi).2.2⟩,h.tab.trans h'.tab,h.ext.trans h'.ext⟩
theorem Agree.less {n m:Nat} {σ τ:Sig} (h:Agree n σ τ) (hm:m<=n):Agree m σ τ:=⟨fun i hi=>h.val i (by omega),h.tab,h.ext⟩
theorem Qeo: ∀(G:List SDef) (i:Nat) (σ:Sig),Agree i σ (solve G i σ)
 |[],_,_=>⟨fun _ _=>⟨rfl,rfl,rfl⟩,rfl,rfl⟩
 |d::G,i,σ=>(Q7f σ d i).trans ((Qeo G (i+1) (Qid σ d i)).less (Nat.le_succ i))
def ltV (n:Nat):AVal->Bool
 |.symi _ i=>Nat.blt i n
 |.symb i=>Nat.blt i n
 |.syms i=>Nat.blt i n
 |_=>true
def ltVs (n:Nat):List AVal->Bool
 |[]=>true
 |a::l=>ltV n a&&ltVs n l
def ltPs (n:Nat):List (AVal×AVal)->Bool
 |[]=>true
 |a::l=>ltV n a.1&&ltV n a.2&&ltPs n l
def ltD (n:Nat):SDef->Bool
 |.bin _ a b=>ltV n a&&ltV n b
 |.un _ a=>ltV n a
 |.conv _ a=>ltV n a
 |.low l=>ltVs n l
 |.high l=>ltVs n l
 |.all l=>ltPs n l
 |.text l=>ltVs n l
 |.fn _ _ l=>ltVs n l
 |.fnb _ l=>ltVs n l
 |.ite c a b=>ltV n c&&(ltV n a&&ltV n b)
 |.sel l a=>ltV n a&&ltVs n l
 |.sop _ l=>ltVs n l
theorem Qdz {n:Nat} {σ τ:Sig} (h:Agree n σ τ) {a:AVal} (ha:ltV n a=true):den σ a=den τ a:=by
 cases a<;>simp only [ltV,Nat.blt_eq] at ha<;>simp only [den]
 ·rw [(h.val _ ha).1]
 ·rw [(h.val _ ha).2.1]
 ·rw [(h.val _ ha).2.2]
theorem Qgl {n:Nat} {σ τ:Sig} (h:Agree n σ τ): ∀{l:List AVal},ltVs n l=true->l.map (den σ)=l.map (den τ)
 |[],_=>rfl
 |a::l,ha=>by
  simp only [ltVs,Bool.and_eq_true] at ha
  simp [Qdz h ha.1,Qgl h ha.2]
theorem Qyp {n:Nat} {σ τ:Sig} (h:Agree n σ τ): ∀{l:List (AVal×AVal)},ltPs n l=true->(l.all fun x=>eqS (den σ x.1) (den σ x.2))=(l.all fun x=>eqS (den τ x.1) (den τ x.2))
 |[],_=>rfl
 |a::l,ha=>by
  simp only [ltPs,Bool.and_eq_true] at ha
  simp only [List.all_cons,Qdz h ha.1.1,Qdz h ha.1.2,Qyp h ha.2]
theorem Q9s {n:Nat} {σ τ:Sig} (h:Agree n σ τ) {d:SDef} (hd:ltD n d=true):Qb σ d=Qb τ d:=by
 cases d<;>simp only [ltD,Bool.and_eq_true] at hd<;>simp only [Qb]
 ·rw [Qdz h hd.1,Qdz h hd.2]
 ·rw [Qdz h hd]
 ·rw [Qdz h hd]
 ·rw [Qgl h hd]
 ·rw [Qgl h hd]
 ·rw [Qyp h hd]
 ·rename_i l
  have e: ∀ρ:Sig,(l.map fun a=>Qcq (den ρ a))=(l.map (den ρ)).map Qcq:=fun ρ=>by simp
  rw [e,e,Qgl h hd]
 ·rename_i l
  have e: ∀ρ:Sig,(l.map fun a=>numS (den ρ a))=(l.map (den ρ)).map numS:=fun ρ=>by simp
  rw [e,e,Qgl h hd,h.tab]
 ·rename_i l
  have e: ∀ρ:Sig,(l.map fun a=>numS (den ρ a))=(l.map (den ρ)).map numS:=fun ρ=>by simp
  rw [e,e,Qgl h hd,h.tab]
 ·rw [Qdz h hd.1,Qdz h hd.2.1,Qdz h hd.2.2]
 ·rename_i l a
  rw [Qdz h hd.1]
  have hl:=Qgl h hd.2
  cases l with
  |nil=>rfl
  |cons b r=>
   have key: ∀(n:Nat),den σ ((b::r).getD n b)=den τ ((b::r).getD n b):=by
    intro n
    have hh:=congrArg (fun x=>x[n]?) hl
    have h0:=congrArg (fun x=>x[0]?) hl
    simp only [List.getElem?_map] at hh h0
    simp only [List.getD_eq_getElem?_getD]
    cases hg:(b::r)[n]? with
    |some c=>rw [hg] at hh;simpa using hh
    |none=>simpa using h0
   simp only [key]
 ·rw [Qgl h hd,h.tab]
def Qu4:AVal->Bool
 |.int _ n=> !(n==0)
 |_=>false
def Qu3:AVal->Bool
 |.int _ n=>decide (0<=n)
 |_=>false
def totB (op:BinOp) (a b:AVal):Bool:=
 match skOf a with
 |some (.i k)=>match skOf b with
  |some (.i k')=>match op with
   |.shl|.shr=>Qu3 b
   |.quo|.rem=>decide (k=k')&&Qu4 b
   |.add|.sub|.mul|.and|.or|.xor|.andNot|.eql|.neq|.lss|.leq|.gtr|.geq=>decide (k=k')
  |_=>false
 |some .s=>match skOf b with
  |some .s=>match op with
   |.eql|.neq|.lss|.leq|.gtr|.geq=>true
   |_=>false
  |_=>false
 |some .b=>match skOf b with
  |some .b=>match op with
   |.eql|.neq=>true
   |_=>false
  |_=>false
 |none=>false
def isIv (a:AVal):Bool:=
 match skOf a with
 |some (.i _)=>true
 |_=>false
def isBv (a:AVal):Bool:=
 match skOf a with
 |some .b=>true
 |_=>false
def totL:List AVal->Bool
 |[a,b]=>isIv a&&isIv b
 |[a,b,c]=>isIv a&&isIv b&&isIv c
 |_=>false
def allK (a:AVal):List AVal->Bool
 |[]=>true
 |b::l=>Qcy a b&&allK a l
def isSv (a:AVal):Bool:=
 match skOf a with
 |some .s=>true
 |_=>false
def totS (o:SOp) (l:List AVal):Bool:=
 match o with
 |.len=>match l with
  |[a]=>isSv a
  |_=>false
 |.at=>match l with
  |[a,b]=>isSv a&&isIv b
  |_=>false
 |.sub=>match l with
  |[a,b,c]=>isSv a&&(isIv b&&isIv c)
  |_=>false
 |.cat=>match l with
  |[a,b]=>isSv a&&isSv b
  |_=>false
 |.row _=>true
 |.cell _ _=>match l with
  |[a,b]=>isSv a&&isIv b
  |_=>false
 |.rsub _=>match l with
  |[a,b,c]=>isSv a&&(isIv b&&isIv c)
  |_=>false
 |.upd _ _=>match l with
  |a::b::_=>isSv a&&isIv b
  |_=>false
 |.fs _=>true
def totD:SDef->Bool
 |.bin op a b=>totB op a b
 |.un op a=>match op with
  |.not=>isBv a
  |.neg=>isIv a
  |.xor=>isIv a
  |_=>false
 |.conv _ a=>isIv a
 |.low l=>totL l
 |.high l=>totL l
 |.all _=>true
 |.text _=>true
 |.fn _ _ _=>true
 |.fnb _ _=>true
 |.ite c a b=>isBv c&&Qcy a b
 |.sel l ix=>isIv ix&&(match l with
  |[]=>false
  |a::r=>Qcy a a&&allK a r)
 |.sop o l=>totS o l
theorem Qc6 {a:AVal} (h:isIv a=true): ∃k,skOf a=some (.i k):=by
 unfold isIv at h
 split at h
 ·exact ⟨_,by assumption⟩
 ·cases h
theorem Q0q {a:AVal} (h:isBv a=true):skOf a=some .b:=by
 unfold isBv at h
 split at h
 ·assumption
 ·cases h
theorem Qgv {a:AVal} (h:isSv a=true):skOf a=some .s:=by
 unfold isSv at h
 split at h
 ·assumption
 ·cases h
def Qgc (σ:Sig) (d:SDef):Prop:= ∃v,Qb σ d=some v/\ ∀τ i,den (setS τ i v) (resS d i)=v
theorem set_i (τ:Sig) (i:Nat) (k:IntKind) (n:Int):den (setS τ i (.int k n)) (.symi k i)=.int k n:=by simp [setS,den]
theorem set_b (τ:Sig) (i:Nat) (n:Bool):den (setS τ i (.bool n)) (.symb i)=.bool n:=by simp [setS,den]
theorem set_s (τ:Sig) (i:Nat) (n:ByteArray):den (setS τ i (.str n)) (.syms i)=.str n:=by simp [setS,den]
theorem Qu2 {a:AVal} (h:Qcy a a=true) (σ τ:Sig) (i:Nat):den (setS τ i (den σ a)) (Qcj a i)=den σ a:=by
 cases a<;>simp only [Qcy,skOf,Bool.false_eq_true] at h<;>simp only [Qcj,den]<;>first|exact set_i _ _ _ _|exact set_b _ _ _|exact set_s _ _ _
theorem Q25 {a b:AVal} (h:Qcy a b=true) (i:Nat):Qcj a i=Qcj b i:=by
 cases a<;>simp only [Qcy,skOf,Bool.false_eq_true] at h<;>cases b<;>simp only [Bool.false_eq_true] at h<;>simp only [Qcj]<;>(simp only [decide_eq_true_eq] at h;rw [h])
theorem Qbis {a b:AVal} (h:Qcy a b=true):Qcy a a=true:=by
 cases a<;>simp [Qcy,skOf] at h⊢
theorem Q5v {a b:AVal} (h:Qcy a b=true):Qcy b b=true:=by
 cases b<;>cases a<;>simp [Qcy,skOf] at h⊢
theorem Qxm {a:AVal}: ∀{l:List AVal},allK a l=true-> ∀c,c∈l->Qcy a c=true
 |b::l,h,c,hc=>by
  simp only [allK,Bool.and_eq_true] at h
  rcases List.mem_cons.1 hc with rfl|hc
  ·exact h.1
  ·exact Qxm h.2 c hc
theorem Qbjk {σ:Sig} {op:BinOp} {a b:AVal} (h:totB op a b=true):Qgc σ (.bin op a b):=by
 unfold totB at h
 split at h
 ·rename_i k ha
  obtain ⟨⟨x,hx⟩,hl⟩:=sk_i ha σ
  split at h
  ·rename_i k' hb
   obtain ⟨⟨y,hy⟩,_⟩:=sk_i hb σ
   have e:Qb σ (.bin op a b)=intA op k x k' y:=by simp only [Qb,hx,hy,binS]
   have lit:Qu3 b=true->0<=y:=by
    intro hq
    cases b<;>simp only [Qu3,decide_eq_true_eq,Bool.false_eq_true] at hq
    simp only [den,AVal.int.injEq] at hy
    omega
   have lit':Qu4 b=true->y≠0:=by
    intro hq
    cases b<;>simp only [Qu4,Bool.not_eq_true',beq_eq_false_iff_ne,Bool.false_eq_true] at hq
    simp only [den,AVal.int.injEq] at hy
    obtain ⟨_,rfl⟩:=hy
    exact hq
   cases op<;>simp only [Bool.and_eq_true,decide_eq_true_eq] at h
   case shl=>have:=lit h;exact ⟨_,by rw [e];simp only [intA,if_neg (Int.not_lt.2 this)];rfl,fun τ i=>by simp only [resS,hl];exact set_i _ _ _ _⟩
   case shr=>have:=lit h;exact ⟨_,by rw [e];simp only [intA,if_neg (Int.not_lt.2 this)];rfl,fun τ i=>by simp only [resS,hl];exact set_i _ _ _ _⟩
   case quo=>obtain ⟨rfl,h⟩:=h;have:=lit' h;exact ⟨_,by rw [e];simp only [intA,if_true,if_neg this];rfl,fun τ i=>by simp only [resS,hl];exact set_i _ _ _ _⟩
   case rem=>obtain ⟨rfl,h⟩:=h;have:=lit' h;exact ⟨_,by rw [e];simp only [intA,if_true,if_neg this];rfl,fun τ i=>by simp only [resS,hl];exact set_i _ _ _ _⟩
   all_goals first
    |(subst h;exact ⟨_,by rw [e];simp only [intA,if_true];rfl,fun τ i=>by simp only [resS,hl];exact set_i _ _ _ _⟩)
    |(subst h;exact ⟨_,by rw [e];simp only [intA,if_true];rfl,fun τ i=>by simp only [resS];exact set_b _ _ _⟩)
  ·cases h
 ·rename_i ha
  obtain ⟨⟨x,hx⟩,hl⟩:=sk_s ha σ
  split at h
  ·rename_i hb
   obtain ⟨⟨y,hy⟩,_⟩:=sk_s hb σ
   have e:Qb σ (.bin op a b)=strA op x y:=by simp only [Qb,hx,hy,binS]
   cases op<;>simp only [Bool.false_eq_true] at h
   all_goals exact ⟨_,by rw [e];simp only [strA];rfl,fun τ i=>by simp only [resS];exact set_b _ _ _⟩
  ·cases h
 ·rename_i ha
  obtain ⟨⟨x,hx⟩,hl⟩:=sk_b ha σ
  split at h
  ·rename_i hb
   obtain ⟨⟨y,hy⟩,_⟩:=sk_b hb σ
   cases op<;>simp only [Bool.false_eq_true] at h
   all_goals exact ⟨_,by simp only [Qb,hx,hy,binS];rfl,fun τ i=>by simp only [resS];exact set_b _ _ _⟩
  ·cases h
 ·cases h
theorem Q6o {σ:Sig} {l:List AVal} (h:totL l=true):Qgc σ (.low l)/\Qgc σ (.high l):=by
 unfold totL at h
 split at h
 ·simp only [Bool.and_eq_true] at h
  obtain ⟨k,ha⟩:=Qc6 h.1
  obtain ⟨k',hb⟩:=Qc6 h.2
  obtain ⟨⟨x,hx⟩,hl⟩:=sk_i ha σ
  obtain ⟨⟨y,hy⟩,_⟩:=sk_i hb σ
  exact ⟨⟨_,by simp only [Qb,List.map,hx,hy,minA];rfl,fun τ i=>by simp only [resS,hl];exact set_i _ _ _ _⟩,
   ⟨_,by simp only [Qb,List.map,hx,hy,maxA];rfl,fun τ i=>by simp only [resS,hl];exact set_i _ _ _ _⟩⟩
 ·simp only [Bool.and_eq_true] at h
  obtain ⟨k,ha⟩:=Qc6 h.1.1
  obtain ⟨k',hb⟩:=Qc6 h.1.2
  obtain ⟨k'',hc⟩:=Qc6 h.2
  obtain ⟨⟨x,hx⟩,hl⟩:=sk_i ha σ
  obtain ⟨⟨y,hy⟩,_⟩:=sk_i hb σ
  obtain ⟨⟨z,hz⟩,_⟩:=sk_i hc σ
  exact ⟨⟨_,by simp only [Qb,List.map,hx,hy,hz,minA];rfl,fun τ i=>by simp only [resS,hl];exact set_i _ _ _ _⟩,
   ⟨_,by simp only [Qb,List.map,hx,hy,hz,maxA];rfl,fun τ i=>by simp only [resS,hl];exact set_i _ _ _ _⟩⟩
 ·cases h
theorem Qiq: ∀(cl:List (Option IntKind)) (j:Nat) (l:List UInt8),(∃k n,cl[j]? =some (some k)/\Qcr cl j l=.int k n)\/((∀k,cl[j]?≠some (some k))/\ ∃b,Qcr cl j l=.bool b)
 |[],j,l=> .inr ⟨by simp,_,rfl⟩
 |c::cl,0,l=>by
  cases c with
  |some k=>exact .inl ⟨k,_,rfl,rfl⟩
  |none=>exact .inr ⟨by simp,_,rfl⟩
 |c::cl,j+1,l=>by
  rcases Qiq cl j (l.drop (csz c)) with ⟨k,n,h1,h2⟩|⟨h1,b,h2⟩
  ·exact .inl ⟨k,n,by simpa using h1,h2⟩
  ·exact .inr ⟨by simpa using h1,b,h2⟩
theorem Qrt (k:IntKind) (n:Int):k.wrap (k.wrap n)=k.wrap n:=by
 cases k<;>simp [IntKind.wrap,IntKind.bits,IntKind.signed]<;>(try split)<;>(try split)<;>omega
theorem Qsh: ∀(cl:List (Option IntKind)) (j:Nat) (l:List UInt8) {k:IntKind} {n:Int},Qcr cl j l=.int k n->k.wrap n=n
 |[],j,l,k,n,h=>by cases h
 |c::cl,0,l,k,n,h=>by
  cases c with
  |some k'=>
   simp only [Qcr,decK,AVal.int.injEq] at h
   obtain ⟨rfl,rfl⟩:=h
   exact Qrt _ _
  |none=>simp [Qcr,decK] at h
 |c::cl,j+1,l,k,n,h=>Qsh cl j (l.drop (csz c)) h
theorem Qbjm {σ:Sig} {o:SOp} {l:List AVal} (h:totS o l=true):Qgc σ (.sop o l):=by
 unfold totS at h
 split at h
 ·split at h
  ·obtain ⟨⟨x,hx⟩,_⟩:=sk_s (Qgv h) σ
   exact ⟨_,by simp only [Qb,List.map,hx,sopA];rfl,fun τ i=>set_i _ _ _ _⟩
  ·cases h
 ·split at h
  ·simp only [Bool.and_eq_true] at h
   obtain ⟨⟨x,hx⟩,_⟩:=sk_s (Qgv h.1) σ
   obtain ⟨k,hk⟩:=Qc6 h.2
   obtain ⟨⟨y,hy⟩,_⟩:=sk_i hk σ
   exact ⟨_,by simp only [Qb,List.map,hx,hy,sopA];rfl,fun τ i=>set_i _ _ _ _⟩
  ·cases h
 ·split at h
  ·simp only [Bool.and_eq_true] at h
   obtain ⟨⟨x,hx⟩,_⟩:=sk_s (Qgv h.1) σ
   obtain ⟨k,hk⟩:=Qc6 h.2.1
   obtain ⟨⟨y,hy⟩,_⟩:=sk_i hk σ
   obtain ⟨k',hk'⟩:=Qc6 h.2.2
   obtain ⟨⟨z,hz⟩,_⟩:=sk_i hk' σ
   exact ⟨_,by simp only [Qb,List.map,hx,hy,hz,sopA];rfl,fun τ i=>set_s _ _ _⟩
  ·cases h
 ·split at h
  ·simp only [Bool.and_eq_true] at h
   obtain ⟨⟨x,hx⟩,_⟩:=sk_s (Qgv h.1) σ
   obtain ⟨⟨y,hy⟩,_⟩:=sk_s (Qgv h.2) σ
   exact ⟨_,by simp only [Qb,List.map,hx,hy,sopA];rfl,fun τ i=>set_s _ _ _⟩
  ·cases h
 ·exact ⟨_,rfl,fun τ i=>set_s _ _ _⟩
 ·rename_i cl j
  split at h
  ·simp only [Bool.and_eq_true] at h
   obtain ⟨⟨x,hx⟩,_⟩:=sk_s (Qgv h.1) σ
   obtain ⟨k,hk⟩:=Qc6 h.2
   obtain ⟨⟨y,hy⟩,_⟩:=sk_i hk σ
   refine ⟨_,by simp only [Qb,List.map,hx,hy,sopA];rfl,fun τ i=> ?_⟩
   simp only [resS,Qo]
   rcases Qiq cl j (x.data.toList.drop (y.toNat*rsz cl)) with ⟨k,n,h1,h2⟩|⟨h1,b,h2⟩
   ·rw [h1,h2];exact set_i _ _ _ _
   ·rw [h2]
    split
    ·rename_i k hk;exact absurd hk (h1 k)
    ·exact set_b _ _ _
  ·cases h
 ·split at h
  ·simp only [Bool.and_eq_true] at h
   obtain ⟨⟨x,hx⟩,_⟩:=sk_s (Qgv h.1) σ
   obtain ⟨k,hk⟩:=Qc6 h.2.1
   obtain ⟨⟨y,hy⟩,_⟩:=sk_i hk σ
   obtain ⟨k',hk'⟩:=Qc6 h.2.2
   obtain ⟨⟨z,hz⟩,_⟩:=sk_i hk' σ
   exact ⟨_,by simp only [Qb,List.map,hx,hy,hz,sopA];rfl,fun τ i=>set_s _ _ _⟩
  ·cases h
 ·split at h
  ·simp only [Bool.and_eq_true] at h
   obtain ⟨⟨x,hx⟩,_⟩:=sk_s (Qgv h.1) σ
   obtain ⟨k,hk⟩:=Qc6 h.2
   obtain ⟨⟨y,hy⟩,_⟩:=sk_i hk σ
   exact ⟨_,by simp only [Qb,List.map,hx,hy,sopA];rfl,fun τ i=>set_s _ _ _⟩
  ·cases h
 ·exact ⟨_,rfl,fun τ i=>set_s _ _ _⟩
theorem Qbjl {σ:Sig} {d:SDef} (h:totD d=true):Qgc σ d:=by
 cases d with
 |bin op a b=>exact Qbjk h
 |un op a=>
  cases op<;>simp only [totD,Bool.false_eq_true] at h
  all_goals first
   |(obtain ⟨⟨x,hx⟩,hl⟩:=sk_b (Q0q h) σ;exact ⟨_,by simp only [Qb,hx,unA];rfl,fun τ i=>by simp only [resS,hl];exact set_b _ _ _⟩)
   |(obtain ⟨k,hk⟩:=Qc6 h;obtain ⟨⟨x,hx⟩,hl⟩:=sk_i hk σ;exact ⟨_,by simp only [Qb,hx,unA];rfl,fun τ i=>by simp only [resS,hl];exact set_i _ _ _ _⟩)
 |conv k a=>
  obtain ⟨k',hk⟩:=Qc6 h
  obtain ⟨⟨x,hx⟩,hl⟩:=sk_i hk σ
  exact ⟨_,by simp only [Qb,hx,Qku];rfl,fun τ i=>by simp only [resS];exact set_i _ _ _ _⟩
 |low l=>exact (Q6o h).1
 |high l=>exact (Q6o h).2
 |all l=>exact ⟨_,rfl,fun τ i=>set_b _ _ _⟩
 |text l=>exact ⟨_,rfl,fun τ i=>set_s _ _ _⟩
 |fn id k l=>exact ⟨_,rfl,fun τ i=>set_i _ _ _ _⟩
 |fnb id l=>exact ⟨_,rfl,fun τ i=>set_b _ _ _⟩
 |ite c a b=>
  simp only [totD,Bool.and_eq_true] at h
  obtain ⟨⟨x,hx⟩,_⟩:=sk_b (Q0q h.1) σ
  refine ⟨bif x then den σ a else den σ b,by simp only [Qb,hx],fun τ i=> ?_⟩
  simp only [resS]
  cases x with
  |true=>exact Qu2 (Qbis h.2) σ τ i
  |false=>simp only [cond_false];rw [Q25 h.2 i];exact Qu2 (Q5v h.2) σ τ i
 |sel l ix=>
  simp only [totD,Bool.and_eq_true] at h
  obtain ⟨k,hk⟩:=Qc6 h.1
  obtain ⟨⟨x,hx⟩,_⟩:=sk_i hk σ
  have h2:=h.2
  cases l with
  |nil=>cases h2
  |cons a r=>
   simp only [Bool.and_eq_true] at h2
   refine ⟨_,by simp only [Qb,hx];rfl,fun τ i=> ?_⟩
   simp only [resS]
   have hm:Qcy a ((a::r).getD x.toNat a)=true:=by
    simp only [List.getD_eq_getElem?_getD]
    cases hg:(a::r)[x.toNat]? with
    |none=>simpa using h2.1
    |some c=>
     have hc:=List.mem_of_getElem? hg
     rcases List.mem_cons.1 hc with rfl|hc
     ·simpa using h2.1
     ·exact Qxm h2.2 c hc
   rw [Q25 hm i]
   exact Qu2 (Q5v hm) σ τ i
 |sop o l=>exact Qbjm h
def Qc3:SDef->Option Nat
 |.bin op a b=>match op with
  |.quo|.rem=>match skOf a with
   |some (.i k)=>match b with
    |.symi k' j=>if k=k' then some j else none
    |_=>none
   |_=>none
  |_=>none
 |_=>none
def totC (d:SDef):Bool:=
 match Qc3 d with
 |some _=>true
 |none=>totD d
theorem Q8j {σ:Sig} {d:SDef} {j:Nat} (h:Qc3 d=some j) (hj:σ.ival j≠0):Qgc σ d:=by
 unfold Qc3 at h
 split at h
 ·rename_i op a b
  have go: ∀k,skOf a=some (.i k)-> ∀k' i,b=.symi k' i->k=k'->i=j->(op=.quo\/op=.rem)->Qgc σ (.bin op a b):=by
   intro k ha k' i hb hk hi ho
   subst hb;subst hk;subst hi
   obtain ⟨⟨x,hx⟩,hl⟩:=sk_i ha σ
   have hy:den σ (.symi k i)=.int k (σ.ival i):=rfl
   rcases ho with rfl|rfl
   ·have e:Qb σ (.bin .quo a (.symi k i))=intA .quo k x k (σ.ival i):=by simp only [Qb,hx,hy,binS]
    exact ⟨_,by rw [e];simp only [intA,if_true,if_neg hj];rfl,fun τ i=>by simp only [resS,hl];exact set_i _ _ _ _⟩
   ·have e:Qb σ (.bin .rem a (.symi k i))=intA .rem k x k (σ.ival i):=by simp only [Qb,hx,hy,binS]
    exact ⟨_,by rw [e];simp only [intA,if_true,if_neg hj];rfl,fun τ i=>by simp only [resS,hl];exact set_i _ _ _ _⟩
  cases op<;>simp only [reduceCtorEq] at h
  all_goals
   split at h
   ·rename_i k hk
    split at h
    ·rename_i k' i
     split at h
     ·rename_i hkk
      cases h
      exact go k hk _ _ rfl hkk rfl (by simp)
     ·cases h
    ·cases h
   ·cases h
 ·cases h
def okG:List SDef->Nat->Bool
 |[],_=>true
 |d::G,i=>ltD i d&&totC d&&okG G (i+1)
theorem Qbfa (d:SDef) (i:Nat):ltV (i+1) (resS d i)=true:=by
 have like: ∀a:AVal,ltV (i+1) (Qcj a i)=true:=by intro a;cases a<;>simp [Qcj,ltV]
 cases d with
 |bin op a b=>cases op<;>simp only [resS]<;>first|exact like a|simp [ltV]
 |un op a=>exact like a
 |conv k a=>simp [resS,ltV]
 |low l=>cases l<;>simp only [resS]<;>first|exact like _|simp [ltV]
 |high l=>cases l<;>simp only [resS]<;>first|exact like _|simp [ltV]
 |all l=>simp [resS,ltV]
 |text l=>simp [resS,ltV]
 |fn id k l=>simp [resS,ltV]
 |fnb id l=>simp [resS,ltV]
 |ite c a b=>exact like a
 |sel l a=>cases l<;>simp only [resS]<;>first|exact like _|simp [ltV]
 |sop o l=>
  cases o<;>simp only [resS]<;>try (simp [ltV];done)
  split<;>simp [ltV]
theorem Q58: ∀{G:List SDef} {i:Nat} {σ:Sig},okG G i=true-> ∀{k:Nat} {d:SDef},G[k]? =some d->(∀j,Qc3 d=some j->(solve G i σ).ival j≠0)->Qb (solve G i σ) d=some (den (solve G i σ) (resS d (i+k)))
 |[],_,_,_,_,_,h,_=>by simp at h
 |d::G,i,σ,h,0,d',hd,hc=>by
  simp only [List.getElem?_cons_zero,Option.some.injEq] at hd
  subst hd
  simp only [okG,Bool.and_eq_true] at h
  obtain ⟨⟨h1,h2⟩,h3⟩:=h
  have k1:Agree i σ (solve (d::G) i σ):=Qeo _ _ _
  have hgiv:Qgc σ d:=by
   unfold totC at h2
   split at h2
   ·rename_i j hj
    refine Q8j hj ?_
    have hlt:j<i:=by
     unfold Qc3 at hj
     split at hj
     ·rename_i op a b
      have go: ∀k' l,b=.symi k' l->l=j->j<i:=by
       intro k' l hb hl
       subst hb;subst hl
       simp only [ltD,ltV,Bool.and_eq_true,Nat.blt_eq] at h1
       exact h1.2
      cases op<;>simp only [reduceCtorEq] at hj
      all_goals
       split at hj
       ·split at hj
        ·rename_i k' l
         split at hj
         ·cases hj;exact go _ _ rfl rfl
         ·cases hj
        ·cases hj
       ·cases hj
     ·cases hj
    rw [(k1.val j hlt).1]
    exact hc j hj
   ·exact Qbjl h2
  obtain ⟨v,e1,e2⟩:=hgiv
  have hs:Qid σ d i=setS σ i v:=by simp only [Qid,e1]
  have k2:Agree (i+1) (setS σ i v) (solve (d::G) i σ):=by simp only [solve,hs];exact Qeo _ _ _
  rw [<-Q9s k1 h1,e1,Nat.add_zero,<-Qdz k2 (Qbfa d i),e2]
 |d::G,i,σ,h,k+1,d',hd,hc=>by
  simp only [okG,Bool.and_eq_true] at h
  simp only [List.getElem?_cons_succ] at hd
  have:=Q58 (σ:=Qid σ d i) h.2 hd hc
  rw [show i+(k+1)=i+1+k by omega]
  exact this
end Go.Ev
namespace Go.Ev
set_option linter.unusedSimpArgs false
abbrev TabF:=Nat->List Int->Int
def Qbfy:TabF:=fun _ _=>0
abbrev Qrv:=(SDef->Option AVal)->(Nat->Option IntKind)->FuncId->List AVal->Option AVal
def Qc8:Qrv:=fun _ _ _ _=>none
abbrev Qen:=(SDef->Option AVal)->FuncId->List AVal->Hp->Option (AVal×Hp)
def noMh:Qen:=fun _ _ _ _=>none
def Qh0:List Fact->Nat->Bool
 |[],_=>false
 |x::F,i=>match x with
  |.non j n=>match Nat.beq j i with
   |true=>match n with
    |.ofNat 0=>true
    |_=>Qh0 F i
   |false=>Qh0 F i
  |_=>Qh0 F i
theorem Qp6 {σ:Sig}: ∀{F:List Fact} {i:Nat},Qh0 F i=true->Ql σ F->σ.ival i≠0
 |[],_,h,_=>by simp [Qh0] at h
 |x::F,i,h,hF=>by
  simp only [Qh0] at h
  split at h
  ·split at h
   ·rename_i hs
    have:=Nat.eq_of_beq_eq_true hs
    subst this
    split at h
    ·exact hF.1
    ·exact Qp6 h hF.2
   ·exact Qp6 h hF.2
  ·exact Qp6 h hF.2
structure RowS where
 len:AVal
 els:List (AVal×List AVal)
inductive KdT where
 |e
 |n (l:KdT) (k:Option IntKind) (r:KdT)
def KdT.get:KdT->Nat->Option IntKind
 |.e,_=>none
 |.n l v r,i=>match i with
  |0=>v
  |i+1=>match Nat.beq (i%2) 0 with
   |true=>l.get (i/2)
   |false=>r.get (i/2)
def Qry (σ:Sig):List (Nat×AVal×List (Option IntKind))->Prop
 |[]=>True
 |p::l=>(∀X,σ.ext p.1=some X->StrX σ p.2.1 p.2.2 X)/\Qry σ l
def Qrg:List (Nat×AVal×List (Option IntKind))->Nat->Option (AVal×List (Option IntKind))
 |[],_=>none
 |p::l,i=>match Nat.beq p.1 i with
  |true=>some p.2
  |false=>Qrg l i
theorem Q6c {σ:Sig}: ∀{l:List (Nat×AVal×List (Option IntKind))} {i:Nat} {s:AVal} {cl:List (Option IntKind)} {X:Fz},Qry σ l->Qrg l i=some (s,cl)->σ.ext i=some X->StrX σ s cl X
 |[],_,_,_,_,_,h,_=>by cases h
 |p::l,i,s,cl,X,ho,h,hX=>by
  simp only [Qrg] at h
  split at h
  ·rename_i hb
   have:=Nat.eq_of_beq_eq_true hb
   subst this
   have h:p.2=(s,cl):=Option.some.inj h
   have:=ho.1 X hX
   rw [h] at this
   exact this
  ·exact Q6c ho.2 h hX
structure Ing where
 n:Nat:=0
 m:Nat
 ins:List (Option IntKind):=[]
 G:List SDef
 T:LT
 tab:TabF:=Qbfy
 hook:Qrv:=Qc8
 rows:List RowS:=[]
 cuts:List (Nat×AVal×Nat):=[]
 inv:Sig->Prop:=fun _=>True
 dk:Nat:=4
 kb:Nat:=0
 kt:KdT:=.e
 mh:Qen:=noMh
 atoms:List (Nat×Bool):=[]
 insf:Option (Nat×Nat):=none
 lsts:List (Nat×List (Option IntKind)):=[]
 strs:List (Nat×AVal×List (Option IntKind)):=[]
 strok: ∀σ,inv σ->Qry σ strs:=by exact fun _ _=>trivial
 ph:Qen:=noMh
 fu:Nat:=1000
def Qu6 (X:Ing) (F:List Fact) (d:SDef):Option Nat:=
 match Qc3 d with
 |some j=>match Qh0 F j with
  |true=>Qg2 d (Q0c d) X.T
  |false=>none
 |none=>Qg2 d (Q0c d) X.T
def inK (kd:Nat->Option IntKind) (k:IntKind):AVal->Bool
 |.int k' n=>decide (k=k')&&(k.wrap n==n)
 |.symi k' i=>decide (k=k')&&(match kd i with
  |some k''=>decide (k=k'')
  |none=>false)
 |_=>false
def inKs (kd:Nat->Option IntKind) (k:IntKind):List AVal->Bool
 |[]=>true
 |a::l=>inK kd k a&&inKs kd k l
def kdD (kd:Nat->Option IntKind) (d:SDef):Option IntKind:=
 match Qc3 d with
 |some _=>none
 |none=>match d with
  |.bin op a _=>match skOf a with
   |some (.i k)=>match op with
    |.add|.sub|.mul|.quo|.and|.or|.xor|.andNot|.shl=>some k
    |.rem|.shr=>match inK kd k a with
     |true=>some k
     |false=>none
    |_=>none
   |_=>none
  |.conv k _=>some k
  |.fn _ k _=>some k
  |.sop .at _=>some .u8
  |.sop (.cell cl j) _=>match cl[j]? with
   |some (some k)=>some k
   |_=>none
  |.ite _ a b=>match skOf a with
   |some (.i k)=>match inK kd k a&&inK kd k b with
    |true=>some k
    |false=>none
   |_=>none
  |.sel l _=>match l with
   |a::r=>match skOf a with
    |some (.i k)=>match inKs kd k (a::r) with
     |true=>some k
     |false=>none
    |_=>none
   |[]=>none
  |.low l=>match l with
   |[a,b]=>match skOf a with
    |some (.i k)=>match inK kd k a&&inK kd k b with
     |true=>some k
     |false=>none
    |_=>none
   |_=>none
  |_=>none
def kdF (m:Nat) (ins:List (Option IntKind)) (G:List SDef):Nat->Nat->Option IntKind
 |0,_=>none
 |n+1,i=>match Nat.blt i m with
  |true=>(ins[i]?).getD none
  |false=>match G[i-m]? with
   |some d=>kdD (kdF m ins G n) d
   |none=>none
def Eqs (σ:Sig) (m:Nat) (G:List SDef):Prop:= ∀k d,G[k]? =some d->(∀j,Qc3 d=some j->σ.ival j≠0)->Qb σ d=some (den σ (resS d (m+k)))
theorem Qgp {m:Nat} {G:List SDef} {σ:Sig} (hG:okG G m=true):Eqs (solve G m σ) m G:=fun _ _ hd hc=>Q58 hG hd hc
theorem Eqs.at {σ:Sig} {m:Nat} {G:List SDef} (e:Eqs σ m G) (k:Nat) (d:SDef) (h:G[k]? =some d) (hc:Qc3 d=none):Qb σ d=some (den σ (resS d (m+k))):=e k d h (fun j hj=>by rw [hc] at hj;cases hj)
def Q4 (σ:Sig) (m:Nat) (ins:List (Option IntKind)):Prop:= ∀(i:Nat) (k:IntKind),i<m->(ins[i]?).getD none=some k->k.wrap (σ.ival i)=σ.ival i
def Qeb (σ:Sig) (rows:List RowS):Prop:=
 ∀i r X,rows[i]? =some r->σ.ext i=some X->den σ r.len=.int .i64 X.len/\
  ∀p,p∈r.els-> ∀m:Nat,den σ p.1=.int .i64 m->m<X.len->p.2.length=X.z/\ ∀(j:Nat) (c:AVal),p.2[j]? =some c->den σ c=X.val m j
def Qru (σ:Sig) (cuts:List (Nat×AVal×Nat)):Prop:=
 ∀p,p∈cuts-> ∀X,σ.ext p.1=some X-> ∃Y,σ.ext p.2.2=some Y/\Y.blk=X.blk/\Y.off=X.off/\Y.len<=X.len/\den σ p.2.1=.int .i64 Y.len
theorem Qbe {σ:Sig}:Qeb σ []:=fun i r X h=>by simp at h
theorem Qn1 {σ:Sig}:Qru σ []:=fun p hp=>by cases hp
theorem Qey {σ:Sig} {kd:Nat->Option IntKind} (hk: ∀i k,kd i=some k->k.wrap (σ.ival i)=σ.ival i) {k:IntKind} {a:AVal} (h:inK kd k a=true): ∃n,den σ a=.int k n/\k.wrap n=n:=by
 unfold inK at h
 split at h
 ·simp only [Bool.and_eq_true,decide_eq_true_eq,beq_iff_eq] at h
  obtain ⟨rfl,h⟩:=h
  exact ⟨_,rfl,h⟩
 ·rename_i k' i
  simp only [Bool.and_eq_true,decide_eq_true_eq] at h
  obtain ⟨rfl,h⟩:=h
  split at h
  ·rename_i k'' hi
   simp only [decide_eq_true_eq] at h
   subst h
   exact ⟨_,rfl,hk i _ hi⟩
  ·cases h
 ·cases h
theorem Q0h {kd:Nat->Option IntKind} {k:IntKind}: ∀{l:List AVal},inKs kd k l=true-> ∀a,a∈l->inK kd k a=true
 |b::l,h,a,ha=>by
  simp only [inKs,Bool.and_eq_true] at h
  rcases List.mem_cons.1 ha with rfl|ha
  ·exact h.1
  ·exact Q0h h.2 a ha
theorem Qbkk (k:IntKind) {x:Int} (y:Int) (h:k.wrap x=x):k.wrap (x.tmod y)=x.tmod y:=by
 have hb:(0<=x/\0<=x.tmod y/\x.tmod y<=x)\/(x<0/\x<=x.tmod y/\x.tmod y<=0):=by
  have hm:(x.tmod y).natAbs<=x.natAbs:=by rw [Int.natAbs_tmod];exact Nat.mod_le _ _
  by_cases h0:0<=x
  ·have:=Int.tmod_nonneg y h0
   exact .inl ⟨h0,this,by omega⟩
  ·have h1:0<=(-x).tmod y:=Int.tmod_nonneg y (by omega)
   rw [Int.neg_tmod] at h1
   exact .inr ⟨by omega,by omega,by omega⟩
 generalize x.tmod y=z at hb
 cases k<;>simp [IntKind.wrap,IntKind.bits,IntKind.signed] at h⊢ <;>omega
theorem Qbkj (k:IntKind) {n:Int} (q:Nat) (h:k.wrap n=n):k.wrap (n.fdiv (2^q))=n.fdiv (2^q):=by
 rw [Int.fdiv_eq_ediv_of_nonneg _ (Int.le_of_lt (Int.pow_pos (by decide)))]
 have hp:(0:Int)<2^q:=Int.pow_pos (by decide)
 generalize hP:(2:Int)^q=p at*
 have key: ∀lo hi:Int,lo<=0->0<=hi->lo<=n->n<=hi->lo<=n/p/\n/p<=hi:=by
  intro lo hi h0 h1 h2 h3
  rcases Int.le_total 0 n with h4|h4
  ·have:=Int.ediv_nonneg h4 (Int.le_of_lt hp)
   have:=Int.ediv_le_self p h4
   omega
  ·constructor
   ·rw [Int.le_ediv_iff_mul_le hp]
    have:lo*p<=lo*1:=Int.mul_le_mul_of_nonpos_left h0 (by omega)
    omega
   ·have:n/p<=0:=by
     have:=Int.ediv_le_ediv hp h4
     simpa using this
    omega
 cases k<;>simp only [IntKind.wrap,IntKind.bits,IntKind.signed] at h⊢ <;>simp at h⊢
 all_goals first
  |(have:=key 0 18446744073709551615 (by omega) (by omega) (by omega) (by omega);omega)
  |(have:=key (-9223372036854775808) 9223372036854775807 (by omega) (by omega) (by (repeat' split at h)<;>omega) (by (repeat' split at h)<;>omega);(repeat' split)<;>omega)
  |(have:=key (-2147483648) 2147483647 (by omega) (by omega) (by (repeat' split at h)<;>omega) (by (repeat' split at h)<;>omega);(repeat' split)<;>omega)
  |(have:=key (-32768) 32767 (by omega) (by omega) (by (repeat' split at h)<;>omega) (by (repeat' split at h)<;>omega);(repeat' split)<;>omega)
  |(have:=key (-128) 127 (by omega) (by omega) (by (repeat' split at h)<;>omega) (by (repeat' split at h)<;>omega);(repeat' split)<;>omega)
  |(have:=key 0 4294967295 (by omega) (by omega) (by omega) (by omega);omega)
  |(have:=key 0 65535 (by omega) (by omega) (by omega) (by omega);omega)
  |(have:=key 0 255 (by omega) (by omega) (by omega) (by omega);omega)
theorem Q0v {σ:Sig} {kd:Nat->Option IntKind} (ih: ∀i k,kd i=some k->k.wrap (σ.ival i)=σ.ival i) {d:SDef} {i:Nat} (he:Qc3 d=none->Qb σ d=some (den σ (resS d i))) {k:IntKind} (h:kdD kd d=some k):k.wrap (σ.ival i)=σ.ival i:=by
 unfold kdD at h
 split at h
 ·cases h
 ·rename_i hc
  have e:=he hc
  split at h
  ·rename_i op a b
   split at h
   ·rename_i k' ha
    obtain ⟨⟨x,hx⟩,hl⟩:=sk_i ha σ
    have go: ∀(y:AVal),resS (.bin op a b) i=.symi k' i->(∃z,Qb σ (.bin op a b)=some (.int k' (k'.wrap z)))->k'=k->k.wrap (σ.ival i)=σ.ival i:=by
     rintro y hr ⟨z,hz⟩ rfl
     rw [hr,hz] at e
     simp only [den,Option.some.injEq,AVal.int.injEq,true_and] at e
     rw [<-e,Qrt]
    have ev: ∀v,Qb σ (.bin op a b)=some v-> ∃k2 y,den σ b=.int k2 y:=by
     intro v hv
     simp only [Qb,hx] at hv
     generalize den σ b=q at hv
     cases q<;>simp only [binS,reduceCtorEq] at hv
     exact ⟨_,_,rfl⟩
    obtain ⟨k2,y,hy⟩:=ev _ e
    cases op<;>(try simp only [Option.some.injEq,reduceCtorEq] at h)
    case rem=>
     split at h
     ·rename_i hin
      cases h
      obtain ⟨n,hn,wn⟩:=Qey ih hin
      rw [show resS (.bin .rem a b) i=.symi k i by simp only [resS,hl]] at e
      simp only [Qb,hn,hy,binS,intA] at e
      split at e
      ·split at e
       ·cases e
       ·simp only [den,Option.some.injEq,AVal.int.injEq,true_and] at e
        rw [<-e];exact Qbkk k _ wn
      ·cases e
     ·cases h
    case shr=>
     split at h
     ·rename_i hin
      cases h
      obtain ⟨n,hn,wn⟩:=Qey ih hin
      rw [show resS (.bin .shr a b) i=.symi k i by simp only [resS,hl]] at e
      simp only [Qb,hn,hy,binS,intA] at e
      split at e
      ·cases e
      ·simp only [den,Option.some.injEq,AVal.int.injEq,true_and] at e
       rw [<-e];exact Qbkj k _ wn
     ·cases h
    case quo=>
     refine go (.nilptr) (by simp only [resS,hl]) ?_ h
     rw [e]
     simp only [Qb,hx,hy,binS,intA] at e
     split at e
     ·split at e
      ·cases e
      ·rename_i hk _;subst hk;exact ⟨_,by rw [<-e]⟩
     ·cases e
    case shl=>
     refine go (.nilptr) (by simp only [resS,hl]) ?_ h
     rw [e]
     simp only [Qb,hx,hy,binS,intA] at e
     split at e
     ·cases e
     ·exact ⟨_,by rw [<-e]⟩
    all_goals
     refine go (.nilptr) (by simp only [resS,hl]) ?_ h
     rw [e]
     simp only [Qb,hx,hy,binS,intA] at e
     split at e
     ·exact ⟨_,by rw [<-e]⟩
     ·cases e
   ·cases h
  ·rename_i k' a
   cases h
   simp only [Qb] at e
   generalize den σ a=q at e
   cases q<;>simp only [Qku,resS,den,Option.some.injEq,AVal.int.injEq,true_and,reduceCtorEq] at e
   rw [<-e,Qrt]
  ·rename_i id k' l
   cases h
   simp only [Qb,resS,den,Option.some.injEq,AVal.int.injEq,true_and] at e
   rw [<-e,Qrt]
  ·rename_i l
   cases h
   simp only [Qb,resS,den,sopA] at e
   split at e
   ·rename_i s k' n _
    simp only [Option.some.injEq,AVal.int.injEq,true_and] at e
    rw [<-e]
    generalize s.data.toList.getD n.toNat 0=c
    have:=UInt8.toNat_lt c
    simp [IntKind.wrap,IntKind.bits,IntKind.signed]
    omega
   ·cases e
  ·rename_i cl j l
   split at h
   ·rename_i k' hj
    cases h
    simp only [Qb,resS,den,sopA,hj] at e
    split at e
    ·rename_i s k'' n _
     simp only [Qo,Option.some.injEq] at e
     rcases Qiq cl j (s.data.toList.drop (n.toNat*rsz cl)) with ⟨k3,n3,h1,h2⟩|⟨h1,b,h2⟩
     ·rw [hj] at h1;cases h1
      have h4:=Qsh cl j (s.data.toList.drop (n.toNat*rsz cl)) h2
      rw [h2] at e
      simp only [den,AVal.int.injEq,true_and] at e
      rw [<-e,h4]
     ·exact absurd hj (h1 k)
    ·cases e
   ·cases h
  ·rename_i c a b
   split at h
   ·rename_i k' ha
    split at h
    ·rename_i hh
     cases h
     simp only [Bool.and_eq_true] at hh
     obtain ⟨x,hx,wx⟩:=Qey ih hh.1
     obtain ⟨y,hy,wy⟩:=Qey ih hh.2
     obtain ⟨_,hl⟩:=sk_i ha σ
     simp only [Qb,resS,hl,hx,hy] at e
     generalize den σ c=q at e
     cases q<;>simp only [reduceCtorEq] at e
     rename_i bb
     cases bb<;>simp only [cond_true,cond_false,den,Option.some.injEq,AVal.int.injEq,true_and] at e
     ·rw [<-e];exact wy
     ·rw [<-e];exact wx
    ·cases h
   ·cases h
  ·rename_i l ix
   split at h
   ·rename_i a r
    split at h
    ·rename_i k' ha
     split at h
     ·rename_i hh
      cases h
      obtain ⟨_,hl⟩:=sk_i ha σ
      simp only [Qb,resS,hl] at e
      generalize den σ ix=q at e
      cases q<;>simp only [reduceCtorEq] at e
      rename_i k3 z
      have hmem:(a::r).getD z.toNat a∈a::r:=by
       simp only [List.getD_eq_getElem?_getD]
       cases hg:(a::r)[z.toNat]? with
       |none=>simp
       |some c=>simpa using List.mem_of_getElem? hg
      obtain ⟨x,hx,wx⟩:=Qey ih (Q0h hh _ hmem)
      rw [hx] at e
      simp only [den,Option.some.injEq,AVal.int.injEq,true_and] at e
      rw [<-e];exact wx
     ·cases h
    ·cases h
   ·cases h
  ·rename_i l
   split at h
   ·rename_i a b
    split at h
    ·rename_i k' ha
     split at h
     ·rename_i hh
      cases h
      simp only [Bool.and_eq_true] at hh
      obtain ⟨x,hx,wx⟩:=Qey ih hh.1
      obtain ⟨y,hy,wy⟩:=Qey ih hh.2
      obtain ⟨_,hl⟩:=sk_i ha σ
      rw [show Qb σ (.low [a,b])=some (.int k (if y<x then y else x)) by simp only [Qb,List.map,hx,hy,minA]] at e
      simp only [resS,hl,den] at e
      have e2:(if y<x then y else x)=σ.ival i:=by injection e with e;injection e
      rw [<-e2]
      split
      ·exact wy
      ·exact wx
     ·cases h
    ·cases h
   ·cases h
  ·cases h
theorem Q0w {σ:Sig} {m:Nat} {ins:List (Option IntKind)} {G:List SDef} (hG:Eqs σ m G) (hi:Q4 σ m ins): ∀(n i:Nat) (k:IntKind),kdF m ins G n i=some k->k.wrap (σ.ival i)=σ.ival i
 |0,_,_,h=>by simp [kdF] at h
 |n+1,i,k,h=>by
  have ih:=Q0w hG hi n
  simp only [kdF] at h
  split at h
  ·rename_i hlt;exact hi i k (by rw [Nat.blt_eq] at hlt;exact hlt) h
  ·rename_i hge
   have hge:m<=i:=by
    have: ¬(i<m):=fun h=>by rw [<-Nat.blt_eq] at h;rw [h] at hge;cases hge
    omega
   split at h
   ·rename_i d hd
    have hmi:m+(i-m)=i:=by omega
    exact Q0v ih (fun hc=>by have e:=hG.at (i-m) d hd hc;rwa [hmi] at e) h
   ·cases h
def okKs (kt:KdT):List SDef->Nat->Bool
 |[],_=>true
 |d::G,i=>(match kt.get i with
  |none=>true
  |some k=>match kdD (fun j=>match Nat.blt j i with
    |true=>kt.get j
    |false=>none) d with
   |some k'=>decide (k=k')
   |none=>false)&&okKs kt G (i+1)
def okKi (kt:KdT):List (Option IntKind)->Nat->Bool
 |[],_=>true
 |o::r,i=>(match kt.get i with
  |none=>true
  |some k=>match o with
   |some k'=>decide (k=k')
   |none=>false)&&okKi kt r (i+1)
def okKt (X:Ing):Bool:=
 match X.kb with
 |0=>true
 |b+1=>Nat.beq (b+1) (X.m+X.G.length)&&(Nat.beq X.ins.length X.m&&(okKi X.kt X.ins 0&&okKs X.kt X.G X.m))
def kdX (X:Ing) (i:Nat):Option IntKind:=
 match X.kb with
 |0=>kdF X.m X.ins X.G X.dk i
 |b+1=>match Nat.blt i (b+1) with
  |true=>X.kt.get i
  |false=>none
theorem Q4b {kt:KdT}: ∀{l:List (Option IntKind)} {i:Nat},okKi kt l i=true-> ∀(j:Nat) (k:IntKind),j<l.length->kt.get (i+j)=some k->(l[j]?).getD none=some k
 |[],_,_,j,k,hj,_=>by simp at hj
 |o::r,i,h,0,k,_,hg=>by
  simp only [okKi,Bool.and_eq_true] at h
  have h1:=h.1
  rw [Nat.add_zero] at hg
  rw [hg] at h1
  simp only at h1
  split at h1
  ·simp only [decide_eq_true_eq] at h1;subst h1;simp
  ·cases h1
 |o::r,i,h,j+1,k,hj,hg=>by
  simp only [okKi,Bool.and_eq_true] at h
  have:=Q4b h.2 j k (by simpa using hj) (by rw [show i+1+j=i+(j+1) by omega];exact hg)
  simpa using this
theorem Q4c {kt:KdT}: ∀{G:List SDef} {i:Nat},okKs kt G i=true-> ∀(j:Nat) (k:IntKind) (d:SDef),G[j]? =some d->kt.get (i+j)=some k->kdD (fun x=>match Nat.blt x (i+j) with|true=>kt.get x|false=>none) d=some k
 |[],_,_,j,k,d,hd,_=>by simp at hd
 |e::G,i,h,0,k,d,hd,hg=>by
  simp only [List.getElem?_cons_zero,Option.some.injEq] at hd
  subst hd
  simp only [okKs,Bool.and_eq_true] at h
  have h1:=h.1
  rw [Nat.add_zero] at hg⊢
  rw [hg] at h1
  simp only at h1
  split at h1
  ·rename_i k' hk;simp only [decide_eq_true_eq] at h1;subst h1;exact hk
  ·cases h1
 |e::G,i,h,j+1,k,d,hd,hg=>by
  simp only [okKs,Bool.and_eq_true] at h
  have:=Q4c h.2 j k d (by simpa using hd) (by rw [show i+1+j=i+(j+1) by omega];exact hg)
  rwa [show i+1+j=i+(j+1) by omega] at this
theorem Qo4 {σ:Sig} {X:Ing} (hG:Eqs σ X.m X.G) (hi:Q4 σ X.m X.ins) (hk:okKt X=true): ∀(i:Nat) (k:IntKind),kdX X i=some k->k.wrap (σ.ival i)=σ.ival i:=by
 intro i k h
 unfold kdX at h
 unfold okKt at hk
 cases hb:X.kb with
 |zero=>rw [hb] at h;exact Q0w hG hi _ i k h
 |succ b=>
  rw [hb] at h hk
  simp only [Bool.and_eq_true] at h hk
  obtain ⟨q1,q2,q3,q4⟩:=hk
  have q1:=Nat.eq_of_beq_eq_true q1
  have q2:=Nat.eq_of_beq_eq_true q2
  split at h
  ·rename_i hlt
   have hlt:i<b+1:=by rw [Nat.blt_eq] at hlt;exact hlt
   clear hb
   induction i using Nat.strongRecOn generalizing k with
   |ind i ih=>
    by_cases him:i<X.m
    ·exact hi i k him (Q4b q3 i k (by omega) (by rw [Nat.zero_add];exact h))
    ·have hmi:X.m+(i-X.m)=i:=by omega
     cases hd:X.G[i-X.m]? with
     |none=>
      have:=List.getElem?_eq_none_iff.1 hd
      omega
     |some d=>
      have:=Q4c q4 (i-X.m) k d hd (by rw [hmi];exact h)
      rw [hmi] at this
      refine Q0v (kd:=_) (fun j k' hj=> ?_) (fun hc=>by have e:=hG.at (i-X.m) d hd hc;rwa [hmi] at e) this
      split at hj
      ·rename_i hji
       have hji:j<i:=by rw [Nat.blt_eq] at hji;exact hji
       exact ih j hji k' (by rw [Nat.blt_eq];omega) hj (by omega)
      ·cases hj
  ·cases h
structure BaseOk (X:Ing) (σ:Sig):Prop where
 eqs:Eqs σ X.m X.G
 tab:σ.tab=X.tab
 ins:Q4 σ X.m X.ins
 rows:Qeb σ X.rows
 cuts:Qru σ X.cuts
 inv:X.inv σ
 kt:okKt X=true
def Qq (X:Ing) (F:List Fact):Cx where
 n:=X.n
 look:=Qu6 X F
 fact:=Qi4 F
 num:=Qf5 F
 hook:=fun _ _=>none
 tab:=X.tab
 kd:=kdX X
 ok:=fun σ=>Ql σ F/\BaseOk X σ
def Qwm (rows:List RowS) (i:Nat):Option AVal:=
 match rows[i]? with
 |some r=>some r.len
 |none=>none
def Qk7 (ix:AVal):List (AVal×List AVal)->Option (List AVal)
 |[]=>none
 |p::l=>match Qia p.1 ix with
  |true=>some p.2
  |false=>Qk7 ix l
def Qi9 (a:AVal):Bool:=
 match skOf a with
 |some (.i k)=>decide (k=.i64)
 |_=>false
def numA (num:Nat->Option Int):AVal->Option Int
 |.int _ n=>some n
 |.symi _ j=>num j
 |_=>none
def Qwh (look:SDef->Option AVal) (num:Nat->Option Int) (rows:List RowS) (i:Nat) (ix:AVal):Option (List AVal):=
 match rows[i]? with
 |some r=>match Qk7 ix r.els with
  |some us=>match Qi9 ix&&Qi9 r.len with
   |true=>match numA num ix,numA num r.len with
    |some a,some b=>match decide (0<=a)&&decide (a<b) with
     |true=>some us
     |false=>none
    |_,_=>match look (.bin .leq (.int .i64 0) ix),look (.bin .lss ix r.len) with
     |some (.bool true),some (.bool true)=>some us
     |_,_=>none
   |false=>none
  |none=>none
 |none=>none
theorem Qtd {ix:AVal}: ∀{l:List (AVal×List AVal)} {us:List AVal},Qk7 ix l=some us->(ix,us)∈l
 |[],_,h=>by simp [Qk7] at h
 |p::l,us,h=>by
  simp only [Qk7] at h
  split at h
  ·rename_i hs
   cases h
   have:=Qm1 hs
   rw [<-this]
   simp
  ·exact List.mem_cons_of_mem _ (Qtd h)
theorem Qoz {a:AVal} (h:Qi9 a=true) (σ:Sig): ∃x,den σ a=.int .i64 x:=by
 unfold Qi9 at h
 split at h
 ·rename_i k hk
  have:=of_decide_eq_true h
  subst this
  exact (sk_i hk σ).1
 ·cases h
def cutF (cuts:List (Nat×AVal×Nat)) (i:Nat) (a:AVal):Option Nat:=
 match cuts with
 |[]=>none
 |p::l=>match Nat.beq p.1 i&&Qia p.2.1 a with
  |true=>some p.2.2
  |false=>cutF l i a
theorem Qyk {i k:Nat} {a:AVal}: ∀{l:List (Nat×AVal×Nat)},cutF l i a=some k->(i,a,k)∈l
 |[],h=>by simp [cutF] at h
 |(x,y,z)::l,h=>by
  simp only [cutF] at h
  split at h
  ·rename_i hs
   cases h
   simp only [Bool.and_eq_true] at hs
   have h1:=Nat.eq_of_beq_eq_true hs.1
   have h2:=Qm1 hs.2
   subst h1;subst h2
   simp
  ·exact List.mem_cons_of_mem _ (Qyk h)
def sdfG (m:Nat) (G:List SDef) (i:Nat):Option SDef:=
 match Nat.ble m i with
 |true=>match G[i-m]? with
  |some d=>match Qc3 d with
   |none=>some d
   |some _=>none
  |none=>none
 |false=>none
theorem Qbiv {X:Ing} {σ:Sig} (he:Eqs σ X.m X.G) {i:Nat} {d:SDef} (h:sdfG X.m X.G i=some d):Qb σ d=some (den σ (resS d i)):=by
 unfold sdfG at h
 split at h
 ·rename_i hm
  have hm:=Nat.le_of_ble_eq_true hm
  split at h
  ·rename_i d' hl
   split at h
   ·rename_i hc
    cases h
    have:=he.at (i-X.m) _ hl hc
    rw [show X.m+(i-X.m)=i by omega] at this
    exact this
   ·cases h
  ·cases h
 ·cases h
def cxOf (X:Ing):CxF:=fun F=>{Qq X F with hook:=X.hook (symS (Qq X F)) (kdX X),rlen:=Qwm X.rows,rat:=Qwh (symS (Qq X F)) (Qf5 F) X.rows,rcut:=cutF X.cuts,mhook:=X.mh (symS (Qq X F)),phook:=X.ph (symS (Qq X F)),sdf:=sdfG X.m X.G,insf:=X.insf,atoms:=X.atoms,lsts:=X.lsts,rstr:=Qrg X.strs}
theorem Q28 {X:Ing} {F:List Fact} {σ:Sig} (hT:okLT X.m X.G X.T=true) (hb:BaseOk X σ) (hF:Ql σ F) {d:SDef} {i:Nat} (h:Qu6 X F d=some i):Qb σ d=some (den σ (resS d i)):=by
 unfold Qu6 at h
 split at h
 ·rename_i j hj
  split at h
  ·rename_i hn
   obtain ⟨k,rfl,hk⟩:=Qmd hT h
   exact hb.eqs k d hk (fun j' hj'=>by rw [hj] at hj';cases hj';exact Qp6 hn hF)
  ·cases h
 ·rename_i hj
  obtain ⟨k,rfl,hk⟩:=Qmd hT h
  exact hb.eqs k d hk (fun j' hj'=>by rw [hj] at hj';cases hj')
theorem Qsb {X:Ing} {F:List Fact} {σ:Sig} (hT:okLT X.m X.G X.T=true) (hb:BaseOk X σ) (hF:Ql σ F):(Qq X F).Good σ:=
 ⟨fun _ _ h=>Q28 hT hb hF h,fun _ _ h=>Qoj h hF,fun _ _ h=>Qqd h hF,hb.tab,fun _ _ _ h=>by simp [Qq] at h,fun _ _ _ _ h=>by simp [Qq] at h,fun _ _ _ _ h=>by simp [Qq] at h,
  fun i k h=>Qo4 hb.eqs hb.ins hb.kt i k h,fun _ _ h=>by simp [Qq] at h,fun _ _ _ _ h=>by simp [Qq] at h,⟨hF,hb⟩⟩
theorem Q6l {ng:Cx} {σ:Sig} {d:SDef} {b:Bool} (hg:ng.Good σ) (h:symS ng d=some (.bool true)) (hd:Qb σ d=some (.bool b)):b=true:=by
 obtain ⟨q,h1,h2⟩:=Qch (g:=⟨fun _=>none,σ,fun _=>none⟩) hg h
 rw [hd] at h1
 cases h1
 have:=h2 (.bool b) (.bool b)
 cases this
 rfl
theorem Q33 {X0:Ing} {F:List Fact} {σ:Sig} (hb:(Qq X0 F).Good σ) {a:AVal} {n x:Int} {k:IntKind} (h:numA (Qf5 F) a=some n) (hx:den σ a=.int k x):n=x:=by
 unfold numA at h
 split at h
 ·cases h;simp only [den] at hx;cases hx;rfl
 ·rename_i j
  have:=hb.num j n h
  simp only [den] at hx;cases hx;exact this.symm
 ·cases h
theorem Qbha {X0:Ing} {F:List Fact} {rows:List RowS} {σ:Sig} (hb:(Qq X0 F).Good σ) (hr:Qeb σ rows) {i:Nat} {a:AVal} {cs:List AVal} {X:Fz}
  (h:Qwh (symS (Qq X0 F)) (Qf5 F) rows i a=some cs) (hX:σ.ext i=some X): ∃m:Nat,den σ a=.int .i64 m/\m<X.len/\cs.length=X.z/\ ∀(j:Nat) (c:AVal),cs[j]? =some c->den σ c=X.val m j:=by
 unfold Qwh at h
 split at h
 ·rename_i r hri
  split at h
  ·rename_i us hus
   split at h
   ·rename_i hk
    simp only [Bool.and_eq_true] at hk
    split at h
    ·rename_i ia ib na nb
     split at h
     ·rename_i hab
      cases h
      simp only [Bool.and_eq_true,decide_eq_true_eq] at hab
      obtain ⟨x,hx⟩:=Qoz hk.1 σ
      obtain ⟨r1,r2⟩:=hr i r X hri hX
      have e1:=Q33 hb na hx
      have e2:=Q33 hb nb r1
      subst e1
      have hxm:ia=(ia.toNat:Int):=by omega
      have hlt:ia.toNat<X.len:=by omega
      obtain ⟨q1,q2⟩:=r2 _ (Qtd hus) ia.toNat (by rw [<-hxm];exact hx) hlt
      exact ⟨ia.toNat,by rw [<-hxm];exact hx,hlt,q1,q2⟩
     ·cases h
    split at h
    ·rename_i l0 l1
     cases h
     obtain ⟨x,hx⟩:=Qoz hk.1 σ
     obtain ⟨r1,r2⟩:=hr i r X hri hX
     have d0:Qb σ (.bin .leq (.int .i64 0) a)=some (.bool (decide (0<=x))):=by
      have e:den σ (.int .i64 0)=.int .i64 0:=rfl
      simp only [Qb,hx,e,binS,intA,if_true]
     have d1:Qb σ (.bin .lss a r.len)=some (.bool (decide (x<X.len))):=by
      simp only [Qb,hx,r1,binS,intA,if_true]
     have b0:=of_decide_eq_true (Q6l hb l0 d0)
     have b1:=of_decide_eq_true (Q6l hb l1 d1)
     have hxm:x=(x.toNat:Int):=by omega
     have hlt:x.toNat<X.len:=by omega
     obtain ⟨q1,q2⟩:=r2 _ (Qtd hus) x.toNat (by rw [<-hxm];exact hx) hlt
     exact ⟨x.toNat,by rw [<-hxm];exact hx,hlt,q1,q2⟩
    ·cases h
   ·cases h
  ·cases h
 ·cases h
theorem Qn2 {X:Ing} {F:List Fact} {σ:Sig} (hT:okLT X.m X.G X.T=true) (hb:BaseOk X σ) (hF:Ql σ F):(cxOf X F).Good σ:=by
 refine ⟨fun _ _ h=>Q28 hT hb hF h,fun _ _ h=>Qoj h hF,fun _ _ h=>Qqd h hF,hb.tab,fun i a Y h hX=> ?_,fun i a cs Y h hX=>Qbha (Qsb hT hb hF) hb.rows h hX,fun i a k Y h hX=>hb.cuts _ (Qyk h) Y hX,
  fun i k h=>Qo4 hb.eqs hb.ins hb.kt i k h,fun i n h=>Qbiv hb.eqs h,fun i s cl Y h hX=>Q6c (X.strok _ hb.inv) h hX,⟨hF,hb⟩⟩
 have h:Qwm X.rows i=some a:=h
 unfold Qwm at h
 split at h
 ·rename_i r hri
  cases h
  exact (hb.rows i r Y hri hX).1
 ·cases h
theorem cx_ok {X:Ing} (hT:okLT X.m X.G X.T=true):CtxOk (cxOf X):=
 ⟨fun _ _=>rfl,fun _ _ h=>h.ok.1,fun _ _ _ h hF=>Qn2 hT h.ok.2 hF⟩
theorem Qbho {P:Program} {X:Ing} {mb:Bool} {fuel d:Nat} {f:FuncId} {args:List AVal} {F:List Fact} {σ:Sig} {Q:Out×Hp->Prop} (hm:P.follows .mixedOrders=true) (hT:okLT X.m X.G X.T=true) (hh: ∀F,Hooks P (cxOf X F)) (h0n:X.n=0)
  (hz: ∀i,σ.ext i=none) (hb:BaseOk X σ) (hF:Ql σ F) (h:Sat σ Q ((evD P (cxOf X) mb fuel d).1 F f args ⟨[],[]⟩)) {args':Array Value} (ha:LRel ⟨fun _=>none,σ,fun _=>none⟩ args args'.toList) (w:World):
  Calls P f args' w fun e w'=> ∃x,Q x/\ ∃g',g'.sig=σ/\Qke g' x.1 e/\RowKit.Below w.heap.size w w':=by
 have hg:=Qn2 (X:=X) hT hb hF
 have h0:HRel (cxOf X F) ⟨fun _=>none,σ,fun _=>none⟩ [] w:=⟨fun i L hi=>by simp at hi,fun i j L M hi=>by simp at hi,fun i k hi=>by simp at hi,fun i hi=>by have:(cxOf X F).n=0:=h0n;omega,hg,⟨fun i Y hi _=>by have hi:σ.ext i=some Y:=hi;(rw [hz i] at hi;cases hi),(fun i Y hi=>by cases hi),fun i Y _ hi=>by have hi:σ.ext i=some Y:=hi;(rw [hz i] at hi;cases hi)⟩⟩
 refine ((Qoh (mb:=mb) (fuel:=fuel) hm (cx_ok hT) hh d).call F f args ⟨[],[]⟩ Q ⟨fun _=>none,σ,fun _=>none⟩ w args' h0 ha h).mono ?_
 rintro e w' ⟨x,hq,_,g',h1,h2,h3⟩
 exact ⟨x,hq,g',h3.sub.sig,h1,h3.os,h3.tape,h3.output,h3.size,fun k hk=>h3.frame k hk (fun i L hi=>by simp at hi)⟩
inductive Vr where
 |leaf (v:AVal)
 |req (o:Ob) (v:Vr)
 |dead
 |node (i:Nat) (yes no:Vr)
 |pick (i:Nat) (n:Int) (yes no:Vr)
 |or (y n:Vr)
def eqOb:Ob->Ob->Bool
 |.ok,.ok=>true
 |.no,.no=>true
 |.node i y n,.node j y' n'=>Nat.beq i j&&(eqOb y y'&&eqOb n n')
 |.pick i k y n,.pick j k' y' n'=>Nat.beq i j&&(decide (k=k')&&(eqOb y y'&&eqOb n n'))
 |_,_=>false
theorem Qi2: ∀(a b:Ob),eqOb a b=true->a=b
 |.ok,.ok,_=>rfl
 |.no,.no,_=>rfl
 |.node i y n,.node j y' n',h=>by
  simp only [eqOb,Bool.and_eq_true] at h
  rw [Nat.eq_of_beq_eq_true h.1,Qi2 _ _ h.2.1,Qi2 _ _ h.2.2]
 |.pick i k y n,.pick j k' y' n',h=>by
  simp only [eqOb,Bool.and_eq_true,decide_eq_true_eq] at h
  rw [Nat.eq_of_beq_eq_true h.1,h.2.1,Qi2 _ _ h.2.2.1,Qi2 _ _ h.2.2.2]
 |.ok,.no,h=>by simp [eqOb] at h
 |.ok,.node _ _ _,h=>by simp [eqOb] at h
 |.ok,.pick _ _ _ _,h=>by simp [eqOb] at h
 |.no,.ok,h=>by simp [eqOb] at h
 |.no,.node _ _ _,h=>by simp [eqOb] at h
 |.no,.pick _ _ _ _,h=>by simp [eqOb] at h
 |.node _ _ _,.ok,h=>by simp [eqOb] at h
 |.node _ _ _,.no,h=>by simp [eqOb] at h
 |.node _ _ _,.pick _ _ _ _,h=>by simp [eqOb] at h
 |.pick _ _ _ _,.ok,h=>by simp [eqOb] at h
 |.pick _ _ _ _,.no,h=>by simp [eqOb] at h
 |.pick _ _ _ _,.node _ _ _,h=>by simp [eqOb] at h
def okV:Tree (Out×Hp)->Vr->Bool
 |.leaf x,.leaf v=>match x.1 with
  |.val r=>Qde r&&eqV r v
  |.pan _=>false
 |_,.dead=>true
 |.node i y n,.node j y' n'=>Nat.beq i j&&(okV y y'&&okV n n')
 |.pick i k y n,.pick j k' y' n'=>Nat.beq i j&&(decide (k=k')&&(okV y y'&&okV n n'))
 |.req o t,.req o' v=>eqOb o o'&&okV t v
 |.or y n,.or a b=>okV y a&&okV n b
 |.or y n,v=>okV y v&&okV n v
 |_,_=>false
def vals (σ:Sig) (Q:AVal->Prop):Vr->List Fact->Prop
 |.leaf v,F=>Ql σ F->Q v
 |.req o v,F=>(Ql σ F->o.Sat σ)/\vals σ Q v F
 |.dead,F=> ¬Ql σ F
 |.node i y n,F=>vals σ Q y (.tru i true::F)/\vals σ Q n (.tru i false::F)
 |.pick i k y n,F=>vals σ Q y (.isn i k::F)/\vals σ Q n (.non i k::F)
 |.or y n,F=>vals σ Q y F/\vals σ Q n F
theorem Qcw {σ:Sig} {Q:AVal->Prop}: ∀{T:Tree (Out×Hp)} {V:Vr} {F:List Fact},okV T V=true->vals σ Q V F->Ql σ F->Sat σ (fun x=> ∃v,x.1=.val v/\Qde v=true/\Q v) T
 |T,.dead,F,_,hv,hF=>absurd hF hv
 |.leaf x,.leaf v,F,h,hv,hF=>by
  simp only [okV] at h
  split at h
  ·rename_i r hr
   simp only [Bool.and_eq_true] at h
   have:=Q9 _ _ h.2
   subst this
   exact ⟨r,hr,h.1,hv hF⟩
  ·cases h
 |.node i y n,.node j y' n',F,h,hv,hF=>by
  simp only [okV,Bool.and_eq_true] at h
  have:=Nat.eq_of_beq_eq_true h.1
  subst this
  exact ⟨fun e=>Qcw h.2.1 hv.1 (Qbd (.tru _ _) e hF),fun e=>Qcw h.2.2 hv.2 (Qbd (.tru _ _) e hF)⟩
 |.pick i k y n,.pick j k' y' n',F,h,hv,hF=>by
  simp only [okV,Bool.and_eq_true,decide_eq_true_eq] at h
  have:=Nat.eq_of_beq_eq_true h.1
  subst this
  obtain ⟨rfl,h1,h2⟩:=h.2
  exact ⟨fun e=>Qcw h1 hv.1 (Qbd (.isn _ _) e hF),fun e=>Qcw h2 hv.2 (Qbd (.non _ _) e hF)⟩
 |.req o t,.req o' v,F,h,hv,hF=>by
  simp only [okV,Bool.and_eq_true] at h
  have:=Qi2 _ _ h.1
  subst this
  exact ⟨hv.1 hF,Qcw h.2 hv.2 hF⟩
 |.or y n,.or a b,F,h,hv,hF=>by
  simp only [okV,Bool.and_eq_true] at h
  exact ⟨Qcw h.1 hv.1 hF,Qcw h.2 hv.2 hF⟩
 |.leaf _,.or _ _,_,h,_,_=>by simp [okV] at h
 |.node _ _ _,.or _ _,_,h,_,_=>by simp [okV] at h
 |.pick _ _ _ _,.or _ _,_,h,_,_=>by simp [okV] at h
 |.req _ _,.or _ _,_,h,_,_=>by simp [okV] at h
 |.dead,.or _ _,_,h,_,_=>by simp [okV] at h
 |.or y n,.leaf v,F,h,hv,hF=>by
  simp only [okV,Bool.and_eq_true] at h
  exact ⟨Qcw h.1 hv hF,Qcw h.2 hv hF⟩
 |.or y n,.node i a b,F,h,hv,hF=>by
  simp only [okV,Bool.and_eq_true] at h
  exact ⟨Qcw h.1 hv hF,Qcw h.2 hv hF⟩
 |.or y n,.pick i k a b,F,h,hv,hF=>by
  simp only [okV,Bool.and_eq_true] at h
  exact ⟨Qcw h.1 hv hF,Qcw h.2 hv hF⟩
 |.or y n,.req o v,F,h,hv,hF=>by
  simp only [okV,Bool.and_eq_true] at h
  exact ⟨Qcw h.1 hv hF,Qcw h.2 hv hF⟩
 |.leaf _,.node _ _ _,_,h,_,_=>by simp [okV] at h
 |.leaf _,.pick _ _ _ _,_,h,_,_=>by simp [okV] at h
 |.leaf _,.req _ _,_,h,_,_=>by simp [okV] at h
 |.node _ _ _,.leaf _,_,h,_,_=>by simp [okV] at h
 |.node _ _ _,.pick _ _ _ _,_,h,_,_=>by simp [okV] at h
 |.node _ _ _,.req _ _,_,h,_,_=>by simp [okV] at h
 |.pick _ _ _ _,.leaf _,_,h,_,_=>by simp [okV] at h
 |.pick _ _ _ _,.node _ _ _,_,h,_,_=>by simp [okV] at h
 |.pick _ _ _ _,.req _ _,_,h,_,_=>by simp [okV] at h
 |.req _ _,.leaf _,_,h,_,_=>by simp [okV] at h
 |.req _ _,.node _ _ _,_,h,_,_=>by simp [okV] at h
 |.req _ _,.pick _ _ _ _,_,h,_,_=>by simp [okV] at h
 |.dead,.leaf _,_,h,_,_=>by simp [okV] at h
 |.dead,.node _ _ _,_,h,_,_=>by simp [okV] at h
 |.dead,.pick _ _ _ _,_,h,_,_=>by simp [okV] at h
 |.dead,.req _ _,_,h,_,_=>by simp [okV] at h
inductive Wr' where
 |run (v:Vr)
 |dead
 |node (i:Nat) (yes no:Wr')
 |pick (i:Nat) (n:Int) (yes no:Wr')
def okW (run:List Fact->Tree (Out×Hp)):Wr'->List Fact->Bool
 |.run v,F=>okV (run F) v
 |.dead,_=>true
 |.node i y n,F=>okW run y (.tru i true::F)&&okW run n (.tru i false::F)
 |.pick i k y n,F=>okW run y (.isn i k::F)&&okW run n (.non i k::F)
def Qie (σ:Sig) (Q:AVal->Prop):Wr'->List Fact->Prop
 |.run v,F=>vals σ Q v F
 |.dead,F=> ¬Ql σ F
 |.node i y n,F=>Qie σ Q y (.tru i true::F)/\Qie σ Q n (.tru i false::F)
 |.pick i k y n,F=>Qie σ Q y (.isn i k::F)/\Qie σ Q n (.non i k::F)
theorem Qmp {σ:Sig} {Q:AVal->Prop} {run:List Fact->Tree (Out×Hp)}: ∀{W:Wr'} {F:List Fact},okW run W F=true->Qie σ Q W F->Ql σ F-> ∃F',Ql σ F'/\Sat σ (fun x=> ∃v,x.1=.val v/\Qde v=true/\Q v) (run F')
 |.run v,F,h,hv,hF=>⟨F,hF,Qcw h hv hF⟩
 |.dead,_,_,hv,hF=>absurd hF hv
 |.node i y n,F,h,hv,hF=>by
  simp only [okW,Bool.and_eq_true] at h
  cases hb:σ.bval i with
  |true=>exact Qmp h.1 hv.1 (Qbd (.tru i true) hb hF)
  |false=>exact Qmp h.2 hv.2 (Qbd (.tru i false) hb hF)
 |.pick i k y n,F,h,hv,hF=>by
  simp only [okW,Bool.and_eq_true] at h
  rcases Classical.em (σ.ival i=k) with hb|hb
  ·exact Qmp h.1 hv.1 (Qbd (.isn i k) hb hF)
  ·exact Qmp h.2 hv.2 (Qbd (.non i k) hb hF)
theorem Qbjg {P:Program} {X:Ing} {mb:Bool} {fuel d:Nat} {f:FuncId} {args:List AVal} {W:Wr'} {σ:Sig} {Q:AVal->Prop} (hm:P.follows .mixedOrders=true) (hT:okLT X.m X.G X.T=true) (hh: ∀F,Hooks P (cxOf X F)) (h0n:X.n=0)
  (hz: ∀i,σ.ext i=none) (hb:BaseOk X σ) (h:okW (fun F=>(evD P (cxOf X) mb fuel d).1 F f args ⟨[],[]⟩) W []=true) (hv:Qie σ Q W []) {args':Array Value} (ha:LRel ⟨fun _=>none,σ,fun _=>none⟩ args args'.toList) (w:World):
  Calls P f args' w fun e w'=> ∃v u,e=.returned u/\Q v/\VRel ⟨fun _=>none,σ,fun _=>none⟩ v u/\RowKit.Below w.heap.size w w':=by
 obtain ⟨F,hF,hs⟩:=Qmp h hv trivial
 refine (Qbho hm hT hh h0n hz hb hF hs ha w).mono ?_
 rintro e w' ⟨⟨o,hp⟩,⟨v,rfl,hf,hq⟩,g',hg,⟨u,rfl,hu⟩,hB⟩
 exact ⟨v,u,rfl,hq,Qos hg.symm hu hf,hB⟩
def Qee:Tree (Out×Hp)->Bool
 |.leaf x=>match x.1 with
  |.val (.bool true)=>true
  |_=>false
 |.or y n=>Qee y&&Qee n
 |_=>false
theorem Qtv {σ:Sig}: ∀{T:Tree (Out×Hp)},Qee T=true->Sat σ (fun x=>x.1=.val (.bool true)) T
 |.leaf x,h=>by
  simp only [Qee] at h
  split at h
  ·assumption
  ·cases h
 |.or y n,h=>by
  simp only [Qee,Bool.and_eq_true] at h
  exact ⟨Qtv h.1,Qtv h.2⟩
 |.node _ _ _,h=>by simp [Qee] at h
 |.pick _ _ _ _,h=>by simp [Qee] at h
 |.dead,h=>by simp [Qee] at h
 |.req _ _,h=>by simp [Qee] at h
theorem Qbah {P:Program} {X:Ing} {F:List Fact} (hmh:X.mh=noMh) (hin:X.insf=none) (hat:X.atoms=[]) (hph:X.ph=noMh) (h: ∀f args v,(cxOf X F).hook f args=some v-> ∀hp,CallP P (cxOf X F) f args hp (.val v) hp):Hooks P (cxOf X F):=
 ⟨h,fun f args hp v hp' e=>by simp only [cxOf,hmh,noMh,reduceCtorEq] at e,fun f k e=>by simp only [cxOf,hin,reduceCtorEq] at e,fun k b e=>by simp only [cxOf,hat,List.not_mem_nil] at e,fun f args hp v hp' e=>by simp only [cxOf,hph,noMh,reduceCtorEq] at e⟩
theorem Qcb {P:Program} {X:Ing} (hX:X.hook=Qc8) (F:List Fact) (hmh:X.mh=noMh:=by rfl) (hin:X.insf=none:=by rfl) (hat:X.atoms=[]:=by rfl) (hph:X.ph=noMh:=by rfl):Hooks P (cxOf X F):=by
 refine Qbah hmh hin hat hph ?_
 intro f args v h
 simp only [cxOf,hX,Qc8,reduceCtorEq] at h
end Go.Ev
