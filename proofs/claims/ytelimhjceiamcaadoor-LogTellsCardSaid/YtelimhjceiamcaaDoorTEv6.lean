/- The evaluator, part 6. -/
import Derived.LoopN
import Derived.Below
import Derived.Test.YtelimhjceiamcaaDoorTEv5
set_option linter.unusedVariables false
set_option linter.unusedSimpArgs false
set_option linter.unnecessarySimpa false
namespace Go.Ev
def mgHq (ng:Cx) (i:Nat) (h0 a b:Hp):Hp:=
 match Nat.beq a.log.length h0.log.length&&(Nat.beq b.log.length h0.log.length&&(Nat.beq a.heap.length h0.heap.length&&Nat.beq b.heap.length h0.heap.length)) with
 |true=>h0
 |false=>mgHp ng i h0 a b
theorem Qyc {h0 a:Hp} (ta:Touch h0 a) (h1:a.log.length=h0.log.length) (h2:a.heap.length=h0.heap.length):a.heap=h0.heap:=by
 obtain ⟨pa,ea,fa⟩:=ta.log;have:pa=[]:=by
  rw [ea,List.length_append] at h1;exact List.length_eq_zero_iff.1 (by omega)
 subst this;apply List.ext_getElem?;intro j;rcases Nat.lt_or_ge j h0.heap.length with h9|h9
 exact fa j h9 (by simp);rw [List.getElem?_eq_none h9,List.getElem?_eq_none (by omega)]
theorem Qkd {ng:Cx} {i:Nat} {h0 a b:Hp} (ta:Touch h0 a) (tb:Touch h0 b):Touch h0 (mgHq ng i h0 a b):=by
 unfold mgHq;split;exact Touch.refl _;exact Qbjw ta tb
theorem Qre {ng:Cx} {i:Nat} {h0 a b:Hp} (ta:Touch h0 a) (tb:Touch h0 b) {g0 g:Inj} {w0 w:World}:
  (g.sig.b i=true->HRel ng g a.heap w->Ext g0 h0.heap w0 g a.heap w->HRel ng g (mgHq ng i h0 a b).heap w/\Ext g0 h0.heap w0 g (mgHq ng i h0 a b).heap w)/\
  (g.sig.b i=false->HRel ng g b.heap w->Ext g0 h0.heap w0 g b.heap w->HRel ng g (mgHq ng i h0 a b).heap w/\Ext g0 h0.heap w0 g (mgHq ng i h0 a b).heap w):=by
 unfold mgHq;split;rename_i hh;simp only [Bool.and_eq_true,Nat.beq_eq] at hh;obtain ⟨h1,h2,h3,h4⟩:=hh;have ea:=Qyc ta h1 h3;have eb:=Qyc tb h2 h4;exact ⟨fun _ h k=>⟨by rw [<-ea];exact h,by rw [<-ea];rw [ea] at k⊢;exact k⟩,fun _ h k=>⟨by rw [<-eb];exact h,by rw [eb] at k;exact k⟩⟩;exact Qbjv ta tb
def Qxr:Ex->Ex->Bool
 |.normal,.normal=>true
 |.exit i,.exit j=>Nat.beq i j
 |.ret,.ret=>true
 |_,_=>false
theorem Qbm6 {x y:Ex} (h:Qxr x y=true):x=y:=by
 unfold Qxr at h;split at h;rfl;rw [Nat.eq_of_beq_eq_true h];rfl;cases h
def scal (a:AVal):Bool:=
 match skOf a with
 |some _=>true
 |none=>false
mutual
def mgOk:AVal->AVal->Bool
 |.agg l,.agg m=>Qrh l m
 |.tuple l,.tuple m=>Qrh l m
 |.iface t v,.iface t' v'=>Nat.beq t t'&&mgOk v v'
 |a,b=>match scal a with
  |true=>scal b
  |false=>eqV a b
def Qrh:List AVal->List AVal->Bool
 |[],[]=>true
 |a::l,b::m=>mgOk a b&&Qrh l m
 |_,_=>false
end
def Qbjy:Option AVal->Option AVal->Bool
 |some (.ptr _ _),some (.ptr _ _)=>true
 |some (.tuple []),_=>true
 |_,some (.tuple [])=>true
 |some a,some b=>mgOk a b
 |_,_=>true
def Qwo:TT->TT->Bool
 |.n l v r,.n l' v' r'=>Qbjy v v'&&(Qwo l l'&&Qwo r r')
 |_,_=>true
def Qbjx:Option Blk->Option Blk->Bool
 |some (.cells c e),some (.cells c' e')=>Nat.beq e e'&&Qrh c c'
 |some (.map l),some (.map m)=>eqM l m
 |some (.loop _),some (.loop _)=>true
 |some .dfr,some .dfr=>true
 |some .gone,_=>true
 |_,some .gone=>true
 |_,_=>false
def Qwn (n:Nat) (A B:List Blk):List Nat->Bool
 |[]=>true
 |j::ids=>(match Nat.blt j n with
  |true=>Qbjx (A[j]?) (B[j]?)
  |false=>true)&&Qwn n A B ids
def mgO (ng:Cx) (h0:Hp) (i:Nat) (x y:Out×Hp):Option (Out×Hp):=
 match Qwn h0.heap.length x.2.heap y.2.heap (x.2.log.take (x.2.log.length-h0.log.length)++y.2.log.take (y.2.log.length-h0.log.length)) with
 |true=>match x.1,y.1 with
  |.val v,.val u=>match mgV ng i v u with
   |some r=>some (.val r,mgHq ng i h0 x.2 y.2)
   |none=>none
  |_,_=>none
 |false=>none
def mgOr (h0:Hp) (x y:Out×Hp):Option (Out×Hp):=
 match x.1,y.1 with
 |.val v,.val u=>match eqV v u&&(Nat.beq x.2.log.length h0.log.length&&(Nat.beq y.2.log.length h0.log.length&&(Nat.beq x.2.heap.length h0.heap.length&&Nat.beq y.2.heap.length h0.heap.length))) with
  |true=>some (.val v,h0)
  |false=>none
 |_,_=>none
theorem Q9j {h0 a:Hp} (ta:Touch h0 a) (h1:a.log.length=h0.log.length) (h2:a.heap.length=h0.heap.length):a=h0:=by
 have e1:=Qyc ta h1 h2;obtain ⟨pa,ea,_⟩:=ta.log;have:pa=[]:=by
  rw [ea,List.length_append] at h1;exact List.length_eq_zero_iff.1 (by omega)
 rw [this,List.nil_append] at ea;cases a;cases h0;simp only at e1 ea;subst e1;subst ea;rfl
theorem Qbjz {h0:Hp} {x y z:Out×Hp} (tx:Touch h0 x.2) (ty:Touch h0 y.2) (h:mgOr h0 x y=some z):x=z/\y=z:=by
 obtain ⟨x,hx⟩:=x;obtain ⟨y,hy⟩:=y;unfold mgOr at h;simp only at h tx ty;split at h;rename_i v u;split at h;rename_i hc;simp only [Bool.and_eq_true,Nat.beq_eq] at hc;obtain ⟨h1,h2,h3,h4,h5⟩:=hc;cases h;rw [Q9j tx h2 h4,Q9j ty h3 h5,Qbi _ _ h1];exact ⟨rfl,rfl⟩;cases h;cases h
def mgC (ng:Cx) (h0:Hp) (i:Nat) (x y:Ex×Tm×Hp):Option (Ex×Tm×Hp):=
 match Qxr x.1 y.1&&(Qwo x.2.1.tr y.2.1.tr&&Qwn h0.heap.length x.2.2.heap y.2.2.heap (x.2.2.log.take (x.2.2.log.length-h0.log.length)++y.2.2.log.take (y.2.2.log.length-h0.log.length))) with
 |true=>match mgTm ng i x.2.1 y.2.1 with
  |some t=>some (x.1,t,mgHq ng i h0 x.2.2 y.2.2)
  |none=>none
 |false=>none
def WO (ng:Cx) (h0:Hp) (g0:Inj) (w0:World) (x y:Out×Hp):Prop:= ∀e w,OutQ ng h0 g0 w0 x.1 x.2 e w->OutQ ng h0 g0 w0 y.1 y.2 e w
def WC (ng:Cx) (h0:Hp) (g0:Inj) (w0:World) (a0:Act) (x y:Ex×Tm×Hp):Prop:= ∀e a w,Qw ng h0 g0 w0 a0 x e a w->Qw ng h0 g0 w0 a0 y e a w
theorem Qrg {ng:Cx} {h0:Hp} {i:Nat} {x y z:Out×Hp} (tx:Touch h0 x.2) (ty:Touch h0 y.2) (h:mgO ng h0 i x y=some z):Touch h0 z.2/\ ∀(g0:Inj) (w0:World),(g0.sig.b i=true->WO ng h0 g0 w0 x z)/\(g0.sig.b i=false->WO ng h0 g0 w0 y z):=by
 obtain ⟨xo,xh⟩:=x;obtain ⟨yo,yh⟩:=y;unfold mgO at h;simp only at h tx ty;split at h
 rotate_left
 cases h;split at h;rename_i v u;split at h;rename_i r hr;cases h;refine ⟨Qkd tx ty,fun g0 w0=>⟨?_,?_⟩⟩;rintro hb e w ⟨_,g',⟨q,rfl,hq⟩,hH,hE⟩;have hb':g'.sig.b i=true:=by rw [hE.sub.sig];exact hb
 obtain ⟨k1,k2⟩:=(Qre (ng:=ng) (i:=i) tx ty).1 hb' hH hE;exact ⟨Qkd tx ty,g',⟨q,rfl,(Qcb v u r hr g' hH.sig q).1 hb' hq⟩,k1,k2⟩;rintro hb e w ⟨_,g',⟨q,rfl,hq⟩,hH,hE⟩;have hb':g'.sig.b i=false:=by rw [hE.sub.sig];exact hb
 obtain ⟨k1,k2⟩:=(Qre (ng:=ng) (i:=i) tx ty).2 hb' hH hE;exact ⟨Qkd tx ty,g',⟨q,rfl,(Qcb v u r hr g' hH.sig q).2 hb' hq⟩,k1,k2⟩;cases h;cases h
theorem Qih {ng:Cx} {h0:Hp} {i:Nat} {x y z:Ex×Tm×Hp} (tx:Touch h0 x.2.2) (ty:Touch h0 y.2.2) (h:mgC ng h0 i x y=some z):Touch h0 z.2.2/\ ∀(g0:Inj) (w0:World) (a0:Act),(g0.sig.b i=true->WC ng h0 g0 w0 a0 x z)/\(g0.sig.b i=false->WC ng h0 g0 w0 a0 y z):=by
 obtain ⟨xe,xt,xh⟩:=x;obtain ⟨ye,yt,yh⟩:=y;unfold mgC at h;simp only at h tx ty;split at h;rename_i he;simp only [Bool.and_eq_true] at he;have he:=Qbm6 he.1;subst he;split at h;rename_i t hr;cases h;refine ⟨Qkd tx ty,fun g0 w0 a0=>⟨?_,?_⟩⟩;rintro hb e a w ⟨_,g',h1,hH,hE,h2,h3⟩;have hb':g'.sig.b i=true:=by rw [hE.sub.sig];exact hb
 obtain ⟨k1,k2⟩:=(Qre (ng:=ng) (i:=i) tx ty).1 hb' hH hE;exact ⟨Qkd tx ty,g',h1,k1,k2,(Q6s hr g' hH.sig a).1 hb' h2,h3⟩;rintro hb e a w ⟨_,g',h1,hH,hE,h2,h3⟩;have hb':g'.sig.b i=false:=by rw [hE.sub.sig];exact hb
 obtain ⟨k1,k2⟩:=(Qre (ng:=ng) (i:=i) tx ty).2 hb' hH hE;exact ⟨Qkd tx ty,g',h1,k1,k2,(Q6s hr g' hH.sig a).2 hb' h2,h3⟩;cases h;cases h
def eqOf (ng:Cx) (i:Nat) (k:Int):Option Nat:=
 match symS ng (.bin .eql (.symi .i64 i) (.int .i64 k)) with
 |some (.symb j)=>some j
 |_=>none
theorem Qpv {ng:Cx} {V:Sig} (hg:ng.Good V) {i j:Nat} {k:Int} (h:eqOf ng i k=some j):V.b j=decide (V.i i=k):=by
 unfold eqOf at h;split at h;rename_i j' hs;cases h;obtain ⟨q,h1,h2⟩:=Qcp (g:=⟨fun _=>none,V,fun _=>none⟩) hg hs;simp only [Qb,den,binS,intA,if_true,Option.some.injEq] at h1;subst h1;have:=h2 _ (.bool _);generalize hv:Value.bool (V.i i==k)=v at this;cases this;simp only [Value.bool.injEq] at hv;rw [<-hv];rfl;cases h
def mgOP (ng:Cx) (h0:Hp) (i:Nat) (k:Int) (x y:Out×Hp):Option (Out×Hp):=
 match eqOf ng i k with
 |some j=>mgO ng h0 j x y
 |none=>none
def mgCP (ng:Cx) (h0:Hp) (i:Nat) (k:Int) (x y:Ex×Tm×Hp):Option (Ex×Tm×Hp):=
 match eqOf ng i k with
 |some j=>mgC ng h0 j x y
 |none=>none
theorem Qwm {ng:Cx} {h0:Hp} {i:Nat} {k:Int} {x y z:Out×Hp} (tx:Touch h0 x.2) (ty:Touch h0 y.2) (h:mgOP ng h0 i k x y=some z):Touch h0 z.2/\ ∀(g0:Inj) (w0:World),(g0.sig.i i=k->WO ng h0 g0 w0 x z)/\(g0.sig.i i≠k->WO ng h0 g0 w0 y z):=by
 unfold mgOP at h;split at h;rename_i j hj;obtain ⟨t,hw⟩:=Qrg tx ty h;refine ⟨t,fun g0 w0=>⟨fun e en w hq=> ?_,fun e en w hq=> ?_⟩⟩;have hq':=hq;obtain ⟨_,g',_,hH,hE⟩:=hq;have:=Qpv hH.sig hj;rw [hE.sub.sig] at this;exact (hw g0 w0).1 (by rw [this];exact decide_eq_true e) en w hq';have hq':=hq;obtain ⟨_,g',_,hH,hE⟩:=hq;have:=Qpv hH.sig hj;rw [hE.sub.sig] at this;exact (hw g0 w0).2 (by rw [this];exact decide_eq_false e) en w hq';cases h
theorem Qkb {ng:Cx} {h0:Hp} {i:Nat} {k:Int} {x y z:Ex×Tm×Hp} (tx:Touch h0 x.2.2) (ty:Touch h0 y.2.2) (h:mgCP ng h0 i k x y=some z):Touch h0 z.2.2/\ ∀(g0:Inj) (w0:World) (a0:Act),(g0.sig.i i=k->WC ng h0 g0 w0 a0 x z)/\(g0.sig.i i≠k->WC ng h0 g0 w0 a0 y z):=by
 unfold mgCP at h;split at h;rename_i j hj;obtain ⟨t,hw⟩:=Qih tx ty h;refine ⟨t,fun g0 w0 a0=>⟨fun e en a w hq=> ?_,fun e en a w hq=> ?_⟩⟩;have hq':=hq;obtain ⟨_,g',_,hH,hE,_⟩:=hq;have:=Qpv hH.sig hj;rw [hE.sub.sig] at this;exact (hw g0 w0 a0).1 (by rw [this];exact decide_eq_true e) en a w hq';have hq':=hq;obtain ⟨_,g',_,hH,hE,_⟩:=hq;have:=Qpv hH.sig hj;rw [hE.sub.sig] at this;exact (hw g0 w0 a0).2 (by rw [this];exact decide_eq_false e) en a w hq';cases h
def Qj7 (body:List Fact->Tm->Hp->Tree (Ex×Tm×Hp)):Nat->List Fact->Tm->Hp->Tree (Ex×Tm×Hp)
 |0,_,_,_=> .dead
 |n+1,F,t,hp=>Qbj F (body F t hp) fun F' x=>match x with
  |(.normal,t',hp')=>Qj7 body n F' t' hp'
  |x=> .leaf x
def Qo6 (C:CxF) (call:Qbb) (F:List Fact):Qcz:=fun f args hp=>
  match (C F).hook f args with
  |some v=> .ok (v,hp)
  |none=>match (C F).mhook f args hp with
   |some x=> .ok x
   |none=>match call F f args hp with
    |.leaf (.val v,hp')=> .ok (v,hp')
    |.node i _ _=> .ask (.tru i)
    |.pick i c _ _=> .ask (.non i c)
    |.req o _=>match o with
      |.node i _ _=> .ask (.tru i)
      |.pick i c _ _=> .ask (.non i c)
      |_=> .no
    |_=> .no
def Qtw (P:Program) (ng:Cx) (call:Qcz) (ops:Array Oper) (t:Tm) (s:Hp):Res (Tm×Hp):=
 match Qg3 P ng call ops t s with
 |.no=>allS P ng call ops.toList ops.size 0 t s
 |r=>r
def Qon (P:Program) (C:CxF) (call:Qbb) (round:Qbo) (inr:Bool) (ops:Array Oper) (m:Nat):Nat->List Fact->Tm->Hp->Tree (Ex×Tm×Hp)
 |0,_,_,_=> .dead
 |n+1,F,t,hp=>match Qoi ops m with
  |true=>match Qtw P (C F) (Qo6 C call F) (ops.toList.take m).toArray t hp with
   |.ok (t',hp')=>opsT P C call round inr ops.toList (ops.toList.drop m) F t' hp'
   |.ask x=>Qez (fun F=>Qon P C call round inr ops m n F t hp) F (some x)
   |.no=> .dead
  |false=> .dead
def panF (P:Program) (C:CxF) (call:Qbb) (round:Qbo) (ops:Array Oper) (F:List Fact) (t:Tm) (hp:Hp):Option (Tm×AVal×Hp):=none
def Qlw (P:Program) (C:CxF) (call:Qbb) (round:Qbo) (inr:Bool) (ops:Array Oper):Nat->List Fact->Tm->Hp->Tree (Ex×Tm×Hp)
 |0,_,_,_=> .dead
 |n+1,F,t,hp=>match Qtu P (C F) (Qo6 C call F) ops t hp with
  |.ok (t',hp')=> .leaf (.normal,t',hp')
  |.ask x=>Qez (fun F=>Qlw P C call round inr ops n F t hp) F (some x)
  |.no=>match panF P C call round ops F t hp with
   |some x=> .leaf (.pan x.2.1,x.1,x.2.2)
   |none=>match Quy ops ops.size 1 with
    |some m=>Qon P C call round inr ops m 12 F t hp
    |none=> .dead
def Qea (id:Nat) (x:Ex×Tm×Hp):Ex×Tm×Hp:=
 match x with
 |(.exit i,t,hp)=>match Nat.beq i id with
  |true=>(.normal,t,hp)
  |false=>(.exit i,t,hp)
 |x=>x
def Q7y (P:Program) (C:CxF) (call:Qbb) (f:Operand) (ps:Array Tmp) (asg body:Code) (F:List Fact) (t:Tm) (hp:Hp):Tree (Ex×Tm×Hp):=.dead
def Qw7 (P:Program) (C:CxF) (call:Qbb) (round:Qbo) (inr:Bool) (ops:Array Oper) (draw:Bool) (F:List Fact) (t:Tm) (hp:Hp):Tree (Ex×Tm×Hp):=
 match draw with
 |false=>opsT P C call round inr ops.toList ops.toList F t hp
 |true=>Qlw P C call round inr ops 12 F t hp
def Qbq (P:Program) (C:CxF) (mb:Bool) (fuel:Nat) (call:Qbb) (round:Qbo) (inr:Bool):Code->List Fact->Tm->Hp->Tree (Ex×Tm×Hp)
 |.skip,_,t,hp=> .leaf (.normal,t,hp)
 |.label _,_,t,hp=> .leaf (.normal,t,hp)
 |.region _ ops draw,F,t,hp=>match Nat.beq (fuel%2) 1 with
  |true=>mgT (mgC (C F) hp) (mgCP (C F) hp) (fun _ _=>none) (Qw7 P C call round inr ops draw F t hp)
  |false=>Qw7 P C call round inr ops draw F t hp
 |.seq a b,F,t,hp=>Qbj F (Qbq P C mb fuel call round inr a F t hp) fun F' x=>match x with
  |(.normal,t',hp')=>Qbq P C mb fuel call round inr b F' t' hp'
  |x=> .leaf x
 |.cond c a b,F,t,hp=>match ev (C F) t c with
  |some (.bool v)=>match v with
   |true=>Qbq P C mb fuel call round inr a F t hp
   |false=>Qbq P C mb fuel call round inr b F t hp
  |some (.symb i)=> .node i (Qbq P C mb fuel call round inr a (.tru i true::F) t hp) (Qbq P C mb fuel call round inr b (.tru i false::F) t hp)
  |_=> .dead
 |.block id c,F,t,hp=>match mb with
  |true=>mgT (mgC (C F) hp) (mgCP (C F) hp) (fun _ _=>none) (Qbj F (Qbq P C mb fuel call round inr c F t hp) fun _ x=> .leaf (Qea id x))
  |false=>Qbj F (Qbq P C mb fuel call round inr c F t hp) fun _ x=> .leaf (Qea id x)
 |.loop c,F,t,hp=>Qj7 (Qbq P C mb fuel call round inr c) fuel F t hp
 |.exit i,_,t,hp=> .leaf (.exit i,t,hp)
 |.ret,_,t,hp=> .leaf (.ret,t,hp)
 |.rangeFunc f ps asg body,F,t,hp=>match inr with
  |true=> .dead
  |false=>Q7y P C call f ps asg body F t hp
 |_,_,_,_=> .dead
structure CodeOk (P:Program) (C:CxF) (inr:Bool) (c:Code) (run:List Fact->Tm->Hp->Tree (Ex×Tm×Hp)):Prop where
 touch: ∀F t hp,AllT (fun x=>Touch hp x.2.2) (run F t hp)
 wp: ∀F t hp (Q:Ex×Tm×Hp->Prop) (r:Option Nat) g w a,(inr=false->r=none)->HRel (C F) g hp.heap w->FRel g t a->Sat g.sig Q (run F t hp)->
  c.wpIn (FR r) 0 P (fun e a' w'=> ∃x,Q x/\Qw (C F) hp g w a x e a' w') a w
def Qow (call:Qbb):Prop:= ∀F f args hp,AllT (fun x=>Touch hp x.2) (call F f args hp)
def Qyk (round:Qbo):Prop:= ∀F f args hp,AllT (fun x=>Touch hp x.2) (round F f args hp)
structure Env (P:Program) (C:CxF) (call:Qbb) (round:Qbo):Prop where
 mixed:P.follows .mixedOrders=true
 ok:CtxOk C
 hooks: ∀F,Hooks P (C F)
 callT:Qow call
 roundT:Qyk round
 call:Qhv P C call
 round:Qoy P C round
section
variable {P : Program} {C : CxF} {call : Qbb} {round : Qbo}
theorem Qsn {α:Type} {Q:α->Prop} {k:List Fact->Tree α} (hk: ∀F,AllT Q (k F)) (F:List Fact) (x:Option Ask):AllT Q (Qez k F x):=by
 have key: ∀(i:Nat) (l:List Int) (F:List Fact),AllT Q (Qez.picks k i l F):=by
  intro i l;induction l with
  |nil=>intro F;trivial
  |cons c l ih=>intro F;exact ⟨hk _,ih _⟩
 unfold Qez;split;exact ⟨hk _,hk _⟩;exact key _ _ F;exact ⟨hk _,hk _⟩;trivial
theorem Q1j {q x:Nat} {all:List (AVal×AVal)} {hp:Hp} {x0:Nat} {l0:List (AVal×AVal)} {cur:Option (AVal×AVal)} (hb:hp.heap[q]? =some (.iter x0 l0 cur)):
  ∀(l:List (AVal×AVal)) (i:Nat),AllT (fun y=>Touch hp y.2) (Qqa q x all hp i l)
 |[],_=>trivial
 |[p],i=>Qel ⟨_,hb,by simp⟩ (fun la h=>by cases h)
 |p::p'::l,i=>⟨Qel ⟨_,hb,by simp⟩ (fun la h=>by cases h),Q1j hb (p'::l) (i+1)⟩
theorem Qbj3 {q x:Nat} {hp:Hp} {x0:Nat} {l0:List (AVal×AVal)} {cur:Option (AVal×AVal)} (hb:hp.heap[q]? =some (.iter x0 l0 cur)) (l:List (AVal×AVal)):AllT (fun y=>Touch hp y.2) (Q6u q x hp l):=by
 cases l with
 |nil=>exact Touch.refl _
 |cons p l=>exact Q1j hb _ _
theorem Qbc5 {hp:Hp} {b z:Nat} {T1 T2:Tree (Out×Hp)} (hb: ∃c e,hp.heap[b]? =some (.cells c e)) (h1:AllT (fun x=>Touch hp x.2) T1) (h2:AllT (fun x=>Touch hp x.2) T2):AllT (fun x=>Touch hp x.2) (Ql9 hp b z T1 T2):=by
 obtain ⟨c,e,hb⟩:=hb;unfold Ql9;split;split;split;exact Q1g ⟨_,hb,by simp⟩;exact ⟨h1,h2⟩;exact ⟨h1,h2⟩;exact ⟨h1,h2⟩
theorem Qtr (E:Env P C call round) {all:List Oper} {o:Oper}: ∀(n:Nat) (F:List Fact) (t:Tm) (hp:Hp),AllT (fun x=>Touch hp x.2) (Qg1 P C call round all o n F t hp)
 |0,_,_,_=>trivial
 |n+1,F,t,hp=>by
  simp only [Qg1];split;exact Qsn (fun F=>Qtr E n F t hp) _ _;exact Touch.refl _;rename_i hw;split;split;exact E.roundT _ _ _ _;split;split;exact Touch.refl _;split;rename_i hv;exact ((E.hooks F).mem _ _ _ _ _ hv).touch;split;rename_i hfc;exact Qbc5 (Q1d hfc).2 (E.callT _ _ _ _) ((E.callT _ _ _ _).mono fun x hx=>(Q1d hfc).1.trans hx);exact E.callT _ _ _ _;split;rename_i hat;exact Qyy hat;split;exact ⟨Touch.refl _,Touch.refl _⟩;trivial;split;rename_i v hp' ho;exact (Qwx hw ho).touch;split;split;split;exact Touch.refl _;trivial;trivial;split;split;split;rename_i x l cur hb;exact Qbj3 hb l;trivial;trivial;trivial;exact Qsn (fun F=>Qtr E n F t hp) _ _
theorem Qrx (E:Env P C call round) {inr:Bool} {all:List Oper}: ∀(rest:List Oper) (F:List Fact) (t:Tm) (hp:Hp),AllT (fun x=>Touch hp x.2.2) (opsT P C call round inr all rest F t hp)
 |[],_,_,_=>Touch.refl _
 |o::rest,F,t,hp=>by
  simp only [opsT];split
  ·refine Qcf (Q:=fun x=>Touch hp x.2) ?_ (Qtr E 12 F t hp)
   rintro F' ⟨x,hp'⟩ hx;cases x with
   |val v=>exact (Qrx E rest F' _ hp').mono fun y hy=>hx.trans hy
   |pan v=>exact hx
  split;trivial;split;exact Qrx E rest F _ hp;trivial
theorem Qo7 (E:Env P C call round) (F:List Fact):Qhu P (C F) (Qo6 C call F):=by
 intro f args hp v hp' h;unfold Qo6 at h;split at h;rename_i u hu;cases h;exact (E.hooks F).val f args _ hu hp;split at h;rename_i x hx;cases h;exact (E.hooks F).mem f args hp _ _ hx;split at h;rename_i u h' hl;cases h;have ht:=E.callT F f args hp;rw [hl] at ht;refine ⟨ht,fun g w args' hH ha=> ?_⟩;refine (E.call F f args hp (fun x=>x=(.val v,hp')) g w args' hH ha (by rw [hl];exact rfl)).mono ?_;rintro e w' ⟨x,rfl,_,g',h1,h2,h3⟩;exact ⟨g',h1,h2,h3⟩;cases h;cases h;split at h<;>cases h;cases h
theorem Qz2 {P:Program} {ng:Cx} {call:Qcz} {ops:Array Oper} {r:Option Nat} (hcall:Qhu P ng call) {t t':Tm} {shp shp':Hp} (h:Qtw P ng call ops t shp=.ok (t',shp')):
  Touch shp shp'/\ ∀g w a (Q:Exit->Act->World->Prop),HRel ng g shp.heap w->FRel g t a->(∀a' w',Qw ng shp g w a (.normal,t',shp') .normal a' w'->Q .normal a' w')->
   wpAnyIn (FR r) 0 P .any ops (fun e a' w'=>e=.normal/\Q e a' w') ops.size (Array.replicate ops.size false) a w.drew:=by
 unfold Qtw at h;split at h;obtain ⟨h1,h2⟩:=Qld (rr:=r) hcall _ _ _ _ _ h;refine ⟨h1,fun g w a Q hH ht hQ=> ?_⟩;have hd:HRel ng g shp.heap w.drew:=⟨hH.dom,hH.inj,fun i k hi hk=>(hH.blk0 i k hi hk).imp id fun ⟨L,hL,hB⟩=>⟨L,hL,hB.of_same rfl⟩,hH.glob,hH.sig,hH.frz.to rfl rfl (Nat.le_refl _) (Nat.le_refl _) fun b hb q=>⟨rfl,q⟩⟩;refine Qk7 (fun e a' w' q=> ?_) _ _ _ _ (h2 (Array.replicate ops.size false) g w.drew a ⟨by simp,fun i=> ?_⟩ hd ht);have hq:Qw ng shp g w a (.normal,t',shp') e a' w':=by
  obtain ⟨q0,g',q1,q2,q3,q4,q5⟩:=q;exact ⟨q0,g',q1,q2,⟨q3.sub,q3.new,q3.newm,q3.len,q3.live,q3.size,q3.frame,q3.os,q3.tape,q3.output⟩,q4,q5⟩
 obtain ⟨_,g',q1,_⟩:=id hq;cases e<;>first|exact ⟨rfl,hQ _ _ hq⟩|cases q1
 exact ⟨fun hl=>absurd hl (Qrc _ i),fun hl=>by simp at hl⟩;obtain ⟨h1,h2⟩:=Qpi (r:=r) hcall h;exact ⟨h1,fun g w a Q hH ht hQ=>h2 g w a _ hH ht fun a' w' q=>⟨rfl,hQ _ _ q⟩⟩
theorem Qx9 (E:Env P C call round) {ops:Array Oper} {id m:Nat} {inr:Bool}: ∀n,CodeOk P C inr (.region id ops true) (Qon P C call round inr ops m n)
 |0=>⟨fun _ _ _=>trivial,fun _ _ _ _ _ _ _ _ _ _ _ h=>h.elim⟩
 |n+1=>by
  have ih:=Qx9 E (ops:=ops) (id:=id) (m:=m) (inr:=inr) n;constructor;intro F t hp;simp only [Qon];split;split;rename_i t' hp' h;exact (Qrx E _ F t' hp').mono fun x hx=>(Qz2 (r:=none) (Qo7 E F) h).1.trans hx;exact Qsn (fun F=>ih.touch F t hp) _ _;trivial;trivial;intro F t hp Q r g w a hr hH ht hs;simp only [Qon] at hs;split at hs;rename_i hok;have K:=Q86 hok;split at hs;rename_i t1 s1 h1;obtain ⟨a1,a2⟩:=Qz2 (r:=r) (Qo7 E F) h1;refine wpIn_region_any E.mixed ?_;have hsz:(ops.toList.take m).toArray.size=m:=by have:=K.lt;simp;omega
  have hA:=a2 g w a (fun e a' w'=>Qw (C F) hp g w a (.normal,t1,s1) .normal a' w') hH ht (fun a' w' q=>q);rw [hsz] at hA;have key:=Qtb K.weak (F:=FR r) (n:=0) (P:=P) (Q:=fun e a' w'=> ∃x,Q x/\Qw (C F) hp g w a x e a' w') (QA:=fun e a' w'=>e=.normal/\Qw (C F) hp g w a (.normal,t1,s1) .normal a' w') (fun e a w hne h=>absurd h.1 hne)
   (fun listed a' w' hu h=>Qyt K (ops.size-m) m (by have:=K.lt;omega) (Nat.le_refl _) listed a' w' hu (by
    obtain ⟨_,k0,g',k1,k2,k3,k4,k5⟩:=h;exact Qou (fun e a'' w'' ⟨x,hx,q⟩=>⟨x,hx,Qw.trans hH a1 k3 k5 q⟩) _ _ _ (Qrw E.ok E.hooks E.call E.round hr _ F t1 s1 Q g' w' a' k2 k4 (by rw [k3.sub.sig];exact hs)))) m (Array.replicate m false) (Array.replicate ops.size false) a w.drew (by simp) (by simp)
   (fun i=>by unfold Ls;simp [Array.getElem?_replicate];split<;>split<;>simp) (fun i o _ hi=>absurd hi (Qrc m i)) ?_ hA
  rw [show m+(ops.size-m)=ops.size by have:=K.lt;omega] at key;exact key;unfold left;have:((List.range m).countP fun i=> !(Array.replicate m false).getD i false)=(List.range m).length:=by
   rw [List.countP_eq_length];intro i hi;simp [List.mem_range.1 hi]
  rw [this];simp;obtain ⟨F',hF',h'⟩:=Qxt (E.ok.facts hH) hs;refine wpIn_mono (ih.wp F' t hp Q r g w a hr (E.ok.move hH hF') ht h') fun e a' w' ⟨x,hx,hq⟩=>⟨x,hx,hq.move E.ok (E.ok.facts hH)⟩;exact hs.elim;exact hs.elim
theorem Q7m (E:Env P C call round) {ops:Array Oper} {F:List Fact} {t t':Tm} {hp hp':Hp} {v:AVal} (h:panF P C call round ops F t hp=some (t',v,hp')):
  Touch hp hp'/\ ∀(id:Nat) (r:Option Nat) g w a,HRel (C F) g hp.heap w->FRel g t a->(Code.region id ops true).wpIn (FR r) 0 P (Qw (C F) hp g w a (.pan v,t',hp')) a w:=by
 unfold panF at h;cases h
theorem Qz3 (E:Env P C call round) {ops:Array Oper} {id:Nat} {inr:Bool}: ∀n,CodeOk P C inr (.region id ops true) (Qlw P C call round inr ops n)
 |0=>⟨fun _ _ _=>trivial,fun _ _ _ _ _ _ _ _ _ _ _ h=>h.elim⟩
 |n+1=>by
  have ih:=Qz3 E (ops:=ops) (id:=id) (inr:=inr) n;constructor;intro F t hp;simp only [Qlw];split;rename_i t' hp' h;exact (Qz1 (r:=none) E.mixed (Qo7 E F) h).1;exact Qsn (fun F=>ih.touch F t hp) _ _;split;rename_i x hx;exact (Q7m E (t':=x.1) (v:=x.2.1) (hp':=x.2.2) hx).1;split;exact (Qx9 E (id:=id) 12).touch F t hp;trivial;intro F t hp Q r g w a hr hH ht hs;simp only [Qlw] at hs;split at hs;rename_i t' hp' h;exact wpIn_mono ((Qz1 (r:=r) E.mixed (Qo7 E F) h).2 id g w a hH ht) fun e a' w' hq=>⟨_,hs,hq⟩;obtain ⟨F',hF',h'⟩:=Qxt (E.ok.facts hH) hs;refine wpIn_mono (ih.wp F' t hp Q r g w a hr (E.ok.move hH hF') ht h') fun e a' w' ⟨x,hx,hq⟩=>⟨x,hx,hq.move E.ok (E.ok.facts hH)⟩;split at hs;rename_i x hx;exact wpIn_mono ((Q7m E (t':=x.1) (v:=x.2.1) (hp':=x.2.2) hx).2 id r g w a hH ht) fun e a' w' hq=>⟨_,hs,hq⟩;split at hs;exact (Qx9 E (id:=id) 12).wp F t hp Q r g w a hr hH ht hs;exact hs.elim
theorem Q57 (E:Env P C call round) {c:Code} {run:List Fact->Tm->Hp->Tree (Ex×Tm×Hp)} {inr:Bool} (hc:CodeOk P C inr c run): ∀(n:Nat),
  (∀F t hp,AllT (fun x=>Touch hp x.2.2) (Qj7 run n F t hp))/\ ∀F t hp (Q:Ex×Tm×Hp->Prop) (r:Option Nat) g w a,(inr=false->r=none)->HRel (C F) g hp.heap w->FRel g t a->Sat g.sig Q (Qj7 run n F t hp)->
  Code.roundsIn (FR r) 0 P c (fun e a' w'=> ∃x,Q x/\Qw (C F) hp g w a x e a' w') n a w
 |0=>⟨fun _ _ _=>trivial,fun _ _ _ _ _ _ _ _ _ _ _ h=>h.elim⟩
 |n+1=>by
  obtain ⟨i1,i2⟩:=Q57 E hc n;constructor
  ·intro F t hp
   simp only [Qj7];refine Qcf (Q:=fun x=>Touch hp x.2.2) ?_ (hc.touch F t hp);rintro F' ⟨x,t',hp'⟩ hx;cases x with
   |normal=>exact (i1 F' t' hp').mono fun y hy=>hx.trans hy
   |_=>exact hx
  intro F t hp Q r g w a hr hH ht hs;simp only [Qj7] at hs;have hs:=Qck (E.ok.facts hH) hs;refine wpIn_mono (hc.wp F t hp _ r g w a hr hH ht hs) ?_;rintro e a' w' ⟨⟨x,t',hp'⟩,⟨F',hF',q⟩,hq⟩;cases x with
  |normal=>
   obtain ⟨h0,g',h1,h2,h3,h4,h5⟩:=hq;cases e<;>simp only [Qbp] at h1;have hF0:Qo g'.sig F:=by rw [h3.sub.sig];exact E.ok.facts hH
   have:=i2 F' t' hp' Q r g' w' a' hr (E.ok.move h2 (by rw [h3.sub.sig];exact hF')) h4 (by rw [h3.sub.sig];exact q);have key: ∀(m:Nat) (Q1 Q2:Exit->Act->World->Prop) b v,(∀e a w,Q1 e a w->Q2 e a w)->Code.roundsIn (FR r) 0 P c Q1 m b v->Code.roundsIn (FR r) 0 P c Q2 m b v:=by
    intro m;induction m with
    |zero=>intro _ _ _ _ _ h;exact h
    |succ m ihm=>
     intro Q1 Q2 b v hq h;rw [roundsIn_succ] at h⊢;exact wpIn_mono h fun e a w h=>by
      cases e with
      |normal=>exact ihm Q1 Q2 a w hq h
      |_=>exact hq _ _ _ h
   exact key n _ _ a' w' (fun e a w ⟨x,hx,hq⟩=>⟨x,hx,(hq.move E.ok hF0).trans hH h0 h3 h5⟩) this
  |_=>
   obtain ⟨h0,g',h1,h2,h3,h4,h5⟩:=hq;cases e<;>simp only [Qbp] at h1<;>exact ⟨_,q,h0,g',h1,h2,h3,h4,h5⟩
end
end Go.Ev
namespace Go.Ev
section
variable {P : Program} {C : CxF} {call : Qbb} {round : Qbo}
def setW (w:World) (r:Nat) (o:Obj):World:={w with heap:=w.heap.setIfInBounds r o}
theorem Qbnh (w:World) (r:Nat) (o:Obj):Wr r w (setW w r o):=by
 refine ⟨by simp [setW],fun k hk=> ?_,rfl,rfl,rfl⟩;simp only [setW];exact Array.getElem?_setIfInBounds_ne (Ne.symm hk)
theorem Qbk9 (E:Env P C call round) {f:Operand} {ps:Array Tmp} {asg body:Code}:CodeOk P C false (.rangeFunc f ps asg body) (Q7y P C call f ps asg body):=by
 constructor;intro F t hp;trivial;intro F t hp Q r g w a hr hH ht hs;exact hs.elim
end
end Go.Ev
namespace Go.Ev
def Qbk8 (t:Tm):List Nat->List AVal->Tm
 |d::ds,v::vs=>Qbk8 (putA t (some d) v) ds vs
 |_,_=>t
def Qbo7 (b:Nat) (x:Ex×Tm×Hp):Tree (Out×Hp):=
 match x.2.2.heap[b]? with
 |some (.loop l)=>match x.1 with
  |.normal=> .leaf (.val (.bool true),⟨x.2.2.heap.set b (.loop ⟨.ready,none,l.t,l.params,l.assign,l.body,l.dfr⟩),b::x.2.2.log⟩)
  |.ret=> .leaf (.val (.bool false),⟨x.2.2.heap.set b (.loop ⟨.done,some .ret,l.t,l.params,l.assign,l.body,l.dfr⟩),b::x.2.2.log⟩)
  |.exit i=> .leaf (.val (.bool false),⟨x.2.2.heap.set b (.loop ⟨.done,some (.exit i),l.t,l.params,l.assign,l.body,l.dfr⟩),b::x.2.2.log⟩)
  |.pan _=> .dead
 |_=> .dead
def Qxb (P:Program) (C:CxF) (mb:Bool) (fuel:Nat) (call:Qbb) (round:Qbo):Qbo:=fun F b args hp=> .dead
def resA (P:Program) (t:Tm) (H:List Blk):List ResultVar->Option (List AVal)
 |[]=>some []
 |r::l=>match (match r with
   |.tmp i=>t.get i
   |.cell i ty=>match t.get i with
    |some x=>Qgc P ty x H
    |_=>none:Option AVal) with
  |some v=>match resA P t H l with
   |some vs=>some (v::vs)
   |none=>none
  |none=>none
mutual
def Qdl:AVal->Bool
 |.bool _=>true
 |.int _ _=>true
 |.float _ _=>true
 |.str _=>true
 |.nilptr=>true
 |.nilslice=>true
 |.nilmap=>true
 |.nilfunc=>true
 |.niliface=>true
 |.symi _ _=>true
 |.symb _=>true
 |.syms _=>true
 |.func _ f c=>Qh4 f&&Qh4 c
 |.iface _ v=>Qdl v
 |.agg l=>Qh4 l
 |.tuple l=>Qh4 l
 |_=>false
def Qh4:List AVal->Bool
 |[]=>true
 |v::l=>Qdl v&&Qh4 l
end
def Qrv (n:Nat):List Nat->Bool
 |[]=>true
 |i::l=>Nat.ble n i&&Qrv n l
def Qkl:List AVal->AVal
 |[v]=>v
 |vs=> .tuple vs
def Qmk (v:AVal) (s s':Hp):Out×Hp:=
 match Qdl v&&Qrv s.heap.length s'.log with
 |true=>(.val v,s)
 |false=>(.val v,⟨s'.heap,s'.log++s.log⟩)
inductive AMode where
 |ret
 |pan (v:AVal) (rec:Bool)
def Qxx:AMode->AMode
 |.pan v r=>match r with
  |true=> .ret
  |false=> .pan v false
 |.ret=> .ret
def Qmi:Op->Bool
 |.call c=>match c.callee with
  |.builtin b=>match b with
   |.recover=>true
   |_=>false
  |_=>false
 |_=>false
def Q1k:List Oper->Bool
 |[]=>false
 |o::l=>match Qmi o.op with
  |true=>true
  |false=>Q1k l
def opsS (P:Program) (ng:Cx) (ops:Array Oper):List Nat->Tm->AMode->Option (Tm×AMode)
 |[],t,m=>some (t,m)
 |i::l,t,m=>match ops[i]? with
  |none=>none
  |some o=>match o.guard with
   |some _=>none
   |none=>match Qmi o.op with
    |true=>match m with
     |.pan v r=>match r with
      |false=>opsS P ng ops l (putA t o.dst v) (.pan v true)
      |true=>opsS P ng ops l (putA t o.dst .niliface) m
     |.ret=>opsS P ng ops l (putA t o.dst .niliface) m
    |false=>match Qgl P ng t o.op with
     |some r=>opsS P ng ops l (putA t o.dst r) m
     |none=>none
def Q7 (P:Program) (C:CxF) (mb:Bool) (fuel:Nat) (call:Qbb) (round:Qbo):Code->List Fact->Tm->Hp->AMode->Tree ((Ex×Tm×Hp)×AMode)
 |.seq a b,F,t,hp,m=>Qbj F (Q7 P C mb fuel call round a F t hp m) fun F' x=>match x with
  |((.normal,t',hp'),m')=>Q7 P C mb fuel call round b F' t' hp' m'
  |x=> .leaf x
 |.cond c a b,F,t,hp,m=>match ev (C F) t c with
  |some (.bool v)=>match v with
   |true=>Q7 P C mb fuel call round a F t hp m
   |false=>Q7 P C mb fuel call round b F t hp m
  |_=> .dead
 |.block id c,F,t,hp,m=>Qbj F (Q7 P C mb fuel call round c F t hp m) fun _ x=> .leaf (Qea id x.1,x.2)
 |.region id ops draw,F,t,hp,m=>match Q1k ops.toList with
  |true=>match draw with
   |false=>match opsS P (C F) ops (List.range ops.size) t m with
    |some (t',m')=> .leaf ((.normal,t',hp),m')
    |none=> .dead
   |true=> .dead
  |false=>Qbj F (Qbq P C mb fuel call round false (.region id ops draw) F t hp) fun _ x=> .leaf (x,m)
 |c,F,t,hp,m=>Qbj F (Qbq P C mb fuel call round false c F t hp) fun _ x=> .leaf (x,m)
def Qh2 (args:List AVal) (n:Nat):Tm:=⟨n,TT.mk args n Qcm 12 0 1,[]⟩
def Qls (P:Program) (C:CxF) (mb:Bool) (fuel:Nat) (call:Qbb) (round:Qbo) (F:List Fact) (f:FuncId) (args:List AVal) (m:AMode) (hp:Hp):Tree (AMode×Hp):=
 match P.funcs[f]? with
 |some fn=>match fn.body with
  |some c=>Qbj F (Q7 P C mb fuel call round c F (Qh2 args fn.ntmps) hp m) fun _ x=>match x.1.2.1.df with
   |[]=>match x.1.1 with
    |.normal=>match resA P x.1.2.1 x.1.2.2.heap fn.results.toList with
     |some _=> .leaf (x.2,x.1.2.2)
     |none=> .dead
    |.ret=>match resA P x.1.2.1 x.1.2.2.heap fn.results.toList with
     |some _=> .leaf (x.2,x.1.2.2)
     |none=> .dead
    |_=> .dead
   |_=> .dead
  |none=> .dead
 |none=> .dead
def Qf6 (P:Program) (C:CxF) (mb:Bool) (fuel:Nat) (call:Qbb) (round:Qbo):List ADef->List Fact->AMode->Hp->Tree (AMode×Hp)
 |[],_,m,hp=> .leaf (m,hp)
 |.mark b::l,F,m,hp=>match hp.heap[b]? with
  |some .dfr=>Qf6 P C mb fuel call round l F m ⟨hp.heap.set b .gone,b::hp.log⟩
  |_=> .dead
 |.fn fv cap args::l,F,m,hp=>match fv with
  |.func f=>match Qfx P f (args++cap) with
   |some _=>Qbj F (Qls P C mb fuel call round F f (args++cap) m hp) fun F' x=>Qf6 P C mb fuel call round l F' (Qxx x.1) x.2
   |none=> .dead
  |_=> .dead
def Ql0:Ex->Option AMode
 |.pan v=>some (.pan v false)
 |.exit _=>none
 |.normal=>some .ret
 |.ret=>some .ret
def Qpo (P:Program) (fn:Func) (t:Tm) (s:Hp) (y:AMode×Hp):Tree (Out×Hp):=
 match y.1 with
 |.pan v r=>match r with
  |false=> .leaf (.pan v,⟨y.2.heap,y.2.log++s.log⟩)
  |true=> .dead
 |.ret=>match resA P t y.2.heap fn.results.toList with
  |some vs=> .leaf (Qmk (Qkl vs) s y.2)
  |none=> .dead
def Qly (P:Program) (C:CxF) (mb:Bool) (fuel:Nat) (call:Qbb) (round:Qbo) (F:List Fact) (fn:Func) (s:Hp) (x:Ex×Tm×Hp):Tree (Out×Hp):=
 match Ql0 x.1 with
 |some m=>Qbj F (Qf6 P C mb fuel call round x.2.1.df F m x.2.2) fun _ y=>Qpo P fn x.2.1 s y
 |none=> .dead
def Qln (P:Program) (C:CxF) (mb:Bool) (fuel:Nat) (call:Qbb) (round:Qbo):Qbb:=fun F f args hp=>
 match P.funcs[f]? with
 |some fn=>match fn.body with
  |some c=>mgT (mgO (C F) hp) (mgOP (C F) hp) (mgOr hp) (Qbj F (Qbq P C mb fuel call round false c F (Qh2 args fn.ntmps) ⟨hp.heap,[]⟩) fun F' x=>Qly P C mb fuel call round F' fn hp x)
  |none=> .dead
 |none=> .dead
def panB (C:CxF) (call:Qbb):Qbb:=fun F f args hp=>match (C F).phook f args hp with
 |some (v,hp')=> .leaf (.pan v,hp')
 |none=>call F f args hp
def evD (P:Program) (C:CxF) (mb:Bool) (fuel:Nat):Nat->Qbb×Qbo
 |0=>(fun _ _ _ _=> .dead,fun _ _ _ _=> .dead)
 |d+1=>(panB C (Qln P C mb fuel (evD P C mb fuel d).1 (evD P C mb fuel d).2),Qxb P C mb fuel (evD P C mb fuel d).1 (evD P C mb fuel d).2)
section
variable {P : Program} {C : CxF} {call : Qbb} {round : Qbo} {mb : Bool} {fuel : Nat}
theorem Qbne {α:Type} {hp hp':Hp} {f:α->Hp} {T:Tree α} (h:Touch hp hp') (ht:AllT (fun x=>Touch hp' (f x)) T):AllT (fun x=>Touch hp (f x)) T:=ht.mono fun _ hx=>h.trans hx
theorem Q6n (F:List Fact) (hp:Hp) (g:Inj) (w:World) (a:Act) (T:Tree (Ex×Tm×Hp)) (Q:Ex×Tm×Hp->Prop) (hT:AllT (fun x=>Touch hp x.2.2) T):
  AllT (fun x=>Touch hp x.2.2) (mgT (mgC (C F) hp) (mgCP (C F) hp) (fun _ _=>none) T)/\(Sat g.sig Q (mgT (mgC (C F) hp) (mgCP (C F) hp) (fun _ _=>none) T)->Sat g.sig (fun x=> ∃y,Q y/\WC (C F) hp g w a x y) T):=by
 have:=Qfn (V:=g.sig) (W:=WC (C F) hp g w a) (S:=fun x=>Touch hp x.2.2) (f:=mgC (C F) hp) (fp:=mgCP (C F) hp) (fo:=fun _ _=>none) (fun _ _ _ _ h=>h) (fun _ _ _ h k e a w q=>k e a w (h e a w q))
  (fun i x y z sx sy h=>⟨(Qih sx sy h).1,((Qih sx sy h).2 g w a).1,((Qih sx sy h).2 g w a).2⟩)
  (fun i k x y z sx sy h=>⟨(Qkb sx sy h).1,((Qkb sx sy h).2 g w a).1,((Qkb sx sy h).2 g w a).2⟩)
  (fun x y z _ _ h=>by cases h) hT
 exact ⟨this.1,this.2 Q⟩
theorem Qbld (E:Env P C call round) {id:Nat} {ops:Array Oper} {draw inr:Bool}:CodeOk P C inr (.region id ops draw) (Qw7 P C call round inr ops draw):=by
 cases draw with
 |false=>exact ⟨fun F t hp=>Qrx E _ F t hp,fun F t hp Q r g w a hr hH ht hs=>wpIn_region_list (Qrw E.ok E.hooks E.call E.round hr ops.toList F t hp Q g w a hH ht hs)⟩
 |true=>exact Qz3 E 12
theorem Qec (E:Env P C call round): ∀(c:Code) (inr:Bool),CodeOk P C inr c (Qbq P C mb fuel call round inr c)
 |.skip,inr=>⟨fun _ _ _=>Touch.refl _,fun F t hp Q r g w a _ hH ht hs=>wpIn_skip ⟨_,hs,Touch.refl _,g,trivial,hH,Ext.refl _ _ _,ht,rfl⟩⟩
 |.label l,inr=>⟨fun _ _ _=>Touch.refl _,fun F t hp Q r g w a _ hH ht hs=>wpIn_label ⟨_,hs,Touch.refl _,g,trivial,hH,Ext.refl _ _ _,ht,rfl⟩⟩
 |.exit i,inr=>⟨fun _ _ _=>Touch.refl _,fun F t hp Q r g w a _ hH ht hs=>wpIn_exit ⟨_,hs,Touch.refl _,g,rfl,hH,Ext.refl _ _ _,ht,rfl⟩⟩
 |.ret,inr=>⟨fun _ _ _=>Touch.refl _,fun F t hp Q r g w a _ hH ht hs=>wpIn_ret ⟨_,hs,Touch.refl _,g,trivial,hH,Ext.refl _ _ _,ht,rfl⟩⟩
 |.region id ops draw,inr=>by
  have hR:=Qbld E (id:=id) (ops:=ops) (draw:=draw) (inr:=inr);constructor;intro F t hp;simp only [Qbq];split;exact (Q6n F hp ⟨fun _=>none,⟨fun _=>0,fun _=>false,fun _=> .empty,fun _ _=>0,fun _=>none⟩,fun _=>none⟩ default {tmps:= #[],defers:=[]} _ (fun _=>True) (hR.touch F t hp)).1;exact hR.touch F t hp;intro F t hp Q r g w a hr hH ht hs;simp only [Qbq] at hs;split at hs;have hs:=(Q6n F hp g w a _ Q (hR.touch F t hp)).2 hs;exact wpIn_mono (hR.wp F t hp _ r g w a hr hH ht hs) fun e a' w' ⟨x,⟨y,hy,hw⟩,hq⟩=>⟨y,hy,hw e a' w' hq⟩;exact hR.wp F t hp Q r g w a hr hH ht hs
 |.seq x y,inr=>by
  have hx:=Qec E x inr;have hy:=Qec E y inr;constructor
  ·intro F t hp
   simp only [Qbq];refine Qcf (Q:=fun x=>Touch hp x.2.2) ?_ (hx.touch F t hp);rintro F' ⟨e,t',hp'⟩ h;cases e with
   |normal=>exact Qbne h (hy.touch F' t' hp')
   |_=>exact h
  intro F t hp Q r g w a hr hH ht hs;simp only [Qbq] at hs;have hs:=Qck (E.ok.facts hH) hs;refine wpIn_seq (wpIn_mono (hx.wp F t hp _ r g w a hr hH ht hs) ?_);rintro e a' w' ⟨⟨x,t',hp'⟩,⟨F',hF',q⟩,h0,g',h1,h2,h3,h4,h5⟩;have hF0:Qo g'.sig F:=by rw [h3.sub.sig];exact E.ok.facts hH
  cases x with
  |normal=>
   cases e<;>simp only [Qbp] at h1;exact wpIn_mono (hy.wp F' t' hp' Q r g' w' a' hr (E.ok.move h2 (by rw [h3.sub.sig];exact hF')) h4 (by rw [h3.sub.sig];exact q)) fun e a w ⟨x,hx,hq⟩=>⟨x,hx,(hq.move E.ok hF0).trans hH h0 h3 h5⟩
  |_=>cases e<;>simp only [Qbp] at h1<;>exact ⟨_,q,h0,g',h1,h2,h3,h4,h5⟩
 |.cond c x y,inr=>by
  have hx:=Qec E x inr;have hy:=Qec E y inr;constructor;intro F t hp;simp only [Qbq];split;split;exact hx.touch F t hp;exact hy.touch F t hp;exact ⟨hx.touch _ t hp,hy.touch _ t hp⟩;trivial;intro F t hp Q r g w a hr hH ht hs;simp only [Qbq] at hs;split at hs;rename_i v hc;have hv:=ht.1.eval hH.sig hH.glob hc;split at hs;exact wpIn_cond_true (rel_bool0 hv) (hx.wp F t hp Q r g w a hr hH ht hs);exact wpIn_cond_false (rel_bool0 hv) (hy.wp F t hp Q r g w a hr hH ht hs)
  ·rename_i i hc
   have hv:=ht.1.eval hH.sig hH.glob hc;have hF:=E.ok.facts hH;cases hb:g.sig.b i with
   |true=>
    have hF':Qo g.sig (.tru i true::F):=Qbm _ hb hF;refine wpIn_cond_true (by generalize a.eval c=u at hv;cases hv;rw [hb]) (wpIn_mono (hx.wp _ t hp Q r g w a hr (E.ok.move hH hF') ht (hs.1 hb)) fun e a w ⟨x,hx,hq⟩=>⟨x,hx,hq.move E.ok hF⟩)
   |false=>
    have hF':Qo g.sig (.tru i false::F):=Qbm _ hb hF;refine wpIn_cond_false (by generalize a.eval c=u at hv;cases hv;rw [hb]) (wpIn_mono (hy.wp _ t hp Q r g w a hr (E.ok.move hH hF') ht (hs.2 hb)) fun e a w ⟨x,hx,hq⟩=>⟨x,hx,hq.move E.ok hF⟩)
  exact hs.elim
 |.block id c,inr=>by
  have hc:=Qec E c inr;have hX: ∀(x:Ex×Tm×Hp),(Qea id x).2=x.2:=by
   rintro ⟨e,t,hp⟩;unfold Qea;split;rename_i i t' hp' he;cases he;split<;>rfl;rfl
  have htB: ∀F t hp,AllT (fun x=>Touch hp x.2.2) (Qbj F (Qbq P C mb fuel call round inr c F t hp) fun _ x=> .leaf (Qea id x)):=by
   intro F t hp;refine Qcf (Q:=fun x=>Touch hp x.2.2) ?_ (hc.touch F t hp);intro F' x h;show Touch hp (Qea id x).2.2;rw [hX];exact h
  have hwB: ∀F t hp (Q:Ex×Tm×Hp->Prop) (r:Option Nat) g w a,(inr=false->r=none)->HRel (C F) g hp.heap w->FRel g t a->Sat g.sig Q (Qbj F (Qbq P C mb fuel call round inr c F t hp) fun _ x=> .leaf (Qea id x))->
    (Code.block id c).wpIn (FR r) 0 P (fun e a' w'=> ∃x,Q x/\Qw (C F) hp g w a x e a' w') a w:=by
   intro F t hp Q r g w a hr hH ht hs;have hs:=Qck (E.ok.facts hH) hs;refine wpIn_block (wpIn_mono (hc.wp F t hp _ r g w a hr hH ht hs) ?_);rintro e a' w' ⟨⟨x,t',hp'⟩,⟨F',hF',q⟩,h0,g',h1,h2,h3,h4,h5⟩;simp only [Sat] at q;cases x with
   |exit i=>
    cases e<;>simp only [Qbp] at h1;subst h1;simp only [Qea] at q;simp only [Exit.inBlock];split at q;rename_i hi;rw [if_pos (Nat.eq_of_beq_eq_true hi)];exact ⟨_,q,h0,g',trivial,h2,h3,h4,h5⟩;rename_i hi;rw [if_neg (Nat.ne_of_beq_eq_false hi)];exact ⟨_,q,h0,g',rfl,h2,h3,h4,h5⟩
   |normal=>cases e<;>simp only [Qbp] at h1<;>exact ⟨_,q,h0,g',trivial,h2,h3,h4,h5⟩
   |ret=>cases e<;>simp only [Qbp] at h1<;>exact ⟨_,q,h0,g',trivial,h2,h3,h4,h5⟩
   |pan v=>cases e<;>simp only [Qbp] at h1<;>exact ⟨_,q,h0,g',h1,h2,h3,h4,h5⟩
  have mg: ∀F hp g w a (T:Tree (Ex×Tm×Hp)) (Q:Ex×Tm×Hp->Prop),AllT (fun x=>Touch hp x.2.2) T->AllT (fun x=>Touch hp x.2.2) (mgT (mgC (C F) hp) (mgCP (C F) hp) (fun _ _=>none) T)/\(Sat g.sig Q (mgT (mgC (C F) hp) (mgCP (C F) hp) (fun _ _=>none) T)->Sat g.sig (fun x=> ∃y,Q y/\WC (C F) hp g w a x y) T):=by
   intro F hp g w a T Q hT;have:=Qfn (V:=g.sig) (W:=WC (C F) hp g w a) (S:=fun x=>Touch hp x.2.2) (f:=mgC (C F) hp) (fp:=mgCP (C F) hp) (fo:=fun _ _=>none) (fun _ _ _ _ h=>h) (fun _ _ _ h k e a w q=>k e a w (h e a w q))
    (fun i x y z sx sy h=>⟨(Qih sx sy h).1,((Qih sx sy h).2 g w a).1,((Qih sx sy h).2 g w a).2⟩)
    (fun i k x y z sx sy h=>⟨(Qkb sx sy h).1,((Qkb sx sy h).2 g w a).1,((Qkb sx sy h).2 g w a).2⟩)
    (fun x y z _ _ h=>by cases h) hT
   exact ⟨this.1,this.2 Q⟩
  cases mb with
  |false=>exact ⟨htB,hwB⟩
  |true=>
   constructor;intro F t hp;exact (mg F hp ⟨fun _=>none,⟨fun _=>0,fun _=>false,fun _=> .empty,fun _ _=>0,fun _=>none⟩,fun _=>none⟩ default {tmps:= #[],defers:=[]} _ (fun _=>True) (htB F t hp)).1;intro F t hp Q r g w a hr hH ht hs;simp only [Qbq] at hs;have hs:=(mg F hp g w a _ Q (htB F t hp)).2 hs;exact wpIn_mono (hwB F t hp _ r g w a hr hH ht hs) fun e a' w' ⟨x,⟨y,hy,hw⟩,hq⟩=>⟨y,hy,hw e a' w' hq⟩
 |.loop c,inr=>by
  have hc:=Qec E c inr;have:=Q57 E hc fuel;exact ⟨this.1,fun F t hp Q r g w a hr hH ht hs=>wpIn_loop_rounds fuel (this.2 F t hp Q r g w a hr hH ht hs)⟩
 |.rangeFunc f ps asg body,inr=>by
  cases inr with
  |true=>exact ⟨fun _ _ _=>trivial,fun _ _ _ _ _ _ _ _ _ _ _ h=>h.elim⟩
  |false=>exact Qbk9 E
 |.scope _,inr=>⟨fun _ _ _=>trivial,fun _ _ _ _ _ _ _ _ _ _ _ h=>h.elim⟩
 |.goto _,inr=>⟨fun _ _ _=>trivial,fun _ _ _ _ _ _ _ _ _ _ _ h=>h.elim⟩
 |.refuse _,inr=>⟨fun _ _ _=>trivial,fun _ _ _ _ _ _ _ _ _ _ _ h=>h.elim⟩
where rel_bool0 {g:Inj} {b:Bool} {u:Value} (h:VRel g (.bool b) u):u=.bool b:=by cases h;rfl
end
end Go.Ev
set_option linter.unusedVariables false
namespace Go.Ev
set_option linter.unusedVariables false
set_option linter.unusedSimpArgs false
set_option linter.unnecessarySimpa false
section
variable {P : Program} {C : CxF} {call : Qbb} {round : Qbo} {mb : Bool} {fuel : Nat}
theorem Qblo (E:Env P C call round):Qyk (Qxb P C mb fuel call round):=by
 intro F b args hp;trivial
theorem Qbln (E:Env P C call round):Qoy P C (Qxb P C mb fuel call round):=by
 intro F b args hp Q g w args' L r hH hL ha hs;exact hs.elim
end
section
variable {P : Program} {ng : Cx}
mutual
theorem Qqe {g g':Inj} (hs:g'.sig=g.sig): ∀{a:AVal} {v:Value},VRel g a v->Qdl a=true->VRel g' a v
 |_,_,.bool b,_=> .bool b
 |_,_,.int k n,_=> .int k n
 |_,_,.float k n,_=> .float k n
 |_,_,.str s,_=> .str s
 |_,_,.nilptr,_=> .nilptr
 |_,_,.ptr _ _ _ _,h=>by simp [Qdl] at h
 |_,_,.nilslice,_=> .nilslice
 |_,_,.slice _ _ _ _ _ _ _ _ _ _ _ _,h=>by simp [Qdl] at h
 |_,_,.nilmap,_=> .nilmap
 |_,_,.map _ _ _,h=>by simp [Qdl] at h
 |_,_,.nilfunc,_=> .nilfunc
 |_,_,.func fn f c f' c' h1 h2,h=>by
  simp only [Qdl,Bool.and_eq_true] at h;exact .func fn f c f' c' (Qmd hs h1 h.1) (Qmd hs h2 h.2)
 |_,_,.niliface,_=> .niliface
 |_,_,.symi k i,_=>by rw [<-hs];exact .symi k i
 |_,_,.symb i,_=>by rw [<-hs];exact .symb i
 |_,_,.syms i,_=>by rw [<-hs];exact .syms i
 |_,_,.iface t v v' h1,h=>by
  simp only [Qdl] at h;exact .iface t v v' (Qqe hs h1 h)
 |_,_,.agg l l' h1,h=>by
  simp only [Qdl] at h;exact .agg l l' (Qmd hs h1 h)
 |_,_,.tuple l l' h1,h=>by
  simp only [Qdl] at h;exact .tuple l l' (Qmd hs h1 h)
theorem Qmd {g g':Inj} (hs:g'.sig=g.sig): ∀{a:List AVal} {v:List Value},LRel g a v->Qh4 a=true->LRel g' a v
 |_,_,.nil,_=> .nil
 |_,_,.cons a v l m h1 h2,h=>by
  simp only [Qh4,Bool.and_eq_true] at h;exact .cons a v l m (Qqe hs h1 h.1) (Qmd hs h2 h.2)
end
theorem Q7a {n:Nat}: ∀{l:List Nat},Qrv n l=true-> ∀i,i<n->i∉l
 |[],_,_,_=>by simp
 |j::l,h,i,hi=>by
  simp only [Qrv,Bool.and_eq_true,Nat.ble_eq] at h;simp only [List.mem_cons,not_or];exact ⟨by omega,Q7a h.2 i hi⟩
def Qsb (tmps:Array Value):ResultVar->Sem Value
 |.tmp t=>pure (tmps.getD t undef)
 |.cell x t=>do loadVar t (<-asAddr (tmps.getD x undef))
theorem Qblk (fn:Func) (tmps:Array Value):results fn tmps=(do
  let vs<-fn.results.mapM (Qsb tmps)
  pure (if h:vs.size=1 then vs[0] else .tuple vs)):=by
 unfold results
 congr 2
theorem Q77 {g:Inj} {H:List Blk} {w:World} {t:Tm} {a:Act} (hH:HRel ng g H w) (ht:TRel g t a): ∀(l:List ResultVar) (vs:List AVal),resA P t H l=some vs->
  ∃us:List Value,(l.mapM (Qsb a.tmps)).run P w=.ok us w/\LRel g vs us
 |[],vs,h=>by simp [resA] at h;subst h;exact ⟨[],by simp,.nil⟩
 |r::l,vs,h=>by
  simp only [resA] at h;split at h;rename_i v hv;split at h
  ·rename_i vs' hvs
   cases h;obtain ⟨us,h1,h2⟩:=Q77 hH ht l vs' hvs;cases r with
   |tmp i=>
    simp only at hv;obtain ⟨u,k1,k2⟩:=ht.2 i v hv;refine ⟨u::us,?_,.cons _ _ _ _ k2 h2⟩;rw [List.mapM_cons];simp only [Qsb,Sem.run_bind,Sem.run_pure,Result.andThen_ok,h1];simp [k1]
   |cell i ty=>
    simp only at hv;split at hv;rename_i x hx;obtain ⟨u,k1,k2⟩:=ht.2 i x hx;obtain ⟨y,m1,m2⟩:=Q8k (P:=P) hH hv k2;refine ⟨y::us,?_,.cons _ _ _ _ m2 h2⟩;rw [List.mapM_cons];have hu: ∃ad,u=.pointer (some ad):=by
     unfold Qgc at hv;split at hv;cases k2;exact ⟨_,rfl⟩;cases hv
    obtain ⟨ad,rfl⟩:=hu;have m1':(loadVar ty ad).run P w=.ok y w:=by simpa [Instr.loadAt,Instr.sureAddr] using m1
    simp only [Qsb,Sem.run_bind,Array.getD_eq_getD_getElem?,k1,Option.getD_some,asAddr,Sem.run_pure,Result.andThen_ok,m1',h1];cases hv
  cases h;cases h
theorem Qsc {g:Inj} {H:List Blk} {w:World} {t:Tm} {a:Act} (hH:HRel ng g H w) (ht:TRel g t a) {fn:Func} {vs:List AVal} (h:resA P t H fn.results.toList=some vs):
  ∃u,(results fn a.tmps).run P w=.ok u w/\VRel g (Qkl vs) u:=by
 obtain ⟨us,h1,h2⟩:=Q77 (P:=P) hH ht fn.results.toList vs h;have hl:=h2.length;rw [Qblk,Array.mapM_eq_mapM_toList];simp only [Sem.run_bind,Sem.run_map,Sem.run_pure];rw [h1];simp only [Result.andThen_ok];cases h2 with
 |nil=>exact ⟨.tuple #[],by simp,.tuple _ _ .nil⟩
 |cons b v l m hb hl'=>
  cases hl' with
  |nil=>exact ⟨v,by simp,by simpa [Qkl] using hb⟩
  |cons b' v' l' m' hb' hl''=>
   refine ⟨.tuple (v::v'::m').toArray,by simp,?_⟩;exact .tuple _ _ (by simpa using LRel.cons b v _ _ hb (.cons b' v' _ _ hb' hl''))
theorem Q0l {g:Inj} {args:List AVal} {args':Array Value} (h:LRel g args args'.toList) (n:Nat):
  TRel g (Qh2 args n) {tmps:=args'++Array.replicate (n-args'.size) undef,defers:=[]}:=by
 have hl:=h.length;simp at hl;refine ⟨by simp [Qh2];omega,?_⟩;intro i v hi;have hlt:i<n:=Tm.get_lt hi;have hv:=TT.get_mk _ _ _ _ _ _ _ _ (Tm.get_tr hi);simp only [Nat.zero_add,Nat.one_mul] at hv;rcases Nat.lt_or_ge i args.length with h9|h9
 obtain ⟨u,k1,k2⟩:=h.get i args[i] (by simp [h9]);refine ⟨u,?_,?_⟩;rw [Array.getElem?_append_left (by omega)];simpa using k1;rw [hv];simpa [List.getD_eq_getElem?_getD,h9] using k2;refine ⟨undef,?_,?_⟩;rw [Array.getElem?_append_right (by omega),Array.getElem?_replicate,if_pos (by omega)];rw [hv,List.getD_eq_getElem?_getD,List.getElem?_eq_none h9];exact .tuple _ _ .nil
theorem Qbc9 {g g':Inj} {H H':List Blk} {w w':World} (h:HRel ng g H w) (h':HRel ng g' H' w') (hE:Ext g H w g' H' w') (hsame: ∀i,i<H.length->H'[i]? =H[i]?):HRel ng g H w'/\Ext g H w g H w':=by
 constructor
 ·refine ⟨fun i L hi=>⟨(h.dom i L hi).1,Nat.lt_of_lt_of_le (h.dom i L hi).2 hE.size⟩,h.inj,?_,h.glob,h.sig,⟨fun i X hi hl=>⟨(h'.frz.row i X (by rw [hE.sub.sig];exact hi) hl).1,(h.frz.row i X hi hl).2⟩,fun i X hi=>⟨(h.frz.mp i X hi).1,(h'.frz.mp i X (hE.sub.mp i X hi)).2.1,(h.frz.mp i X hi).2.2⟩,fun i X hi hX=>Nat.lt_of_lt_of_le (h.frz.top i X hi hX) hE.size⟩⟩
  intro i k hi hk;rcases h.blk0 i k hi hk with hz|⟨L,hL,hB⟩
  exact .inl hz;have hil:i<H.length:=(List.getElem?_eq_some_iff.1 hi).1;rcases h'.blk0 i k (by rw [hsame i hil];exact hi) hk with hz|⟨L',hL',hB'⟩
  exact .inl (hz.mono hE.sub.sig.symm);refine .inr ⟨L,hL,?_⟩;have:=hE.sub i L hL;rw [this] at hL';cases hL';cases k with
  |gone=>trivial
  |map l=>
   obtain ⟨_,_,es1,_,_,b3,_⟩:=hB;obtain ⟨es,cl,es',d1,d2,d3,d4⟩:=hB';exact ⟨es,cl,es',d1,d2,MRel.back hE.sub b3 d3,d4⟩
  |iter x l cur=>
   obtain ⟨X,_,es1,b0,b1,_,_,b4,b5⟩:=hB;obtain ⟨X',seen,es',d0,d1,d2,d3,d4,d5⟩:=hB';have:=hE.sub.mp _ _ b1;rw [this] at d1;cases d1;refine ⟨_,seen,es',b0,b1,d2,d3,MRel.back hE.sub b4 d4,fun k v e=> ?_⟩;obtain ⟨e1,s0,_,_,c3,c4⟩:=b5 k v e;obtain ⟨e2,s1,f1,f2,f3,f4⟩:=d5 k v e;exact ⟨e2,s1,f1,f2,VRel.back' hE.sub c3 f3,VRel.back' hE.sub c4 f4⟩
  |loop la=>
   obtain ⟨r,b1,b2,b3,b4,b5,b6,b7,D,b8,b9⟩:=hB;obtain ⟨r',d1,d2,d3,d4,d5,d6,d7,D',d8,d9⟩:=hB';have hD:=hE.sub _ _ b8;rw [hD] at d8;cases d8;refine ⟨r',d1,d2,d3,⟨d4.1,fun j v hv=> ?_⟩,d5,d6,d7,D,b8,d9⟩;obtain ⟨u,_,m2⟩:=b4.2 j v hv;obtain ⟨u',n1,n2⟩:=d4.2 j v hv;exact ⟨u',n1,VRel.back' hE.sub m2 n2⟩
  |dfr=>exact hB'
  |cells c e=>
   obtain ⟨C,fr,_,_,_,_,b5⟩:=hB;obtain ⟨C',fr',d1,d2,d3,d4,d5⟩:=hB';refine ⟨C',fr',d1,d2,d3,d4,?_⟩;intro j x hj;obtain ⟨v,_,m2,_⟩:=b5 j x hj;obtain ⟨v',n1,n2,n3⟩:=d5 j x hj;exact ⟨v',n1,VRel.back' hE.sub m2 n2,n3⟩
  |lst s n cl e=>
   obtain ⟨S,N,_,_,_,p1,p2,_,_,_,_,_,p8⟩:=hB;obtain ⟨S',N',C',fr',e9,d1,d2,d3,d4,d5,d6,d7,d8⟩:=hB';rw [hE.sub.sig] at d1 d2 d6;have eN:N'=N:=by rw [p2] at d2;cases d2;rfl
   have eS:S'=S:=by rw [p1] at d1;cases d1;rfl
   subst eN;subst eS;refine ⟨S',N',C',fr',e9,d1,d2,d3,d4,d5,d6,d7,fun m j hm hj=> ?_⟩;obtain ⟨v,_,m2,_⟩:=p8 m j hm hj;obtain ⟨v',n1,n2,n3⟩:=d8 m j hm hj;exact ⟨v',n1,VRel.back' hE.sub m2 n2,n3⟩
 exact ⟨Sub.refl g,(fun i L hi hn=>by rw [hn] at hi;cases hi),(fun i L hi hn=>by rw [hn] at hi;cases hi),Nat.le_refl _,fun _ _ hl=>hl,hE.size,hE.frame,hE.os,hE.tape,hE.output⟩
end
section
variable {P : Program} {C : CxF} {call : Qbb} {round : Qbo} {mb : Bool} {fuel : Nat}
theorem Qbm2 {w:World} {r:Nat} (h:w.heap[r]? =some (.deferred (some []))):(Instr.takeDeferred r).run P w=.ok [] (setW w r (.deferred none)):=by
 simp [Instr.takeDeferred,getObj,setObj,Sem.run,h,setW]
theorem Qsz {F:Fence} {n:Nat} {c:Code} {Q Q':Exit->Act->List Frame->World->Prop} {a:Act} {cs:List Frame} {w:World} (h:c.wpSIn F n P Q a cs w) (hq: ∀e a cs w,Q e a cs w->Q' e a cs w):c.wpSIn F n P Q' a cs w:=
 fun b k h1 h2 h3 h4=>let ⟨e,a',cs',w',l,q,r⟩:=h b k h1 h2 h3 h4;⟨e,a',cs',w',l,hq _ _ _ _ q,r⟩
def Qqf (id:Nat) (Q:Exit->Act->List Frame->World->Prop):Exit->Act->List Frame->World->Prop
 |.exit j,a,cs,w=>if j=id then Q .normal a cs w else Q (.exit j) a cs w
 |e,a,cs,w=>Q e a cs w
theorem Qbo2 {F:Fence} {n:Nat} {id:Nat} {c:Code} {Q:Exit->Act->List Frame->World->Prop} {a:Act} {cs:List Frame} {w:World} (h:c.wpSIn F n P (Qqf id Q) a cs w):(Code.block id c).wpSIn F n P Q a cs w:=by
 intro b k hk hro hb hr;have h0:(lone (b.atR a (.code (.block id c)::k)) cs w).fenced P F:=fenced_calm hb hr rfl;obtain ⟨e,a₁,cs₁,w₁,hl,hq,harr⟩:=h b (.inBlock id::k) hk hro hb hr;cases e with
 |normal=>exact ⟨.normal,a₁,cs₁,w₁,hl,hq,.head h0 stepR_block (StepsIn.trans harr (.one (fenced_calm hb (hl▸hr) rfl) stepR_inBlock))⟩
 |exit id'=>
  by_cases hid:id'=id;simp only [Qqf,hid,if_true] at hq;exact ⟨.normal,a₁,cs₁,w₁,hl,hq,.head h0 stepR_block (harr.1 k (by simp [exitTo,hid]))⟩;simp only [Qqf,hid,if_false] at hq;have this:(id==id')=false:=by simp;exact fun h=>hid h.symm
  have hx:exitTo id' (.inBlock id::k)=exitTo id' k:=by simp [exitTo,this]
  exact ⟨.exit id',a₁,cs₁,w₁,hl,hq,fun k' hk=> .head h0 stepR_block (harr.1 k' (by rw [hx];exact hk)),
   fun hr' hk=>let ⟨k₁,h1,h2⟩:=harr.2 hr' (by rw [hx];exact hk);⟨k₁,h1,.head h0 stepR_block h2⟩⟩
 |goto l=>
  have hx:gotoIn l (.inBlock id::k)=gotoIn l k:=by simp [gotoIn]
  exact ⟨_,a₁,cs₁,w₁,hl,hq,fun k' hk=> .head h0 stepR_block (harr.1 k' (by rw [hx];exact hk)),
   fun hr' hk=>let ⟨k₁,h1,h2⟩:=harr.2 hr' (by rw [hx];exact hk);⟨k₁,h1,.head h0 stepR_block h2⟩⟩
 |ret=>exact ⟨_,a₁,cs₁,w₁,hl,hq,.of_steps (.one h0 stepR_block) harr⟩
 |panic ch=>exact ⟨_,a₁,cs₁,w₁,hl,hq,.of_steps (.one h0 stepR_block) harr⟩
 |outgrown=>exact ⟨_,a₁,cs₁,w₁,hl,hq,.of_steps (.one h0 stepR_block) harr⟩
def Qcd (g:Inj):AMode->FrameMode->Prop
 |.ret,u=>u=.returning
 |.pan v r,u=> ∃x,u=.panicking [{v:=x,recovered:=r}]/\VRel g v x
theorem Qcd.mono {g g':Inj} (hs:Sub g g'): ∀{m:AMode} {u:FrameMode},Qcd g m u->Qcd g' m u
 |.ret,_,h=>h
 |.pan _ _,_,⟨x,h1,h2⟩=>⟨x,h1,h2.mono hs⟩
theorem Qcd.run {g:Inj}: ∀{m:AMode} {u:FrameMode},Qcd g m u->u≠.run
 |.ret,_,h=>by subst h;simp
 |.pan _ _,_,⟨x,h1,_⟩=>by subst h1;simp
theorem Qcd.settle {g:Inj}: ∀{m:AMode} {u:FrameMode},Qcd g m u->Qcd g (Qxx m) (Go.settle u)
 |.ret,_,h=>by subst h;rfl
 |.pan v r,_,⟨x,h1,h2⟩=>by
  subst h1;cases r with
  |true=>rfl
  |false=>exact ⟨x,rfl,h2⟩
def Qfr (ng:Cx) (hp:Hp) (g:Inj) (w:World) (a:Act) (c0:Frame) (cs:List Frame) (x:(Ex×Tm×Hp)×AMode) (e:Exit) (a':Act) (cs':List Frame) (w':World):Prop:=
 Touch hp x.1.2.2/\ ∃g',Qbp g' x.1.1 e/\HRel ng g' x.1.2.2.heap w'/\Ext g hp.heap w g' x.1.2.2.heap w'/\FRel g' x.1.2.1 a'/\a'.tmps.size=a.tmps.size/\ ∃u',cs'={c0 with mode:=u'}::cs/\Qcd g' x.2 u'
theorem Qfr.trans {ng:Cx} {hp hp':Hp} {x:(Ex×Tm×Hp)×AMode} {g g':Inj} {w w':World} {a a':Act} {u:FrameMode} {c0:Frame} {cs cs'':List Frame} {e:Exit} {a'':Act} {w'':World} (h0:HRel ng g hp.heap w) (ht:Touch hp hp') (hE:Ext g hp.heap w g' hp'.heap w')
  (hs:a'.tmps.size=a.tmps.size) (h:Qfr ng hp' g' w' a' {c0 with mode:=u} cs x e a'' cs'' w''):Qfr ng hp g w a c0 cs x e a'' cs'' w'':=by
 obtain ⟨h0',g'',h1,h2,h3,h4,h5,u',h6,h7⟩:=h;exact ⟨ht.trans h0',g'',h1,h2,hE.trans h0 h3,h4,h5.trans hs,u',h6,h7⟩
theorem Qfr.move {C:CxF} (hC:CtxOk C) {F F':List Fact} {hp:Hp} {x:(Ex×Tm×Hp)×AMode} {g:Inj} {w:World} {a:Act} {c0:Frame} {cs cs':List Frame} {e:Exit} {a':Act} {w':World} (hF:Qo g.sig F) (h:Qfr (C F') hp g w a c0 cs x e a' cs' w'):Qfr (C F) hp g w a c0 cs x e a' cs' w':=by
 obtain ⟨h0,g',h1,h2,h3,h4,h5,h6⟩:=h;exact ⟨h0,g',h1,hC.move h2 (by rw [h3.sub.sig];exact hF),h3,h4,h5,h6⟩
theorem Qbdt {op:Op} (h:Qmi op=true): ∃c,op=.call c/\c.callee=.builtin .recover:=by
 unfold Qmi at h;split at h;rename_i c;split at h;rename_i b hb;split at h;exact ⟨c,rfl,hb⟩;cases h;cases h;cases h
theorem Qn7 {ng:Cx} {ops:Array Oper} {g:Inj} {H:List Blk} {w:World} (hH:HRel ng g H w) {Q:Exit->Act->List Frame->World->Prop} {c0:Frame} {cs:List Frame}: ∀(l:List Nat) (t t':Tm) (m m':AMode) (u:FrameMode) (a:Act),opsS P ng ops l t m=some (t',m')->FRel g t a->Qcd g m u->
  (∀a' u',FRel g t' a'->a'.tmps.size=a.tmps.size->Qcd g m' u'->Q .normal a' ({c0 with mode:=u'}::cs) w)->wpOpsSIn (FR none) 0 P ops Q l a ({c0 with mode:=u}::cs) w
 |[],t,t',m,m',u,a,h,ht,hm,k=>by
  simp only [opsS,Option.some.injEq,Prod.mk.injEq] at h;obtain ⟨rfl,rfl⟩:=h;exact k a u ht rfl hm
 |i::l,t,t',m,m',u,a,h,ht,hm,k=>by
  simp only [opsS] at h;cases ho:ops[i]? with
  |none=>rw [ho] at h;cases h
  |some o=>
   rw [ho] at h;simp only at h;cases hgd:o.guard with
   |some _=>rw [hgd] at h;cases h
   |none=>
    rw [hgd] at h;simp only at h;have hw:Region.wanted o (yielded ops a.tmps)=true:=by simp [Region.wanted,hgd]
    simp only [wpOpsSIn,ho];refine ⟨fun _ _=>trivial,?_⟩;rw [if_pos hw];cases hr:Qmi o.op with
    |true=>
     rw [hr] at h;obtain ⟨c,hop,hc⟩:=Qbdt hr;have hex:(execOp a.eval o).run P w=.ok .recover w:=by
      obtain ⟨dst,op,type,pos,after,guard⟩:=o;simp only at hop;subst hop;simp [execOp,resolve,hc,invoke,builtin]
     rw [hex];simp only;cases m with
     |ret=>
      simp only at h;cases hm;simp only [recoverD];refine Qn7 hH l _ t' _ m' .returning (a.put o.dst .nilIface) h (ht.put o.dst .niliface) rfl fun a' u' q1 q2 q3=>k a' u' q1 (q2.trans (Qhk a o.dst _).1) q3
     |pan v r=>
      obtain ⟨x,rfl,hx⟩:=hm;cases r with
      |false=>
       simp only at h;simp only [recoverD];exact Qn7 hH l _ t' _ m' _ (a.put o.dst x) h (ht.put o.dst hx) ⟨x,rfl,hx⟩ fun a' u' q1 q2 q3=>k a' u' q1 (q2.trans (Qhk a o.dst _).1) q3
      |true=>
       simp only at h;simp only [recoverD];exact Qn7 hH l _ t' _ m' _ (a.put o.dst .nilIface) h (ht.put o.dst .niliface) ⟨x,rfl,hx⟩ fun a' u' q1 q2 q3=>k a' u' q1 (q2.trans (Qhk a o.dst _).1) q3
    |false=>
     rw [hr] at h;simp only at h;split at h;rename_i r hp;have hρ:ERel g ng t a.eval:=⟨fun x v hv=>ht.1.eval hH.sig hH.glob hv,hH.sig⟩;obtain ⟨v,h1,h2⟩:=Q7w w hρ hp;rw [h1];simp only;exact Qn7 hH l _ t' _ m' u (a.put o.dst v) h (ht.put o.dst h2) hm fun a' u' q1 q2 q3=>k a' u' q1 (q2.trans (Qhk a o.dst _).1) q3;cases h
theorem Qbaw {hp:Hp} {id:Nat} {x:Ex×Tm×Hp} (h:Touch hp x.2.2):Touch hp (Qea id x).2.2:=by
 unfold Qea;split;split<;>exact h;exact h
theorem Qe4 (E:Env P C call round) {c:Code} (m:AMode) (F:List Fact) (t:Tm) (hp:Hp):AllT (fun x=>Touch hp x.1.2.2) (Qbj F (Qbq P C mb fuel call round false c F t hp) fun _ x=> .leaf (x,m)):=by
 refine Qcf (Q:=fun x=>Touch hp x.2.2) ?_ ((Qec E c false).touch F t hp);intro _ x h;exact h
theorem Qjb (E:Env P C call round): ∀(c:Code) (F:List Fact) (t:Tm) (hp:Hp) (m:AMode),AllT (fun x=>Touch hp x.1.2.2) (Q7 P C mb fuel call round c F t hp m)
 |.seq a b,F,t,hp,m=>by
  simp only [Q7];refine Qcf (Q:=fun x=>Touch hp x.1.2.2) ?_ (Qjb E a F t hp m);rintro F' ⟨⟨e,t',hp'⟩,m'⟩ h;cases e with
  |normal=>exact (Qjb E b F' t' hp' m').mono fun x hx=>h.trans hx
  |_=>exact h
 |.cond c a b,F,t,hp,m=>by
  simp only [Q7];split;split;exact Qjb E a F t hp m;exact Qjb E b F t hp m;trivial
 |.block id c,F,t,hp,m=>by
  simp only [Q7];refine Qcf (Q:=fun x=>Touch hp x.1.2.2) ?_ (Qjb E c F t hp m);intro _ x h;exact Qbaw (hp:=hp) (x:=x.1) h
 |.region id ops draw,F,t,hp,m=>by
  simp only [Q7];split;split;split;exact Touch.refl _;trivial;trivial;exact Qe4 E m F t hp
 |.skip,F,t,hp,m=>by
  simp only [Q7];exact Qe4 E m F t hp
 |.label _,F,t,hp,m=>by
  simp only [Q7];exact Qe4 E m F t hp
 |.exit _,F,t,hp,m=>by
  simp only [Q7];exact Qe4 E m F t hp
 |.ret,F,t,hp,m=>by
  simp only [Q7];exact Qe4 E m F t hp
 |.loop _,F,t,hp,m=>by
  simp only [Q7];exact Qe4 E m F t hp
 |.rangeFunc ..,F,t,hp,m=>by
  simp only [Q7];exact Qe4 E m F t hp
 |.goto _,F,t,hp,m=>by
  simp only [Q7];exact Qe4 E m F t hp
 |.scope _,F,t,hp,m=>by
  simp only [Q7];exact Qe4 E m F t hp
 |.refuse _,F,t,hp,m=>by
  simp only [Q7];exact Qe4 E m F t hp
theorem Qe3 (E:Env P C call round) {c:Code} {F:List Fact} {t:Tm} {hp:Hp} {m:AMode} {Q:(Ex×Tm×Hp)×AMode->Prop} {g:Inj} {w:World} {a:Act} {c0:Frame} {cs:List Frame} {u:FrameMode} (hH:HRel (C F) g hp.heap w) (ht:FRel g t a) (hm:Qcd g m u)
  (hs:Sat g.sig Q (Qbj F (Qbq P C mb fuel call round false c F t hp) fun _ x=> .leaf (x,m))):c.wpSIn (FR none) 0 P (fun e a' cs' w'=> ∃x,Q x/\Qfr (C F) hp g w a c0 cs x e a' cs' w') a ({c0 with mode:=u}::cs) w:=by
 have hs:=Qck (E.ok.facts hH) hs;refine wpSIn_of_wpIn rfl (wpIn_mono ((Qec (mb:=mb) (fuel:=fuel) E c false).wp F t hp _ none g w a (fun _=>rfl) hH ht hs) ?_);rintro e a' w' ⟨x,⟨F',_,q⟩,h0,g',h1,h2,h3,h4,h5⟩;exact ⟨(x,m),q,h0,g',h1,h2,h3,h4,h5,u,rfl,hm.mono h3.sub⟩
theorem Qja (E:Env P C call round): ∀(c:Code) (F:List Fact) (t:Tm) (hp:Hp) (m:AMode) (Q:(Ex×Tm×Hp)×AMode->Prop) (g:Inj) (w:World) (a:Act) (c0:Frame) (cs:List Frame) (u:FrameMode),HRel (C F) g hp.heap w->FRel g t a->Qcd g m u->
  Sat g.sig Q (Q7 P C mb fuel call round c F t hp m)->c.wpSIn (FR none) 0 P (fun e a' cs' w'=> ∃x,Q x/\Qfr (C F) hp g w a c0 cs x e a' cs' w') a ({c0 with mode:=u}::cs) w
 |.seq x y,F,t,hp,m,Q,g,w,a,c0,cs,u,hH,ht,hm,hs=>by
  simp only [Q7] at hs;have hs:=Qck (E.ok.facts hH) hs;refine wpSIn_seq (Qsz (Qja E x F t hp m _ g w a c0 cs u hH ht hm hs) ?_);rintro e a' cs' w' ⟨⟨⟨ex,t',hp'⟩,m'⟩,⟨F',hF',q⟩,h0,g',h1,h2,h3,h4,h5,u',rfl,h6⟩;have hF0:Qo g.sig F:=E.ok.facts hH;cases ex with
  |normal=>
   cases e<;>simp only [Qbp] at h1;have:=Qja E y F' t' hp' m' Q g' w' a' c0 cs u' (E.ok.move h2 (by rw [h3.sub.sig];exact hF')) h4 h6 (by rw [h3.sub.sig];exact q);refine Qsz this ?_;rintro e2 a2 cs2 w2 ⟨x2,q2,hq2⟩;refine ⟨x2,q2,?_⟩;exact Qfr.trans (c0:=c0) (u:=c0.mode) hH h0 h3 h5 (hq2.move E.ok (by rw [h3.sub.sig];exact hF0))
  |exit i=>
   cases e<;>simp only [Qbp] at h1;exact ⟨_,q,h0,g',h1,h2,h3,h4,h5,u',rfl,h6⟩
  |ret=>
   cases e<;>simp only [Qbp] at h1;exact ⟨_,q,h0,g',trivial,h2,h3,h4,h5,u',rfl,h6⟩
  |pan v=>
   cases e<;>simp only [Qbp] at h1;exact ⟨_,q,h0,g',h1,h2,h3,h4,h5,u',rfl,h6⟩
 |.cond c x y,F,t,hp,m,Q,g,w,a,c0,cs,u,hH,ht,hm,hs=>by
  simp only [Q7] at hs;split at hs
  ·rename_i v hv
   have hc:=ht.1.eval hH.sig hH.glob hv;have hcv:a.eval c=.bool v:=by generalize a.eval c=z at hc;cases hc;rfl
   refine wpSIn_cond hcv ?_;cases v with
   |true=>exact Qja E x F t hp m Q g w a c0 cs u hH ht hm hs
   |false=>exact Qja E y F t hp m Q g w a c0 cs u hH ht hm hs
  exact hs.elim
 |.block id c,F,t,hp,m,Q,g,w,a,c0,cs,u,hH,ht,hm,hs=>by
  simp only [Q7] at hs;have hs:=Qck (E.ok.facts hH) hs;refine Qbo2 (Qsz (Qja E c F t hp m _ g w a c0 cs u hH ht hm hs) ?_);rintro e a' cs' w' ⟨⟨⟨ex,t',hp'⟩,m'⟩,⟨F',hF',q⟩,h0,g',h1,h2,h3,h4,h5,u',rfl,h6⟩;cases ex with
  |normal=>
   cases e<;>simp only [Qbp] at h1;exact ⟨_,q,h0,g',trivial,h2,h3,h4,h5,u',rfl,h6⟩
  |exit i=>
   cases e<;>simp only [Qbp] at h1;subst h1;simp only [Qqf];simp only [Qea] at q;split at q;rename_i hb;rw [if_pos (Nat.eq_of_beq_eq_true hb)];exact ⟨_,q,h0,g',trivial,h2,h3,h4,h5,u',rfl,h6⟩;rename_i hb;rw [if_neg (Nat.ne_of_beq_eq_false hb)];exact ⟨_,q,h0,g',rfl,h2,h3,h4,h5,u',rfl,h6⟩
  |ret=>
   cases e<;>simp only [Qbp] at h1;exact ⟨_,q,h0,g',trivial,h2,h3,h4,h5,u',rfl,h6⟩
  |pan v=>
   cases e<;>simp only [Qbp] at h1;exact ⟨_,q,h0,g',h1,h2,h3,h4,h5,u',rfl,h6⟩
 |.region id ops draw,F,t,hp,m,Q,g,w,a,c0,cs,u,hH,ht,hm,hs=>by
  simp only [Q7] at hs;split at hs;split at hs;split at hs;rename_i t' m' ho;refine wpSIn_region (Qn7 hH _ _ _ _ _ _ _ ho ht hm fun a' u' q1 q2 q3=> ?_);exact ⟨_,hs,Touch.refl _,g,trivial,hH,Ext.refl _ _ _,q1,q2,u',rfl,q3⟩;exact hs.elim;exact hs.elim;exact Qe3 E hH ht hm hs
 |.skip,F,t,hp,m,Q,g,w,a,c0,cs,u,hH,ht,hm,hs=>by
  simp only [Q7] at hs;exact Qe3 E hH ht hm hs
 |.label _,F,t,hp,m,Q,g,w,a,c0,cs,u,hH,ht,hm,hs=>by
  simp only [Q7] at hs;exact Qe3 E hH ht hm hs
 |.exit _,F,t,hp,m,Q,g,w,a,c0,cs,u,hH,ht,hm,hs=>by
  simp only [Q7] at hs;exact Qe3 E hH ht hm hs
 |.ret,F,t,hp,m,Q,g,w,a,c0,cs,u,hH,ht,hm,hs=>by
  simp only [Q7] at hs;exact Qe3 E hH ht hm hs
 |.loop _,F,t,hp,m,Q,g,w,a,c0,cs,u,hH,ht,hm,hs=>by
  simp only [Q7] at hs;exact Qe3 E hH ht hm hs
 |.rangeFunc ..,F,t,hp,m,Q,g,w,a,c0,cs,u,hH,ht,hm,hs=>by
  simp only [Q7] at hs;exact Qe3 E hH ht hm hs
 |.goto _,F,t,hp,m,Q,g,w,a,c0,cs,u,hH,ht,hm,hs=>by
  simp only [Q7] at hs;exact Qe3 E hH ht hm hs
 |.scope _,F,t,hp,m,Q,g,w,a,c0,cs,u,hH,ht,hm,hs=>by
  simp only [Q7] at hs;exact Qe3 E hH ht hm hs
 |.refuse _,F,t,hp,m,Q,g,w,a,c0,cs,u,hH,ht,hm,hs=>by
  simp only [Q7] at hs;exact Qe3 E hH ht hm hs
theorem Qbbn (E:Env P C call round) {F:List Fact} {f:FuncId} {args:List AVal} {m:AMode} {hp:Hp}:AllT (fun y=>Touch hp y.2) (Qls P C mb fuel call round F f args m hp):=by
 unfold Qls;split;split;refine Qcf (Q:=fun x=>Touch hp x.1.2.2) ?_ (Qjb E _ F _ hp m);rintro F' x h;split;split;split;exact h;trivial;split;exact h;trivial;trivial;trivial;trivial;trivial
theorem Qbbm (E:Env P C call round) {F:List Fact} {f:FuncId} {args:List AVal} {m:AMode} {hp:Hp} {Q:AMode×Hp->Prop} {g:Inj} {w:World} {args':Array Value} {u:FrameMode} (hH:HRel (C F) g hp.heap w) (ha:LRel g args args'.toList) (hm:Qcd g m u)
  (hs:Sat g.sig Q (Qls P C mb fuel call round F f args m hp)):CallsDIn (FR none) 0 P f args' u w fun e u' w'=> ∃v y g',e=.returned v/\Q y/\Touch hp y.2/\HRel (C F) g' y.2.heap w'/\Ext g hp.heap w g' y.2.heap w'/\Qcd g' y.1 u':=by
 unfold Qls at hs;split at hs;rename_i fn hfn;split at hs;rename_i c hb;have hs:=Qck (E.ok.facts hH) hs;refine callsDIn_of_wpSIn hfn hb trivial fun c0 cs hu=> ?_;have hc0:c0={c0 with mode:=u}:=by subst hu;rfl
 rw [hc0];refine Qsz (Qja E c F (Qh2 args fn.ntmps) hp m _ g w _ c0 cs u hH ⟨Q0l ha fn.ntmps,.nil⟩ hm hs) ?_;rintro e a' cs' w' ⟨⟨⟨ex,t',hp'⟩,m'⟩,⟨F',hF',q⟩,h0,g',h1,h2,h3,h4,h5,u',rfl,h6⟩;simp only at q;split at q
 ·rename_i hdf
  have hd:a'.defers=[]:=by
   have:=h4.2;simp only at this hdf;rw [hdf] at this;cases hda:a'.defers with
   |nil=>rfl
   |cons d ds=>rw [hda] at this;cases this
  have fin: ∀vs,resA P t' hp'.heap fn.results.toList=some vs->Q (m',hp')->a'.defers=[]/\ ∃u2,({c0 with mode:=u'}::cs:List Frame)={({c0 with mode:=u}:Frame) with mode:=u2}::cs/\ ∃v,(results fn a'.tmps).run P w'=.ok v w'/\ ∃v' y g',(Ending.returned v)=.returned v'/\Q y/\Touch hp y.2/\HRel (C F) g' y.2.heap w'/\Ext g hp.heap w g' y.2.heap w'/\Qcd g' y.1 u2:=by
   intro vs hvs hq;obtain ⟨v,r1,_⟩:=Qsc h2 h4.1 hvs;exact ⟨hd,u',rfl,v,r1,v,(m',hp'),g',rfl,hq,h0,h2,h3,h6⟩
  cases ex with
  |normal=>
   cases e<;>simp only [Qbp] at h1;simp only at q;split at q;rename_i vs hvs;exact fin vs hvs q;exact q.elim
  |ret=>
   cases e<;>simp only [Qbp] at h1;simp only at q;split at q;rename_i vs hvs;exact fin vs hvs q;exact q.elim
  |exit i=>exact q.elim
  |pan v=>exact q.elim
 exact q.elim;exact hs.elim;exact hs.elim
theorem Quz (E:Env P C call round): ∀(l:List ADef) (F:List Fact) (m:AMode) (hp:Hp),AllT (fun y=>Touch hp y.2) (Qf6 P C mb fuel call round l F m hp)
 |[],F,m,hp=>Touch.refl _
 |.mark b::l,F,m,hp=>by
  simp only [Qf6];split;rename_i hb;exact (Quz E l F m _).mono fun y hy=>(Qel ⟨_,hb,by simp⟩ (fun la h=>by cases h)).trans hy;trivial
 |.fn fv cap args::l,F,m,hp=>by
  simp only [Qf6];split;split;exact Qcf (Q:=fun y=>Touch hp y.2) (fun F' x h=>(Quz E l F' _ x.2).mono fun y hy=>h.trans hy) (Qbbn E);trivial;trivial
theorem Qu0 (E:Env P C call round) {fn:Func} {tmps:Array Value} {R:Ending->World->Prop}: ∀(df:List ADef) (ds:List Deferred) (F:List Fact) (m:AMode) (hp:Hp) (Q:AMode×Hp->Prop) (g:Inj) (w:World) (u:FrameMode),HRel (C F) g hp.heap w->DfRel g df ds->Qcd g m u->
  Sat g.sig Q (Qf6 P C mb fuel call round df F m hp)->(∀y g' w' u',Q y->HRel (C F) g' y.2.heap w'->Ext g hp.heap w g' y.2.heap w'->Touch hp y.2->Qcd g' y.1 u'->LeavesIn (FR none) 0 P fn tmps R [] u' w')->LeavesInM (FR none) 0 P fn tmps R ds u w
 |[],_,F,m,hp,Q,g,w,u,hH,hd,hm,hs,k=>by
  cases hd;exact k (m,hp) g w u hs hH (Ext.refl _ _ _) (Touch.refl _) hm
 |.mark b::l,_,F,m,hp,Q,g,w,u,hH,hd,hm,hs,k=>by
  cases hd with
  |mark _ L _ md hL hd=>
  simp only [Qf6] at hs;split at hs;rename_i hb;obtain ⟨L',hL',hB⟩:=hH.blk b _ hb (by simp);rw [hL] at hL';cases hL';obtain ⟨k1,k2⟩:=HRel.writeK hH (k':=.gone) ⟨_,hb,by simp⟩ hL (Qbnh w L.blk (.deferred none)) trivial;refine ⟨hm.run,.inl ⟨L.blk,_,rfl,Qbm2 hB,?_⟩⟩;exact Qu0 E l md F m _ Q g _ u k1 hd hm hs fun y g' w' u' q1 q2 q3 q4 q5=>k y g' w' u' q1 q2 (k2.trans hH q3) ((Qel ⟨_,hb,by simp⟩ (fun la h=>by cases h)).trans q4) q5;exact hs.elim
 |.fn fv cap args::l,_,F,m,hp,Q,g,w,u,hH,hd,hm,hs,k=>by
  cases hd with
  |fn _ _ _ cap' args' _ md hcap hargs hd=>
  simp only [Qf6] at hs;split at hs;rename_i f;split at hs;rename_i fa hen;obtain ⟨f',fargs⟩:=fa;have hf':f'=f:=by
   unfold Qfx at hen;split at hen;split at hen;cases hen;rfl;cases hen;cases hen
  subst hf';obtain ⟨k1,_⟩:=Qpr (P:=P) (w:=w) hen (args'++cap');have hs:=Qck (E.ok.facts hH) hs;have hall:LRel g (args++cap) (args'++cap').toList:=by simpa using hargs.append hcap
  refine ⟨hm.run,.inr ⟨(fun h=>by simp [FR,Fence.wide] at h),.func f',cap',f',args'++cap',rfl,?_,fun _ _=>trivial,?_⟩⟩;simpa [invoke] using k1;refine CallsDIn.mono (Qbbm E hH hall hm hs) ?_;rintro e u' w' ⟨v,y,g',rfl,⟨F',hF',q⟩,h0,h2,h3,h4⟩;refine Qu0 E l md F' (Qxx y.1) y.2 Q g' w' (settle u') (E.ok.move h2 (by rw [h3.sub.sig];exact hF')) (hd.mono h3.sub) h4.settle (by rw [h3.sub.sig];exact q) ?_;intro y2 g2 w2 u2 q1 q2 q3 q4 q5;exact k y2 g2 w2 u2 q1 (E.ok.move q2 (by rw [q3.sub.sig,h3.sub.sig];exact E.ok.facts hH)) (h3.trans hH q3) (h0.trans q4) q5;exact hs.elim;exact hs.elim
theorem rebase {hp h:Hp} (t:Touch ⟨hp.heap,[]⟩ h):Touch hp ⟨h.heap,h.log++hp.log⟩:=by
 obtain ⟨pre,e1,e2⟩:=t.log;simp only [List.append_nil] at e1;exact ⟨t.len,⟨pre,by rw [e1],e2⟩,t.live,t.loops⟩
theorem Qbd0 {v:AVal} {hp h:Hp} (t:Touch ⟨hp.heap,[]⟩ h):Touch hp (Qmk v hp h).2:=by
 unfold Qmk;split;exact Touch.refl _;exact rebase t
theorem Qbcb {fn:Func} {tm:Tm} {hp:Hp} {y:AMode×Hp} (t:Touch ⟨hp.heap,[]⟩ y.2):AllT (fun z=>Touch hp z.2) (Qpo P fn tm hp y):=by
 unfold Qpo;split;split;exact rebase t;trivial;split;exact Qbd0 t;trivial
theorem Q0j (E:Env P C call round) {F:List Fact} {fn:Func} {hp:Hp} {x:Ex×Tm×Hp} (t:Touch ⟨hp.heap,[]⟩ x.2.2):AllT (fun y=>Touch hp y.2) (Qly P C mb fuel call round F fn hp x):=by
 unfold Qly;split;exact Qcf (Q:=fun y=>Touch x.2.2 y.2) (fun F' y h=>Qbcb (t.trans h)) (Quz E _ _ _ _);trivial
theorem Qy6 (E:Env P C call round) (F:List Fact) (hp:Hp) (g0:Inj) (w0:World) (T:Tree (Out×Hp)) (Q:Out×Hp->Prop) (hT:AllT (fun y=>Touch hp y.2) T):
  AllT (fun y=>Touch hp y.2) (mgT (mgO (C F) hp) (mgOP (C F) hp) (mgOr hp) T)/\(Sat g0.sig Q (mgT (mgO (C F) hp) (mgOP (C F) hp) (mgOr hp) T)->Sat g0.sig (fun x=> ∃y,Q y/\WO (C F) hp g0 w0 x y) T):=
 have:=Qfn (V:=g0.sig) (W:=WO (C F) hp g0 w0) (S:=fun y=>Touch hp y.2) (f:=mgO (C F) hp) (fp:=mgOP (C F) hp) (fo:=mgOr hp) (fun _ _ _ h=>h) (fun _ _ _ h k e w q=>k e w (h e w q))
  (fun i x y z sx sy h=>⟨(Qrg sx sy h).1,((Qrg sx sy h).2 g0 w0).1,((Qrg sx sy h).2 g0 w0).2⟩)
  (fun i k x y z sx sy h=>⟨(Qwm sx sy h).1,((Qwm sx sy h).2 g0 w0).1,((Qwm sx sy h).2 g0 w0).2⟩)
  (fun x y z sx sy h=>by obtain ⟨e1,e2⟩:=Qbjz sx sy h;exact ⟨e1▸sx,fun e w q=>e1▸q,fun e w q=>e2▸q⟩) hT
 ⟨this.1,this.2 Q⟩
theorem Qba2 (E:Env P C call round):Qow (Qln P C mb fuel call round):=by
 intro F f args hp;unfold Qln;split;split;refine (Qy6 E F hp ⟨fun _=>none,⟨fun _=>0,fun _=>false,fun _=> .empty,fun _ _=>0,fun _=>none⟩,fun _=>none⟩ default _ (fun _=>True) ?_).1;exact Qcf (Q:=fun x=>Touch ⟨hp.heap,[]⟩ x.2.2) (fun F' x h=>Q0j E h) ((Qec E _ false).touch F _ _);trivial;trivial
theorem Qba1 (E:Env P C call round):Qhv P C (Qln P C mb fuel call round):=by
 intro F f args hp Q g w args' hH ha hs;unfold Qln at hs;split at hs;rename_i fn hfn;split at hs;rename_i c hb;have hT:AllT (fun y=>Touch hp y.2) (Qbj F (Qbq P C mb fuel call round false c F (Qh2 args fn.ntmps) ⟨hp.heap,[]⟩) fun F' x=>Qly P C mb fuel call round F' fn hp x):=
  Qcf (Q:=fun x=>Touch ⟨hp.heap,[]⟩ x.2.2) (fun F' x h=>Q0j E h) ((Qec E c false).touch F _ _)
 have hs:=(Qy6 E F hp g w _ Q hT).2 hs;have hs:=Qck (E.ok.facts hH) hs;refine Qza (r:=none) (n:=0) (callsIn_of_wp_marks hfn hb trivial ?_);refine wpIn_mono ((Qec (mb:=mb) (fuel:=fuel) E c false).wp F (Qh2 args fn.ntmps) ⟨hp.heap,[]⟩ _ none g w _ (fun _=>rfl) hH ⟨Q0l ha fn.ntmps,.nil⟩ hs) ?_;rintro e a' w' ⟨⟨x,t',hp'⟩,⟨F',hF',q⟩,h0,g',h1,h2,h3,h4,h5⟩;unfold Qly at q;split at q
 ·rename_i m hmx
  have hHm:=E.ok.move h2 (F':=F') (by rw [h3.sub.sig];exact hF');have q:=Qck (show Qo g.sig F' from hF') q;have hF0:Qo g.sig F:=E.ok.facts hH;have give: ∀(h:Hp) (vs:List AVal) (g2:Inj) (w2:World) (u:Value),Touch ⟨hp.heap,[]⟩ h->HRel (C F) g2 h.heap w2->Ext g hp.heap w g2 h.heap w2->VRel g2 (Qkl vs) u->(∃y,Q y/\WO (C F) hp g w (Qmk (Qkl vs) hp h) y)-> ∃x,Q x/\OutQ (C F) hp g w x.1 x.2 (.returned u) w2:=by
   rintro h vs g2 w2 u t2 k1 k2 k3 ⟨y,hy,hw⟩;refine ⟨y,hy,hw _ _ ?_⟩;unfold Qmk;split;rename_i hfree;simp only [Bool.and_eq_true] at hfree;have hsame: ∀i,i<hp.heap.length->h.heap[i]? =hp.heap[i]?:=by
    intro i hi;obtain ⟨pre,e1,e2⟩:=t2.log;simp only [List.append_nil] at e1;exact e2 i hi (by rw [<-e1];exact Q7a hfree.2 i hi)
   obtain ⟨m1,m2⟩:=Qbc9 hH k1 k2 hsame;exact ⟨Touch.refl _,g,⟨u,rfl,Qqe k2.sub.sig.symm k3 hfree.1⟩,m1,m2⟩;exact ⟨rebase t2,g2,⟨u,rfl,k3⟩,k1,k2⟩
  have fin: ∀u,Qcd g' m u->LeavesInM (FR none) 0 P fn a'.tmps (fun e w'=> ∃x,Q x/\OutQ (C F) hp g w x.1 x.2 e w') a'.defers u w':=by
   intro u hu;refine Qu0 E t'.df a'.defers F' m hp' _ g' w' u hHm h4.2 hu (by rw [h3.sub.sig];exact q) ?_;rintro ⟨m2,hp2⟩ g2 w2 u2 ⟨F2,hF2,q2⟩ k1 k2 k3 k4;have k1':=E.ok.move k1 (F':=F) (by rw [k2.sub.sig,h3.sub.sig];exact hF0);have hE2:=h3.trans hH k2;have t2:=h0.trans k3;unfold Qpo at q2;cases m2 with
   |ret=>
    cases k4;simp only at q2;split at q2;rename_i vs hvs;obtain ⟨v,r1,r2⟩:=Qsc k1' (h4.1.mono k2.sub) hvs;exact ⟨v,r1,give hp2 vs g2 w2 v t2 k1' hE2 r2 q2⟩;exact q2.elim
   |pan v r=>
    obtain ⟨x,rfl,hx⟩:=k4;cases r with
    |false=>
     obtain ⟨y,hy,hw⟩:=q2;exact ⟨y,hy,hw _ _ ⟨rebase t2,g2,⟨x,rfl,hx⟩,k1',hE2⟩⟩
    |true=>exact q2.elim
  cases x with
  |pan v=>
   cases e<;>simp only [Qbp] at h1;obtain ⟨u,rfl,hu⟩:=h1;simp only [Ql0,Option.some.injEq] at hmx;subst hmx;exact fin _ ⟨u,rfl,hu⟩
  |exit i=>simp [Ql0] at hmx
  |normal=>
   cases e<;>simp only [Qbp] at h1;simp only [Ql0,Option.some.injEq] at hmx;subst hmx;exact fin _ rfl
  |ret=>
   cases e<;>simp only [Qbp] at h1;simp only [Ql0,Option.some.injEq] at hmx;subst hmx;exact fin _ rfl
 exact q.elim;exact hs.elim;exact hs.elim
theorem Qbkx (hh: ∀F,Hooks P (C F)) (h:Qow call):Qow (panB C call):=by
 intro F f args hp;unfold panB;split;rename_i v hp' hv;exact ((hh F).pan f args hp v hp' hv).touch;exact h F f args hp
theorem Qbkw (hh: ∀F,Hooks P (C F)) (h:Qhv P C call):Qhv P C (panB C call):=by
 intro F f args hp Q g w args' hH ha hs;unfold panB at hs;split at hs;rename_i v hp' hv;have hc:=(hh F).pan f args hp v hp' hv;refine (hc.calls g w args' hH ha).mono ?_;rintro e w' hq;exact ⟨(.pan v,hp'),hs,hc.touch,hq⟩;exact h F f args hp Q g w args' hH ha hs
theorem Qpx (hm:P.follows .mixedOrders=true) (hC:CtxOk C) (hh: ∀F,Hooks P (C F)): ∀d,Env P C (evD P C mb fuel d).1 (evD P C mb fuel d).2
 |0=>⟨hm,hC,hh,fun _ _ _ _=>trivial,fun _ _ _ _=>trivial,fun _ _ _ _ _ _ _ _ _ _ h=>h.elim,fun _ _ _ _ _ _ _ _ _ _ _ _ _ h=>h.elim⟩
 |d+1=>by
  have E:=Qpx hm hC hh d;exact ⟨hm,hC,hh,Qbkx hh (Qba2 E),Qblo (mb:=mb) (fuel:=fuel) E,Qbkw hh (Qba1 E),Qbln (mb:=mb) (fuel:=fuel) E⟩
end
end Go.Ev
namespace Go.Ev
def Qit (a b:AVal):Bool:=eqV a b
theorem Qof {a b:AVal} (h:Qit a b=true):a=b:=Qbi a b h
def Qkx:List (AVal×AVal)->List (AVal×AVal)->Bool
 |[],[]=>true
 |a::l,b::m=>eqV a.1 b.1&&eqV a.2 b.2&&Qkx l m
 |_,_=>false
theorem Q8t: ∀{l m:List (AVal×AVal)},Qkx l m=true->l=m
 |[],[],_=>rfl
 |(a,a')::l,(b,b')::m,h=>by
  simp only [Qkx,Bool.and_eq_true] at h;rw [Qbi _ _ h.1.1,Qbi _ _ h.1.2,Q8t h.2]
 |[],_::_,h=>by simp [Qkx] at h
 |_::_,[],h=>by simp [Qkx] at h
def Qse:SDef->SDef->Bool
 |.bin o a b,.bin o' a' b'=>decide (o=o')&&(eqV a a'&&eqV b b')
 |.un o a,.un o' a'=>decide (o=o')&&eqV a a'
 |.conv k a,.conv k' a'=>decide (k=k')&&eqV a a'
 |.low l,.low m=>eqVs l m
 |.high l,.high m=>eqVs l m
 |.all l,.all m=>Qkx l m
 |.text l,.text m=>eqVs l m
 |.fn i k l,.fn j k' m=>Nat.beq i j&&(decide (k=k')&&eqVs l m)
 |.fnb i l,.fnb j m=>Nat.beq i j&&eqVs l m
 |.ite c a b,.ite c' a' b'=>eqV c c'&&(eqV a a'&&eqV b b')
 |.sel l a,.sel m b=>eqV a b&&eqVs l m
 |.sop o l,.sop o' m=>decide (o=o')&&eqVs l m
 |_,_=>false
theorem Q8q {d e:SDef} (h:Qse d e=true):d=e:=by
 unfold Qse at h;split at h;simp only [Bool.and_eq_true,decide_eq_true_eq] at h;rw [h.1,Qbi _ _ h.2.1,Qbi _ _ h.2.2];simp only [Bool.and_eq_true,decide_eq_true_eq] at h;rw [h.1,Qbi _ _ h.2];simp only [Bool.and_eq_true,decide_eq_true_eq] at h;rw [h.1,Qbi _ _ h.2];rw [Qdk _ _ h];rw [Qdk _ _ h];rw [Q8t h];rw [Qdk _ _ h];simp only [Bool.and_eq_true,decide_eq_true_eq] at h;rw [Nat.eq_of_beq_eq_true h.1,h.2.1,Qdk _ _ h.2.2];simp only [Bool.and_eq_true] at h;rw [Nat.eq_of_beq_eq_true h.1,Qdk _ _ h.2];simp only [Bool.and_eq_true] at h;rw [Qbi _ _ h.1,Qbi _ _ h.2.1,Qbi _ _ h.2.2];simp only [Bool.and_eq_true] at h;rw [Qbi _ _ h.1,Qdk _ _ h.2];simp only [Bool.and_eq_true,decide_eq_true_eq] at h;rw [h.1,Qdk _ _ h.2];cases h
inductive LT where
 |e
 |n (l:LT) (h:Nat) (i:Nat) (d:SDef) (r:LT)
def Qeu:AVal->Nat
 |.int _ n=>match n with
  |.ofNat k=>5*k+1
  |.negSucc k=>5*k+2
 |.symi _ i=>1000003*i+3
 |.symb i=>1000033*i+7
 |.syms i=>1000037*i+11
 |.bool b=>match b with
  |true=>13
  |false=>17
 |_=>19
def Qg7:List AVal->Nat
 |[]=>1
 |a::l=>(Qeu a+31*Qg7 l)%1073741827
def Q1m:List (AVal×AVal)->Nat
 |[]=>1
 |a::l=>(Qeu a.1+37*Qeu a.2+31*Q1m l)%1073741827
def Qbde:BinOp->Nat
 |.add=>1
 |.sub=>2
 |.mul=>3
 |.quo=>4
 |.rem=>5
 |.and=>6
 |.or=>7
 |.xor=>8
 |.shl=>9
 |.shr=>10
 |.andNot=>11
 |.eql=>12
 |.neq=>13
 |.lss=>14
 |.leq=>15
 |.gtr=>16
 |.geq=>17
def Q1l:SDef->Nat
 |.bin o a b=>(Qbde o*7+101*Qeu a+10007*Qeu b)%1073741827
 |.un _ a=>(101*Qeu a+19)%1073741827
 |.conv _ a=>(103*Qeu a+23)%1073741827
 |.low l=>(107*Qg7 l+29)%1073741827
 |.high l=>(109*Qg7 l+31)%1073741827
 |.all l=>(113*Q1m l+37)%1073741827
 |.text l=>(127*Qg7 l+41)%1073741827
 |.fn i _ l=>(131*Qg7 l+43*i+47)%1073741827
 |.fnb i l=>(137*Qg7 l+53*i+59)%1073741827
 |.ite c a b=>(139*Qeu c+149*Qeu a+151*Qeu b+61)%1073741827
 |.sel l a=>(157*Qg7 l+163*Qeu a+67)%1073741827
 |.sop o l=>(167*Qg7 l+71+(match o with
  |.len=>1
  |.at=>2
  |.sub=>3
  |.cat=>4
  |.row _=>5
  |.rsub _=>6
  |.fs i=>1000*i+7
  |.upd _ j=>2*j+8
  |.cell _ j=>2*j+9))%1073741827
def Qhg (d:SDef) (h:Nat):LT->Option Nat
 |.e=>none
 |.n l k i x r=>match Nat.beq h k with
  |true=>match Qse x d with
   |true=>some i
   |false=>Qhg d h r
  |false=>match Nat.blt h k with
   |true=>Qhg d h l
   |false=>Qhg d h r
def okLT (m:Nat) (G:List SDef):LT->Bool
 |.e=>true
 |.n l _ i x r=>(match G[i-m]? with
  |some y=>Qse y x&&Nat.ble m i
  |none=>false)&&(okLT m G l&&okLT m G r)
theorem Qnu {m:Nat} {G:List SDef} {d:SDef} {h:Nat}: ∀{T:LT} {j:Nat},okLT m G T=true->Qhg d h T=some j-> ∃k,j=m+k/\G[k]? =some d
 |.e,_,_,hl=>by simp [Qhg] at hl
 |.n l k i x r,j,hT,hl=>by
  simp only [okLT,Bool.and_eq_true] at hT;simp only [Qhg] at hl;split at hl;split at hl;rename_i hs;cases hl;have hx:=Q8q hs;subst hx;have h1:=hT.1;split at h1;rename_i y hy;simp only [Bool.and_eq_true,Nat.ble_eq] at h1;have:=Q8q h1.1;subst this;exact ⟨i-m,by omega,hy⟩;cases h1;exact Qnu hT.2.2 hl;split at hl;exact Qnu hT.2.1 hl;exact Qnu hT.2.2 hl
def Qjj:List Fact->Nat->Option Bool
 |[],_=>none
 |x::F,i=>match x with
  |.tru j b=>match Nat.beq j i with
   |true=>some b
   |false=>Qjj F i
  |_=>Qjj F i
def Qgg:List Fact->Nat->Option Int
 |[],_=>none
 |x::F,i=>match x with
  |.isn j n=>match Nat.beq j i with
   |true=>some n
   |false=>Qgg F i
  |_=>Qgg F i
theorem Qpz {V:Sig}: ∀{F:List Fact} {i:Nat} {b:Bool},Qjj F i=some b->Qo V F->V.b i=b
 |[],_,_,h,_=>by simp [Qjj] at h
 |x::F,i,b,h,hF=>by
  simp only [Qjj] at h;split at h;split at h;rename_i hs;cases h;have:=Nat.eq_of_beq_eq_true hs;subst this;exact hF.1;exact Qpz h hF.2;exact Qpz h hF.2
theorem Qrr {V:Sig}: ∀{F:List Fact} {i:Nat} {n:Int},Qgg F i=some n->Qo V F->V.i i=n
 |[],_,_,h,_=>by simp [Qgg] at h
 |x::F,i,b,h,hF=>by
  simp only [Qgg] at h;split at h;split at h;rename_i hs;cases h;have:=Nat.eq_of_beq_eq_true hs;subst this;exact hF.1;exact Qrr h hF.2;exact Qrr h hF.2
def setS (V:Sig) (i:Nat):AVal->Sig
 |.int _ n=>⟨fun j=>if j=i then n else V.i j,V.b,V.s,V.tab,V.ext⟩
 |.bool b=>⟨V.i,fun j=>if j=i then b else V.b j,V.s,V.tab,V.ext⟩
 |.str s=>⟨V.i,V.b,fun j=>if j=i then s else V.s j,V.tab,V.ext⟩
 |_=>V
def Qix (V:Sig) (d:SDef) (i:Nat):Sig:=
 match Qb V d with
 |some v=>setS V i v
 |none=>V
def solve:List SDef->Nat->Sig->Sig
 |[],_,V=>V
 |d::G,i,V=>solve G (i+1) (Qix V d i)
structure Agree (n:Nat) (V U:Sig):Prop where
 val: ∀i,i<n->V.i i=U.i i/\V.b i=U.b i/\V.s i=U.s i
 tab:V.tab=U.tab
 ext:V.ext=U.ext
theorem Qbac (V:Sig) (i:Nat) (v:AVal):Agree i V (setS V i v):=by
 refine ⟨?_,by cases v<;>rfl,by cases v<;>rfl⟩;intro j hj;have:j≠i:=by omega
 cases v<;>simp [setS,this]
theorem Qbad (V:Sig) (d:SDef) (i:Nat):Agree i V (Qix V d i):=by
 unfold Qix;split;exact Qbac _ _ _;exact ⟨fun _ _=>⟨rfl,rfl,rfl⟩,rfl,rfl⟩
theorem Agree.trans {n:Nat} {V U υ:Sig} (h:Agree n V U) (h':Agree n U υ):Agree n V υ:=⟨fun i hi=>
 ⟨(h.val i hi).1.trans (h'.val i hi).1,(h.val i hi).2.1.trans (h'.val i hi).2.1,(h.val i hi).2.2.trans (h'.val i hi).2.2⟩,h.tab.trans h'.tab,h.ext.trans h'.ext⟩
theorem Agree.less {n m:Nat} {V U:Sig} (h:Agree n V U) (hm:m<=n):Agree m V U:=⟨fun i hi=>h.val i (by omega),h.tab,h.ext⟩
theorem Qep: ∀(G:List SDef) (i:Nat) (V:Sig),Agree i V (solve G i V)
 |[],_,_=>⟨fun _ _=>⟨rfl,rfl,rfl⟩,rfl,rfl⟩
 |d::G,i,V=>(Qbad V d i).trans ((Qep G (i+1) (Qix V d i)).less (Nat.le_succ i))
def ltV (n:Nat):AVal->Bool
 |.symi _ i=>Nat.blt i n
 |.symb i=>Nat.blt i n
 |.syms i=>Nat.blt i n
 |_=>true
def ltVs (n:Nat):List AVal->Bool
 |[]=>true
 |a::l=>ltV n a&&ltVs n l
def ltPs (n:Nat):List (AVal×AVal)->Bool
 |[]=>true
 |a::l=>ltV n a.1&&ltV n a.2&&ltPs n l
def ltD (n:Nat):SDef->Bool
 |.bin _ a b=>ltV n a&&ltV n b
 |.un _ a=>ltV n a
 |.conv _ a=>ltV n a
 |.low l=>ltVs n l
 |.high l=>ltVs n l
 |.all l=>ltPs n l
 |.text l=>ltVs n l
 |.fn _ _ l=>ltVs n l
 |.fnb _ l=>ltVs n l
 |.ite c a b=>ltV n c&&(ltV n a&&ltV n b)
 |.sel l a=>ltV n a&&ltVs n l
 |.sop _ l=>ltVs n l
theorem Qed {n:Nat} {V U:Sig} (h:Agree n V U) {a:AVal} (ha:ltV n a=true):den V a=den U a:=by
 cases a<;>simp only [ltV,Nat.blt_eq] at ha<;>simp only [den];rw [(h.val _ ha).1];rw [(h.val _ ha).2.1];rw [(h.val _ ha).2.2]
theorem Qgz {n:Nat} {V U:Sig} (h:Agree n V U): ∀{l:List AVal},ltVs n l=true->l.map (den V)=l.map (den U)
 |[],_=>rfl
 |a::l,ha=>by
  simp only [ltVs,Bool.and_eq_true] at ha;simp [Qed h ha.1,Qgz h ha.2]
theorem Qzv {n:Nat} {V U:Sig} (h:Agree n V U): ∀{l:List (AVal×AVal)},ltPs n l=true->(l.all fun x=>eqS (den V x.1) (den V x.2))=(l.all fun x=>eqS (den U x.1) (den U x.2))
 |[],_=>rfl
 |a::l,ha=>by
  simp only [ltPs,Bool.and_eq_true] at ha;simp only [List.all_cons,Qed h ha.1.1,Qed h ha.1.2,Qzv h ha.2]
theorem Qbcm {n:Nat} {V U:Sig} (h:Agree n V U) {d:SDef} (hd:ltD n d=true):Qb V d=Qb U d:=by
 cases d<;>simp only [ltD,Bool.and_eq_true] at hd<;>simp only [Qb];rw [Qed h hd.1,Qed h hd.2];rw [Qed h hd];rw [Qed h hd];rw [Qgz h hd];rw [Qgz h hd];rw [Qzv h hd];rename_i l;have e: ∀ρ:Sig,(l.map fun a=>Qcr (den ρ a))=(l.map (den ρ)).map Qcr:=fun ρ=>by simp
 rw [e,e,Qgz h hd];rename_i l;have e: ∀ρ:Sig,(l.map fun a=>numS (den ρ a))=(l.map (den ρ)).map numS:=fun ρ=>by simp
 rw [e,e,Qgz h hd,h.tab];rename_i l;have e: ∀ρ:Sig,(l.map fun a=>numS (den ρ a))=(l.map (den ρ)).map numS:=fun ρ=>by simp
 rw [e,e,Qgz h hd,h.tab];rw [Qed h hd.1,Qed h hd.2.1,Qed h hd.2.2]
 ·rename_i l a
  rw [Qed h hd.1];have hl:=Qgz h hd.2;cases l with
  |nil=>rfl
  |cons b r=>
   have key: ∀(n:Nat),den V ((b::r).getD n b)=den U ((b::r).getD n b):=by
    intro n;have hh:=congrArg (fun x=>x[n]?) hl;have h0:=congrArg (fun x=>x[0]?) hl;simp only [List.getElem?_map] at hh h0;simp only [List.getD_eq_getElem?_getD];cases hg:(b::r)[n]? with
    |some c=>rw [hg] at hh;simpa using hh
    |none=>simpa using h0
   simp only [key]
 rw [Qgz h hd,h.tab]
def Qv1:AVal->Bool
 |.int _ n=> !(n==0)
 |_=>false
def Qvz:AVal->Bool
 |.int _ n=>decide (0<=n)
 |_=>false
def totB (op:BinOp) (a b:AVal):Bool:=
 match skOf a with
 |some (.i k)=>match skOf b with
  |some (.i k')=>match op with
   |.shl|.shr=>Qvz b
   |.quo|.rem=>decide (k=k')&&Qv1 b
   |.add|.sub|.mul|.and|.or|.xor|.andNot|.eql|.neq|.lss|.leq|.gtr|.geq=>decide (k=k')
  |_=>false
 |some .s=>match skOf b with
  |some .s=>match op with
   |.eql|.neq|.lss|.leq|.gtr|.geq=>true
   |_=>false
  |_=>false
 |some .b=>match skOf b with
  |some .b=>match op with
   |.eql|.neq=>true
   |_=>false
  |_=>false
 |none=>false
def isIv (a:AVal):Bool:=
 match skOf a with
 |some (.i _)=>true
 |_=>false
def isBv (a:AVal):Bool:=
 match skOf a with
 |some .b=>true
 |_=>false
def totL:List AVal->Bool
 |[a,b]=>isIv a&&isIv b
 |[a,b,c]=>isIv a&&isIv b&&isIv c
 |_=>false
def allK (a:AVal):List AVal->Bool
 |[]=>true
 |b::l=>Qda a b&&allK a l
def isSv (a:AVal):Bool:=
 match skOf a with
 |some .s=>true
 |_=>false
def totS (o:SOp) (l:List AVal):Bool:=
 match o with
 |.len=>match l with
  |[a]=>isSv a
  |_=>false
 |.at=>match l with
  |[a,b]=>isSv a&&isIv b
  |_=>false
 |.sub=>match l with
  |[a,b,c]=>isSv a&&(isIv b&&isIv c)
  |_=>false
 |.cat=>match l with
  |[a,b]=>isSv a&&isSv b
  |_=>false
 |.row _=>true
 |.cell _ _=>match l with
  |[a,b]=>isSv a&&isIv b
  |_=>false
 |.rsub _=>match l with
  |[a,b,c]=>isSv a&&(isIv b&&isIv c)
  |_=>false
 |.upd _ _=>match l with
  |a::b::_=>isSv a&&isIv b
  |_=>false
 |.fs _=>true
def totD:SDef->Bool
 |.bin op a b=>totB op a b
 |.un op a=>match op with
  |.not=>isBv a
  |.neg=>isIv a
  |.xor=>isIv a
  |_=>false
 |.conv _ a=>isIv a
 |.low l=>totL l
 |.high l=>totL l
 |.all _=>true
 |.text _=>true
 |.fn _ _ _=>true
 |.fnb _ _=>true
 |.ite c a b=>isBv c&&Qda a b
 |.sel l ix=>isIv ix&&(match l with
  |[]=>false
  |a::r=>Qda a a&&allK a r)
 |.sop o l=>totS o l
theorem Qdf {a:AVal} (h:isIv a=true): ∃k,skOf a=some (.i k):=by
 unfold isIv at h;split at h;exact ⟨_,by assumption⟩;cases h
theorem Q1z {a:AVal} (h:isBv a=true):skOf a=some .b:=by
 unfold isBv at h;split at h;assumption;cases h
theorem Qha {a:AVal} (h:isSv a=true):skOf a=some .s:=by
 unfold isSv at h;split at h;assumption;cases h
def Qgr (V:Sig) (d:SDef):Prop:= ∃v,Qb V d=some v/\ ∀U i,den (setS U i v) (resS d i)=v
theorem set_i (U:Sig) (i:Nat) (k:IntKind) (n:Int):den (setS U i (.int k n)) (.symi k i)=.int k n:=by simp [setS,den]
theorem set_b (U:Sig) (i:Nat) (n:Bool):den (setS U i (.bool n)) (.symb i)=.bool n:=by simp [setS,den]
theorem set_s (U:Sig) (i:Nat) (n:ByteArray):den (setS U i (.str n)) (.syms i)=.str n:=by simp [setS,den]
theorem Qvy {a:AVal} (h:Qda a a=true) (V U:Sig) (i:Nat):den (setS U i (den V a)) (Qbv a i)=den V a:=by
 cases a<;>simp only [Qda,skOf,Bool.false_eq_true] at h<;>simp only [Qbv,den]<;>first|exact set_i _ _ _ _|exact set_b _ _ _|exact set_s _ _ _
theorem Q52 {a b:AVal} (h:Qda a b=true) (i:Nat):Qbv a i=Qbv b i:=by
 cases a<;>simp only [Qda,skOf,Bool.false_eq_true] at h<;>cases b<;>simp only [Bool.false_eq_true] at h<;>simp only [Qbv]<;>(simp only [decide_eq_true_eq] at h;rw [h])
theorem Qbm8 {a b:AVal} (h:Qda a b=true):Qda a a=true:=by
 cases a<;>simp [Qda,skOf] at h⊢
theorem Q8r {a b:AVal} (h:Qda a b=true):Qda b b=true:=by
 cases b<;>cases a<;>simp [Qda,skOf] at h⊢
theorem Qyn {a:AVal}: ∀{l:List AVal},allK a l=true-> ∀c,c∈l->Qda a c=true
 |b::l,h,c,hc=>by
  simp only [allK,Bool.and_eq_true] at h;rcases List.mem_cons.1 hc with rfl|hc
  exact h.1;exact Qyn h.2 c hc
theorem Qbn4 {V:Sig} {op:BinOp} {a b:AVal} (h:totB op a b=true):Qgr V (.bin op a b):=by
 unfold totB at h;split at h;rename_i k ha;obtain ⟨⟨x,hx⟩,hl⟩:=sk_i ha V;split at h
 ·rename_i k' hb
  obtain ⟨⟨y,hy⟩,_⟩:=sk_i hb V;have e:Qb V (.bin op a b)=intA op k x k' y:=by simp only [Qb,hx,hy,binS]
  have lit:Qvz b=true->0<=y:=by
   intro hq;cases b<;>simp only [Qvz,decide_eq_true_eq,Bool.false_eq_true] at hq;simp only [den,AVal.int.injEq] at hy;omega
  have lit':Qv1 b=true->y≠0:=by
   intro hq;cases b<;>simp only [Qv1,Bool.not_eq_true',beq_eq_false_iff_ne,Bool.false_eq_true] at hq;simp only [den,AVal.int.injEq] at hy;obtain ⟨_,rfl⟩:=hy;exact hq
  cases op<;>simp only [Bool.and_eq_true,decide_eq_true_eq] at h
  case shl=>have:=lit h;exact ⟨_,by rw [e];simp only [intA,if_neg (Int.not_lt.2 this)];rfl,fun U i=>by simp only [resS,hl];exact set_i _ _ _ _⟩
  case shr=>have:=lit h;exact ⟨_,by rw [e];simp only [intA,if_neg (Int.not_lt.2 this)];rfl,fun U i=>by simp only [resS,hl];exact set_i _ _ _ _⟩
  case quo=>obtain ⟨rfl,h⟩:=h;have:=lit' h;exact ⟨_,by rw [e];simp only [intA,if_true,if_neg this];rfl,fun U i=>by simp only [resS,hl];exact set_i _ _ _ _⟩
  case rem=>obtain ⟨rfl,h⟩:=h;have:=lit' h;exact ⟨_,by rw [e];simp only [intA,if_true,if_neg this];rfl,fun U i=>by simp only [resS,hl];exact set_i _ _ _ _⟩
  all_goals first
   |(subst h;exact ⟨_,by rw [e];simp only [intA,if_true];rfl,fun U i=>by simp only [resS,hl];exact set_i _ _ _ _⟩)
   |(subst h;exact ⟨_,by rw [e];simp only [intA,if_true];rfl,fun U i=>by simp only [resS];exact set_b _ _ _⟩)
 cases h;rename_i ha;obtain ⟨⟨x,hx⟩,hl⟩:=sk_s ha V;split at h
 ·rename_i hb
  obtain ⟨⟨y,hy⟩,_⟩:=sk_s hb V;have e:Qb V (.bin op a b)=strA op x y:=by simp only [Qb,hx,hy,binS]
  cases op<;>simp only [Bool.false_eq_true] at h
  all_goals exact ⟨_,by rw [e];simp only [strA];rfl,fun U i=>by simp only [resS];exact set_b _ _ _⟩
 cases h;rename_i ha;obtain ⟨⟨x,hx⟩,hl⟩:=sk_b ha V;split at h
 ·rename_i hb
  obtain ⟨⟨y,hy⟩,_⟩:=sk_b hb V;cases op<;>simp only [Bool.false_eq_true] at h
  all_goals exact ⟨_,by simp only [Qb,hx,hy,binS];rfl,fun U i=>by simp only [resS];exact set_b _ _ _⟩
 cases h;cases h
theorem Q9i {V:Sig} {l:List AVal} (h:totL l=true):Qgr V (.low l)/\Qgr V (.high l):=by
 unfold totL at h;split at h;simp only [Bool.and_eq_true] at h;obtain ⟨k,ha⟩:=Qdf h.1;obtain ⟨k',hb⟩:=Qdf h.2;obtain ⟨⟨x,hx⟩,hl⟩:=sk_i ha V;obtain ⟨⟨y,hy⟩,_⟩:=sk_i hb V;exact ⟨⟨_,by simp only [Qb,List.map,hx,hy,minA];rfl,fun U i=>by simp only [resS,hl];exact set_i _ _ _ _⟩,
  ⟨_,by simp only [Qb,List.map,hx,hy,maxA];rfl,fun U i=>by simp only [resS,hl];exact set_i _ _ _ _⟩⟩
 simp only [Bool.and_eq_true] at h;obtain ⟨k,ha⟩:=Qdf h.1.1;obtain ⟨k',hb⟩:=Qdf h.1.2;obtain ⟨k'',hc⟩:=Qdf h.2;obtain ⟨⟨x,hx⟩,hl⟩:=sk_i ha V;obtain ⟨⟨y,hy⟩,_⟩:=sk_i hb V;obtain ⟨⟨z,hz⟩,_⟩:=sk_i hc V;exact ⟨⟨_,by simp only [Qb,List.map,hx,hy,hz,minA];rfl,fun U i=>by simp only [resS,hl];exact set_i _ _ _ _⟩,
  ⟨_,by simp only [Qb,List.map,hx,hy,hz,maxA];rfl,fun U i=>by simp only [resS,hl];exact set_i _ _ _ _⟩⟩
 cases h
theorem Qgw: ∀(cl:List (Option IntKind)) (j:Nat) (l:List UInt8),(∃k n,cl[j]? =some (some k)/\Qc1 cl j l=.int k n)\/((∀k,cl[j]?≠some (some k))/\ ∃b,Qc1 cl j l=.bool b)
 |[],j,l=> .inr ⟨by simp,_,rfl⟩
 |c::cl,0,l=>by
  cases c with
  |some k=>exact .inl ⟨k,_,rfl,rfl⟩
  |none=>exact .inr ⟨by simp,_,rfl⟩
 |c::cl,j+1,l=>by
  rcases Qgw cl j (l.drop (csz c)) with ⟨k,n,h1,h2⟩|⟨h1,b,h2⟩;exact .inl ⟨k,n,by simpa using h1,h2⟩;exact .inr ⟨by simpa using h1,b,h2⟩
theorem Qs0 (k:IntKind) (n:Int):k.wrap (k.wrap n)=k.wrap n:=by
 cases k<;>simp [IntKind.wrap,IntKind.bits,IntKind.signed]<;>(try split)<;>(try split)<;>omega
theorem Qo9: ∀(cl:List (Option IntKind)) (j:Nat) (l:List UInt8) {k:IntKind} {n:Int},Qc1 cl j l=.int k n->k.wrap n=n
 |[],j,l,k,n,h=>by cases h
 |c::cl,0,l,k,n,h=>by
  cases c with
  |some k'=>
   simp only [Qc1,decK,AVal.int.injEq] at h;obtain ⟨rfl,rfl⟩:=h;exact Qs0 _ _
  |none=>simp [Qc1,decK] at h
 |c::cl,j+1,l,k,n,h=>Qo9 cl j (l.drop (csz c)) h
theorem Qbn6 {V:Sig} {o:SOp} {l:List AVal} (h:totS o l=true):Qgr V (.sop o l):=by
 unfold totS at h;split at h;split at h;obtain ⟨⟨x,hx⟩,_⟩:=sk_s (Qha h) V;exact ⟨_,by simp only [Qb,List.map,hx,sopA];rfl,fun U i=>set_i _ _ _ _⟩;cases h;split at h;simp only [Bool.and_eq_true] at h;obtain ⟨⟨x,hx⟩,_⟩:=sk_s (Qha h.1) V;obtain ⟨k,hk⟩:=Qdf h.2;obtain ⟨⟨y,hy⟩,_⟩:=sk_i hk V;exact ⟨_,by simp only [Qb,List.map,hx,hy,sopA];rfl,fun U i=>set_i _ _ _ _⟩;cases h;split at h;simp only [Bool.and_eq_true] at h;obtain ⟨⟨x,hx⟩,_⟩:=sk_s (Qha h.1) V;obtain ⟨k,hk⟩:=Qdf h.2.1;obtain ⟨⟨y,hy⟩,_⟩:=sk_i hk V;obtain ⟨k',hk'⟩:=Qdf h.2.2;obtain ⟨⟨z,hz⟩,_⟩:=sk_i hk' V;exact ⟨_,by simp only [Qb,List.map,hx,hy,hz,sopA];rfl,fun U i=>set_s _ _ _⟩;cases h;split at h;simp only [Bool.and_eq_true] at h;obtain ⟨⟨x,hx⟩,_⟩:=sk_s (Qha h.1) V;obtain ⟨⟨y,hy⟩,_⟩:=sk_s (Qha h.2) V;exact ⟨_,by simp only [Qb,List.map,hx,hy,sopA];rfl,fun U i=>set_s _ _ _⟩;cases h;exact ⟨_,rfl,fun U i=>set_s _ _ _⟩;rename_i cl j;split at h;simp only [Bool.and_eq_true] at h;obtain ⟨⟨x,hx⟩,_⟩:=sk_s (Qha h.1) V;obtain ⟨k,hk⟩:=Qdf h.2;obtain ⟨⟨y,hy⟩,_⟩:=sk_i hk V;refine ⟨_,by simp only [Qb,List.map,hx,hy,sopA];rfl,fun U i=> ?_⟩;simp only [resS,Qm];rcases Qgw cl j (x.data.toList.drop (y.toNat*rsz cl)) with ⟨k,n,h1,h2⟩|⟨h1,b,h2⟩
 rw [h1,h2];exact set_i _ _ _ _;rw [h2];split;rename_i k hk;exact absurd hk (h1 k);exact set_b _ _ _;cases h;split at h;simp only [Bool.and_eq_true] at h;obtain ⟨⟨x,hx⟩,_⟩:=sk_s (Qha h.1) V;obtain ⟨k,hk⟩:=Qdf h.2.1;obtain ⟨⟨y,hy⟩,_⟩:=sk_i hk V;obtain ⟨k',hk'⟩:=Qdf h.2.2;obtain ⟨⟨z,hz⟩,_⟩:=sk_i hk' V;exact ⟨_,by simp only [Qb,List.map,hx,hy,hz,sopA];rfl,fun U i=>set_s _ _ _⟩;cases h;split at h;simp only [Bool.and_eq_true] at h;obtain ⟨⟨x,hx⟩,_⟩:=sk_s (Qha h.1) V;obtain ⟨k,hk⟩:=Qdf h.2;obtain ⟨⟨y,hy⟩,_⟩:=sk_i hk V;exact ⟨_,by simp only [Qb,List.map,hx,hy,sopA];rfl,fun U i=>set_s _ _ _⟩;cases h;exact ⟨_,rfl,fun U i=>set_s _ _ _⟩
theorem Qbn5 {V:Sig} {d:SDef} (h:totD d=true):Qgr V d:=by
 cases d with
 |bin op a b=>exact Qbn4 h
 |un op a=>
  cases op<;>simp only [totD,Bool.false_eq_true] at h
  all_goals first
   |(obtain ⟨⟨x,hx⟩,hl⟩:=sk_b (Q1z h) V;exact ⟨_,by simp only [Qb,hx,unA];rfl,fun U i=>by simp only [resS,hl];exact set_b _ _ _⟩)
   |(obtain ⟨k,hk⟩:=Qdf h;obtain ⟨⟨x,hx⟩,hl⟩:=sk_i hk V;exact ⟨_,by simp only [Qb,hx,unA];rfl,fun U i=>by simp only [resS,hl];exact set_i _ _ _ _⟩)
 |conv k a=>
  obtain ⟨k',hk⟩:=Qdf h;obtain ⟨⟨x,hx⟩,hl⟩:=sk_i hk V;exact ⟨_,by simp only [Qb,hx,Qjc];rfl,fun U i=>by simp only [resS];exact set_i _ _ _ _⟩
 |low l=>exact (Q9i h).1
 |high l=>exact (Q9i h).2
 |all l=>exact ⟨_,rfl,fun U i=>set_b _ _ _⟩
 |text l=>exact ⟨_,rfl,fun U i=>set_s _ _ _⟩
 |fn id k l=>exact ⟨_,rfl,fun U i=>set_i _ _ _ _⟩
 |fnb id l=>exact ⟨_,rfl,fun U i=>set_b _ _ _⟩
 |ite c a b=>
  simp only [totD,Bool.and_eq_true] at h;obtain ⟨⟨x,hx⟩,_⟩:=sk_b (Q1z h.1) V;refine ⟨bif x then den V a else den V b,by simp only [Qb,hx],fun U i=> ?_⟩;simp only [resS];cases x with
  |true=>exact Qvy (Qbm8 h.2) V U i
  |false=>simp only [cond_false];rw [Q52 h.2 i];exact Qvy (Q8r h.2) V U i
 |sel l ix=>
  simp only [totD,Bool.and_eq_true] at h;obtain ⟨k,hk⟩:=Qdf h.1;obtain ⟨⟨x,hx⟩,_⟩:=sk_i hk V;have h2:=h.2;cases l with
  |nil=>cases h2
  |cons a r=>
   simp only [Bool.and_eq_true] at h2;refine ⟨_,by simp only [Qb,hx];rfl,fun U i=> ?_⟩;simp only [resS];have hm:Qda a ((a::r).getD x.toNat a)=true:=by
    simp only [List.getD_eq_getElem?_getD];cases hg:(a::r)[x.toNat]? with
    |none=>simpa using h2.1
    |some c=>
     have hc:=List.mem_of_getElem? hg;rcases List.mem_cons.1 hc with rfl|hc
     simpa using h2.1;exact Qyn h2.2 c hc
   rw [Q52 hm i];exact Qvy (Q8r hm) V U i
 |sop o l=>exact Qbn6 h
def Qcs:SDef->Option Nat
 |.bin op a b=>match op with
  |.quo|.rem=>match skOf a with
   |some (.i k)=>match b with
    |.symi k' j=>if k=k' then some j else none
    |_=>none
   |_=>none
  |_=>none
 |_=>none
def totC (d:SDef):Bool:=
 match Qcs d with
 |some _=>true
 |none=>totD d
theorem Qbbe {V:Sig} {d:SDef} {j:Nat} (h:Qcs d=some j) (hj:V.i j≠0):Qgr V d:=by
 unfold Qcs at h;split at h
 ·rename_i op a b
  have go: ∀k,skOf a=some (.i k)-> ∀k' i,b=.symi k' i->k=k'->i=j->(op=.quo\/op=.rem)->Qgr V (.bin op a b):=by
   intro k ha k' i hb hk hi ho;subst hb;subst hk;subst hi;obtain ⟨⟨x,hx⟩,hl⟩:=sk_i ha V;have hy:den V (.symi k i)=.int k (V.i i):=rfl;rcases ho with rfl|rfl
   have e:Qb V (.bin .quo a (.symi k i))=intA .quo k x k (V.i i):=by simp only [Qb,hx,hy,binS]
   exact ⟨_,by rw [e];simp only [intA,if_true,if_neg hj];rfl,fun U i=>by simp only [resS,hl];exact set_i _ _ _ _⟩;have e:Qb V (.bin .rem a (.symi k i))=intA .rem k x k (V.i i):=by simp only [Qb,hx,hy,binS]
   exact ⟨_,by rw [e];simp only [intA,if_true,if_neg hj];rfl,fun U i=>by simp only [resS,hl];exact set_i _ _ _ _⟩
  cases op<;>simp only [reduceCtorEq] at h
  all_goals
   split at h;rename_i k hk;split at h;rename_i k' i;split at h;rename_i hkk;cases h;exact go k hk _ _ rfl hkk rfl (by simp);cases h;cases h;cases h
 cases h
def okG:List SDef->Nat->Bool
 |[],_=>true
 |d::G,i=>ltD i d&&totC d&&okG G (i+1)
theorem Qbjk (d:SDef) (i:Nat):ltV (i+1) (resS d i)=true:=by
 have like: ∀a:AVal,ltV (i+1) (Qbv a i)=true:=by intro a;cases a<;>simp [Qbv,ltV]
 cases d with
 |bin op a b=>cases op<;>simp only [resS]<;>first|exact like a|simp [ltV]
 |un op a=>exact like a
 |conv k a=>simp [resS,ltV]
 |low l=>cases l<;>simp only [resS]<;>first|exact like _|simp [ltV]
 |high l=>cases l<;>simp only [resS]<;>first|exact like _|simp [ltV]
 |all l=>simp [resS,ltV]
 |text l=>simp [resS,ltV]
 |fn id k l=>simp [resS,ltV]
 |fnb id l=>simp [resS,ltV]
 |ite c a b=>exact like a
 |sel l a=>cases l<;>simp only [resS]<;>first|exact like _|simp [ltV]
 |sop o l=>
  cases o<;>simp only [resS]<;>try (simp [ltV];done)
  split<;>simp [ltV]
theorem Q85: ∀{G:List SDef} {i:Nat} {V:Sig},okG G i=true-> ∀{k:Nat} {d:SDef},G[k]? =some d->(∀j,Qcs d=some j->(solve G i V).i j≠0)->Qb (solve G i V) d=some (den (solve G i V) (resS d (i+k)))
 |[],_,_,_,_,_,h,_=>by simp at h
 |d::G,i,V,h,0,d',hd,hc=>by
  simp only [List.getElem?_cons_zero,Option.some.injEq] at hd;subst hd;simp only [okG,Bool.and_eq_true] at h;obtain ⟨⟨h1,h2⟩,h3⟩:=h;have k1:Agree i V (solve (d::G) i V):=Qep _ _ _;have hgiv:Qgr V d:=by
   unfold totC at h2;split at h2;rename_i j hj;refine Qbbe hj ?_;have hlt:j<i:=by
    unfold Qcs at hj;split at hj
    ·rename_i op a b
     have go: ∀k' l,b=.symi k' l->l=j->j<i:=by
      intro k' l hb hl;subst hb;subst hl;simp only [ltD,ltV,Bool.and_eq_true,Nat.blt_eq] at h1;exact h1.2
     cases op<;>simp only [reduceCtorEq] at hj
     all_goals
      split at hj;split at hj;rename_i k' l;split at hj;cases hj;exact go _ _ rfl rfl;cases hj;cases hj;cases hj
    cases hj
   rw [(k1.val j hlt).1];exact hc j hj;exact Qbn5 h2
  obtain ⟨v,e1,e2⟩:=hgiv;have hs:Qix V d i=setS V i v:=by simp only [Qix,e1]
  have k2:Agree (i+1) (setS V i v) (solve (d::G) i V):=by simp only [solve,hs];exact Qep _ _ _
  rw [<-Qbcm k1 h1,e1,Nat.add_zero,<-Qed k2 (Qbjk d i),e2]
 |d::G,i,V,h,k+1,d',hd,hc=>by
  simp only [okG,Bool.and_eq_true] at h;simp only [List.getElem?_cons_succ] at hd;have:=Q85 (V:=Qix V d i) h.2 hd hc;rw [show i+(k+1)=i+1+k by omega];exact this
end Go.Ev
